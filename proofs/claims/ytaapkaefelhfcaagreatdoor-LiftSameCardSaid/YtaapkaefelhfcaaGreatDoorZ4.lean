/- Lemmas for liftSame, part 4. -/
import Derived.LaidMore
import Derived.Lay
import Derived.Deep.Slices
import Derived.Stop.Joined
import Derived.Deep.Strs
import Derived.Laws.OwnMore
import Derived.Lib.SliceRun
import Derived.Test.YtaapkaefelhfcaaGreatDoorZ3
/- Several texts in one: RefA, RefB, RefC, RefD. -/
namespace Go.Proofs.YtaapkaefelhfcaaGreatDoor
open Go.RowKit
theorem Sl.H8 {w : World} {A : Option Addr} {n : Nat} {xs : List Nat} (h : Sl w A n 1 (gG xs)) {k : Nat} (hk : k ≤ n) : Sl w A k 1 (gG (xs.take k)) := by
 have hl := h.1;rw [cW] at hl;refine ⟨by rw [cW, List.length_take]; omega, fun h0 => ?_⟩;obtain ⟨ad, he, hr⟩ := h.2 Ky;exact ⟨ad, he, by rw [wO]; exact hr.take k⟩
theorem Sl.Iz {w : World} {A : Option Addr} {n : Nat} {xs : List Nat} (h : Sl w A n 1 (gG xs)) : Sl w A (ej xs).length 1 (gG (ej xs)) := by
 have hl := h.1;rw [cW] at hl;have := fB xs;have h2 := h.H8 (k := (ej xs).length) Ky;rwa [← jD] at h2
theorem Hp.G6 {w0 w : World} {H : List HE} {A : Option Addr} {n c : Nat} {t : TypeId} {xs : List Nat} (h : Hp w0 (.row A n c t 1 (gG xs) :: H) w) (hl : xs.length = n) : Hp w0 (.row A (ej xs).length c t 1 (gG (ej xs)) :: H) w := by
 have h1 := fB xs;have h2 := h.zh (k := (ej xs).length) Ky;rw [Nat.mul_one, ← wO, ← jD] at h2;exact h2
theorem kV (A : Option Addr) (n c : Nat) (xs : List Nat) (w : World) (hx : Sl w A n 1 (gG xs)) (hc : n ≤ c) (hn : n ≤ 1000000000000) :
  Calls Tryz.prog 269 #[.slice A n c] w fun e w' => e = .returned (.slice A (ej xs).length c) ∧ Below w.heap.size w w' := by
 have hlen : xs.length = n := by have := hx.1; rw [cW] at this; omega
 have hh := Hp.start w;refine al (N := 21) (l := [.slice A n c]) Tryz.func269 rfl rfl (by simp) ?_;refine sr (aL (aa (sr (mL (aW (aI (aa (ah (aj ?_)))))))));refine bm [3, 6, 7, 8, 9, 10, 11, 12, 13, 14, 15, 16, 17] 3
  (fun v w' => ∃ k : Nat, k ≤ n ∧ v = .int .i64 k ∧ ej (xs.take k) = ej xs ∧ w' = w)
  (fun v _ => (intOf v).toNat) ?_ ?_
 ·exact ⟨n, Nat.le_refl _, rfl, by rw [List.take_of_length_le Ky], rfl⟩
 ·rintro ρ' v w' ⟨k, hk, rfl, hcut, rfl⟩;by_cases h0 : k = 0
  ·subst h0;refine ah (sr (mI ?_));refine ct (mB ?_);refine gS (gS (gS (gS ?_)));refine cn Kz rfl rfl Kz ?_;refine gS ?_;refine eX ?_;refine aa (cF (aJ (az (az (aX (ai (sr (mL (mI ?_)))))))));refine nI (h := 0) aQ.out aF.size rfl rfl Ky Ky Kz ?_;refine aL (aa (ao ?_));refine cq ?_;rw [← hcut];exact ⟨rfl, hh.below⟩
  ·obtain ⟨j, rfl⟩ : ∃ j, k = j + 1 := ⟨k - 1, Ky⟩;obtain ⟨d, hd⟩ := ay (l := xs) (k := j) Ky;obtain ⟨ad, rfl, hr⟩ := hx.at_ Ky;have hd2 := o8 hd;rw [aH hd] at hcut;by_cases hz : d = 0
   ·subst hz;rw [qC] at hcut;refine ah (sr (mI ?_));refine ct (mB (gT (mL (gT (mI (gT ?_))))));refine eO (gT ?_);refine aD (k := j) aQ.out aF.size rfl rfl Ky Ky Kz ?_;refine gT ?_;refine aZ aF.out rfl ((hr.ext hh.below).fP (by assumption)) Kz ?_;refine gT ?_;refine dh ?_;refine e7 ?_;refine aa (cT (ak (ai (aj (aq (mI ?_))))));refine eO (aI (aE (aP (ai ?_))));refine ⟨⟨j, Ky, by show Value.int _ _ = Value.int _ _; congr 1; omega, hcut, rfl⟩, by show (((j + 1 : Nat) : Int) - 1).toNat < (((j + 1 : Nat) : Int)).toNat; omega, ?_⟩;exact KB
   ·rw [tF hz] at hcut;refine ah (sr (mI ?_));refine ct (mB (gT (mL (gT (mI (gT ?_))))));refine eO (gT ?_);refine aD (k := j) aQ.out aF.size rfl rfl Ky Ky Kz ?_;refine gT ?_;refine aZ aF.out rfl ((hr.ext hh.below).fP (by assumption)) Kz ?_;refine gT ?_;refine dh ?_;refine e7 ?_;refine aa (cF (aJ (az (az (aX (ai (sr (mL (mI ?_)))))))));refine nI (h := j + 1) aQ.out aF.size rfl rfl Ky Ky Kz ?_;refine aL (aa (ao ?_));refine cq ?_;rw [← hcut, List.length_append, List.length_take, Nat.min_eq_left Ky];exact ⟨rfl, hh.below⟩
theorem Bm {s : List UInt8} {j k : Nat} {c : UInt8} (hc : (xv s)[j]? = some c.toNat) (hk : k < 8) : c.toNat / 2 ^ k % 2 = bn s / 2 ^ (8 * j + k) % 2 := by
 have h1 := pY (u6 s) hc;rw [← h1, ← bn, Nat.pow_add, Nat.pow_mul, show (2 ^ 8 : Nat) = 256 from rfl, ← Nat.div_div_eq_div_mul];generalize bn s / 256 ^ j = m;have e : (256 : Nat) = 2 ^ k * 2 ^ (8 - k) := by rw [← Nat.pow_add, show k + (8 - k) = 8 by omega]
 have e2 : 2 ^ (8 - k) = 2 * 2 ^ (7 - k) := by rw [← Nat.pow_succ']; congr 1; omega
 rw [e, Nat.mod_mul_right_div_self, e2, Nat.mod_mul_right_mod]
theorem dZ (a : ByteArray) (w : World) (ha : a.size ≤ 1000000000) :
  Calls Tryz.prog 238 #[.string a] w fun e w' => ∃ A c, e = .returned (.slice A (bo 2 (bN a)).length c) ∧ w'.ownsRow w.heap.size 5 1 (.slice A (bo 2 (bN a)).length c) (bo 2 (bN a)).length (gG (bo 2 (bN a))) ∧ Below w.heap.size w w' := by
 have hsz := eF a;have hh := Hp.start w;refine al (N := 28) (l := [.string a]) Tryz.func238 rfl rfl (by simp) ?_;refine sr (aL (aa (sr (aL (aa (ah (sr (mS ?_))))))));refine bW aQ.out rfl Kz ?_;refine eO (aI (aa (aj ?_)));replace hh := hh.ef 5 1;refine cv [3, 4, 5, 9, 10, 11, 12, 13, 14, 15, 16, 17, 18, 19, 20, 21, 22, 23, 24, 25] 3 4
  (fun o v w' => ∃ (j : Nat) (A : Option Addr) (c : Nat), j ≤ a.size ∧ v = .int .i64 ((a.size : Int) - 1 - j) ∧ o = .slice A (8 * j) c ∧ Hp w [.row A (8 * j) c 5 1 (gG (cu 2 (8 * j) (bN a)))] w')
  (fun _ v _ => (intOf v + 1).toNat) ?_ ?_
 ·exact ⟨0, none, 0, Nat.zero_le _, by show Value.int _ _ = Value.int _ _; congr 1; omega, rfl, hh⟩
 ·clear hh;rintro ρ' o v w' ⟨j, A, c, hj, rfl, rfl, hh⟩;by_cases hlt : j < a.size
  ·obtain ⟨ch, hc⟩ := ay (l := a.data.toList) (k := ((a.size : Int) - 1 - j).toNat) Ky;have hlo := EH (s := a.data.toList) (i := j) (c := ch) Ky (by rw [← hc]; congr 1; omega);have hc8 := ch.toNat_lt;refine ah (sr (mI ?_));refine dv (aa (cT (ak (ai (ah (aj (sr (aI (aa (aj ?_))))))))));refine cv [3, 5, 13, 14, 15, 16, 17, 18, 19, 20, 21, 22, 23, 24, 25] 3 5
    (fun o v w' => ∃ (k : Nat) (A : Option Addr) (c : Nat), k ≤ 8 ∧ v = .int .i64 (k : Int) ∧ o = .slice A (8 * j + k) c ∧ Hp w [.row A (8 * j + k) c 5 1 (gG (cu 2 (8 * j + k) (bN a)))] w')
    (fun _ v _ => 8 - (intOf v).toNat) ?_ ?_
   ·exact ⟨0, A, c, Nat.zero_le _, rfl, rfl, hh⟩
   ·clear hh;rintro ρ2 o v w2 ⟨k, A2, c2, hk, rfl, rfl, hh⟩;by_cases hk8 : k < 8
    ·have hst := Bm hlo hk8;have hand : ∀ z : Nat, z &&& 1 = z % 2 := fun z => Nat.and_one_is_mod z;have hcl : ch.toNat / 2 ^ (k : Int).toNat < 256 := Nat.lt_of_le_of_lt (Nat.div_le_self _ _) hc8;refine ah (sr (mI ?_));refine aK (aa (cT (ak (ai (ah (aj (aq (mL (mS (mI ?_))))))))));refine bY aQ.out rfl rfl Ky (by assumption) Kz ?_;refine mI ?_;refine zu rfl rfl Ky Kz ?_;refine lU (b := 1) rfl rfl (by first | assumption | omega) (by first | assumption | omega) Kz ?_;refine aO hh (cs := [_]) aQ.out aF.out (aR (cd rfl) bI) rfl rfl Kz Kz Kz rfl Kz ?_;intro b24 w24 hh;refine cz hh (i := 1) rfl rfl rfl (hh.aM (i := 0) rfl) aQ.out aF.out rfl Kz (by first | rfl | exact cD _ | exact cm _ | exact bH _ | exact bO NR.one _) Ky Ky Kz ?_;intro A25 c25 w25 hh;simp only [List.set_cons_zero, List.set_cons_succ] at hh;replace hh := hh.sub (List.sublist_cons_self _ _);refine aL (aE (aP (ai (aq (mI ?_)))));refine bB (aI (aE (ai ?_)));have e1 : gG (cu 2 (8 * j + k) (bN a)) ++ [Value.int .u8 ((ch.toNat / 2 ^ (k : Int).toNat &&& 1 : Nat) : Int)] = gG (cu 2 (8 * j + (k + 1)) (bN a)) := by
      rw [hand, Int.toNat_natCast, hst, ← Nat.add_assoc, kx, rJ]; rfl
     rw [e1] at hh;refine ⟨⟨k + 1, A25, c25, Ky, rfl, rfl, hh⟩, by show 8 - (k + 1) < 8 - k; omega, ?_⟩;exact KB
    ·obtain rfl : k = 8 := Ky;refine ah (sr (mI ?_));refine aK (aa (cF (aJ (az (az (aX (aP (ai (aq (mI ?_))))))))));refine eO (aI (aE (ai ?_)));refine ⟨⟨j + 1, A2, c2, Ky, by show Value.int _ _ = Value.int _ _; congr 1; omega, rfl, hh⟩, by show ((a.size : Int) - 1 - j - 1 + 1).toNat < ((a.size : Int) - 1 - j + 1).toNat; omega, ?_⟩;exact KB
  ·obtain rfl : j = a.size := Ky;refine ah (sr (mI ?_));refine dv (aa (cF (aJ (az (az (aX (ai (sr (mL ?_)))))))));refine bE hh (kV _ _ _ (cu 2 (8 * a.size) (bN a)) _ (hh.aM (i := 0) rfl) (hh.ee (i := 0) rfl) Ky) rfl ?_;intro w27 hh;refine aL (aa (ao ?_));refine cq ?_;have hb := sY a;rw [show (256 : Nat) = 2 ^ 8 from rfl, ← Nat.pow_mul] at hb;have hd : ej (cu 2 (8 * a.size) (bN a)) = bo 2 (bN a) := by
    rw [fH Ky (fk Ky _ _), cX hb]
   have h1 := (Hp.G6 (xs := cu 2 (8 * a.size) (bN a)) hh (bg _ _)).at_ (i := 0) rfl;rw [hd] at h1;rw [hd];exact ⟨_, _, rfl, h1, hh.below⟩
theorem EY {l : List Nat} {j v : Nat} (h : j < l.length) : l.reverse.set (l.length - 1 - j) v = (l.set j v).reverse := by
 apply List.ext_getElem?;intro i
 rcases Nat.lt_or_ge i l.length with hi | hi
 ·rw [List.getElem?_reverse (by rw [List.length_set]; exact hi), List.length_set, List.getElem?_set, List.getElem?_set, List.getElem?_reverse hi, List.length_reverse];by_cases he : l.length - 1 - j = i
  ·rw [if_pos he, if_pos Ky, if_pos Ky, if_pos h]
  ·rw [if_neg he, if_neg Ky]
 ·rw [List.getElem?_eq_none (by simp; omega), List.getElem?_eq_none (by simp; omega)]
theorem xX {i b k : Nat} (P : Nat) (hP : P < 2 ^ i) (hb : b < 2) (hk : i / 8 < k) : P / 256 ^ (i / 8) % 256 + b * 2 ^ (i % 8) < 256 ∧ (cu 256 k P).set (i / 8) (P / 256 ^ (i / 8) % 256 + b * 2 ^ (i % 8)) = cu 256 k (P + 2 ^ i * b) := by
 have hp : 2 ^ i = 256 ^ (i / 8) * 2 ^ (i % 8) := by
  rw [show (256 : Nat) = 2 ^ 8 from rfl, ← Nat.pow_mul, ← Nat.pow_add]; congr 1; omega
 have h1 : P / 256 ^ (i / 8) < 2 ^ (i % 8) := by
  rw [Nat.div_lt_iff_lt_mul (Nat.pow_pos Ky), Nat.mul_comm, ← hp]; exact hP
 have h2 : 2 ^ (i % 8) ≤ 128 := by
  have := Nat.pow_le_pow_right (show 0 < 2 by omega) (show i % 8 ≤ 7 by omega);omega
 have h3 : P / 256 ^ (i / 8) % 256 < 2 ^ (i % 8) := Nat.lt_of_le_of_lt (Nat.mod_le _ _) h1;have h4 : b * 2 ^ (i % 8) ≤ 1 * 2 ^ (i % 8) := Nat.mul_le_mul_right _ Ky;have h5 : 2 ^ i * b = 256 ^ (i / 8) * (b * 2 ^ (i % 8)) := by rw [hp, Nat.mul_assoc, Nat.mul_comm b]
 refine ⟨Ky, ?_⟩;rw [h5];refine nY Ky hk ?_ Ky;rw [← h5];have h6 : 2 ^ i * b ≤ 2 ^ i * 1 := Nat.mul_le_mul_left _ Ky;have h7 : 2 ^ (i + 1) ≤ 256 ^ k := by
  rw [show (256 : Nat) = 2 ^ 8 from rfl, ← Nat.pow_mul];exact Nat.pow_le_pow_right Ky Ky
 rw [Nat.pow_succ] at h7;omega
theorem fh (A : Option Addr) (n c : Nat) (xs : List Nat) (w : World) (hx : Sl w A n 1 (gG xs)) (hd : Dg 2 xs) (hc : n ≤ c) (hn : n ≤ 100000000000) :
  Calls Tryz.prog 264 #[.slice A n c] w fun e w' => e = .returned (.string (sN (bL 2 xs))) ∧ Below w.heap.size w w' := by
 have hl := hx.1;rw [cW] at hl;have hcl := fB xs;have hcx := hx.Iz;have hcan := fH Ky hd;have hlen := zf (bL 2 xs);rw [hcan] at hcl hcx;have hcd := (dY (B := 2) Ky (bL 2 xs)).1;have hcv := er (B := 2) Ky (bL 2 xs);have hbl : (bo 2 (bL 2 xs)).length = bU (bL 2 xs) := rfl;have hh := Hp.start w;refine al (N := 38) (l := [.slice A n c]) Tryz.func264 rfl rfl (by simp) ?_;refine sr (aS (aa (sr (mL ?_))));refine bE hh (kV _ _ _ xs _ hx hc Ky) rfl ?_;intro w6 hh;rw [hcan];generalize bL 2 xs = M at *;generalize bo 2 M = xs' at *;refine aL (aa (sr (mL (aW ?_))));refine bB ?_;refine jr rfl rfl Ky Ky Ky Kz ?_;refine eT (n := (xs'.length + 7) / 8) hh rfl rfl Ky Ky aQ.out aF.out rfl Ky Ky Kz ?_;intro b11 w11 hh;refine aL (aa (ah (sr (aI (aa (aj ?_))))));rw [nM] at hh;refine bm [4, 12, 13, 14, 15, 16, 17, 18, 19, 20, 21, 22, 23, 24, 25, 26, 27, 28, 29, 30, 31, 32, 33, 34, 35] 4
  (fun v w' => ∃ i : Nat, i ≤ xs'.length ∧ v = .int .i64 i ∧ Hp w [.row (some ⟨b11, 0, none⟩) ((xs'.length + 7) / 8) ((xs'.length + 7) / 8) 5 1 (gG (cu 256 ((xs'.length + 7) / 8) (bL 2 (xs'.take i))).reverse)] w')
  (fun v _ => xs'.length - (intOf v).toNat) ?_ ?_
 ·exact ⟨0, Nat.zero_le _, rfl, by rw [List.take_zero, bL, pg, List.reverse_replicate]; exact hh⟩
 ·clear hh;rintro ρ' v w' ⟨i, hi, rfl, hh⟩;by_cases hlt : i < xs'.length
  ·obtain ⟨d, hdi⟩ := ay (l := xs') (k := i) Ky;obtain ⟨ad, rfl, hr⟩ := hcx.at_ Ky;have hd2 := o8 hdi;have hdw := hcd.at_ hdi;have hP := ir (hcd.take i);rw [List.length_take, Nat.min_eq_left Ky] at hP;obtain ⟨s1, s2⟩ := xX (k := (xs'.length + 7) / 8) (bL 2 (xs'.take i)) hP hdw Ky;have hg : (cu 256 ((xs'.length + 7) / 8) (bL 2 (xs'.take i))).reverse[(xs'.length + 7) / 8 - 1 - i / 8]? = some (bL 2 (xs'.take i) / 256 ^ (i / 8) % 256) := by
    rw [List.getElem?_reverse (by rw [bg]; omega), bg, show (xs'.length + 7) / 8 - 1 - ((xs'.length + 7) / 8 - 1 - i / 8) = i / 8 by omega];exact hQ _ _ _ Ky
   have hg2 := o8 hg;have e1 : ((i : Int) % 8).toNat = i % 8 := Ky;have hset := EY (l := cu 256 ((xs'.length + 7) / 8) (bL 2 (xs'.take i))) (j := i / 8) (v := bL 2 (xs'.take i) / 256 ^ (i / 8) % 256 + d * 2 ^ (i % 8)) (by rw [bg]; omega);rw [bg, s2] at hset;refine ah (sr (mI (mL (aW ?_))));refine aK (aa (cT (ak (ai (ah (aj ?_))))));refine a8 16 [[(3, none)], [(3, none)], [(19, some 1)], [(20, some 2)], [(4, none)], [(22, some 4)], [(21, some 3), (23, some 5)], [(18, some 0), (24, some 6)], [(25, some 7)], [(0, none)], [(4, none)], [(27, some 9), (28, some 10)], [(29, some 11)], [(4, none)], [(31, some 13)], [(30, some 12), (32, some 14)]] [(15, 33), (14, 32), (13, 31), (12, 30), (11, 29), (10, 28), (9, 27), (8, 26), (7, 25), (6, 24), (5, 23), (4, 22), (3, 21), (2, 20), (1, 19), (0, 18)] hh mixed KA ?_;refine jt ?_;refine jt ?_;refine xp ?_;refine wB ?_;refine fJ ?_;refine bF (i := 5) (fun ρ1 w1 hj hR => o4 (show ρ1 22 = Value.int _ _ from hR.1) rfl Ky Ky Ky) ?_;refine wB ?_;refine DF ((xs'.length + 7) / 8 - 1 - i / 8) ?_;refine bF (i := 8) (fun ρ1 w1 hj hR => fO aF.out (show ρ1 25 = Value.pointer _ from hR.1) (hj.hp.cN (i := 0) rfl (by rw [Nat.mul_one]; exact hg2))) ?_;refine jt ?_
   refine fJ ?_;refine mH (i) ?_;refine nV (fun _ hj => (hr.ext hj.hp.below).fP hd2) ?_;refine fJ ?_;refine bF (i := 14) (fun ρ1 w1 hj hR => mX (show ρ1 31 = Value.int _ _ from hR.1) rfl Ky Ky) ?_;refine bF (i := 15) (fun ρ1 w1 hj hR => vr (show ρ1 30 = Value.int _ _ from hR.1) (show ρ1 32 = Value.int _ _ from hR.2.1) Ky) ?_;refine bA ?_;intro f W hJ hV;have hb_6 := hJ.bl;obtain ⟨v33, v32, v31, v30, v29, v28, v27, v26, v25, v24, v23, v22, v21, v20, v19, v18, _⟩ := hV;replace hh := hJ.hp;refine bj (bC (ae v33 (ae v32 (ae v31 (ae v30 (ae v29 (ae v28 (ae v27 (ae v26 (ae v25 (ae v24 (ae v23 (ae v22 (ae v21 (ae v20 (ae v19 (ae v18 bh))))))))))))))))) ?_;dsimp only [cP];clear hJ;refine hH rfl rfl Kz ?_;refine bf (k := (xs'.length + 7) / 8 - 1 - i / 8) aQ.out aF.size rfl rfl Ky Ky Kz ?_;refine bs hh (i := 0) (vs := [_]) rfl rfl (cd rfl) rfl aF.out rfl (by rw [cW, List.length_reverse, bg]; omega) rfl ?_;intro ws hh;simp only [List.set_cons_zero] at hh;rw [e1, Nat.mod_eq_of_lt (show d * 2 ^ (i % 8) < 256 by omega), Nat.mod_eq_of_lt s1, Nat.mul_one, cS (by rw [cW, List.length_reverse, bg]; omega), lZ, hset, ← fF hdi] at hh;refine aE (aP (ai (aq (mI ?_))));refine bB (aI (aE (ai ?_)))
   refine ⟨⟨i + 1, Ky, rfl, hh⟩, by show xs'.length - (i + 1) < xs'.length - i; omega, ?_⟩;exact KB
  ·obtain rfl : i = xs'.length := Ky;rw [List.take_length, hcv, hbl] at hh;have hfin : gG (cu 256 ((bU M + 7) / 8) M).reverse = mR (sb M) := by
    rw [← hlen];have h1 : M < 256 ^ (bo 256 M).length := lY Ky M;rw [wQ Ky h1, Nat.sub_self, List.replicate_zero, List.append_nil, sQ (fun d hd => (dY (B := 256) Ky M).1 d (List.mem_reverse.1 hd)), sb, List.map_reverse]
   rw [hfin, ← hbl] at hh;refine ah (sr (mI (mL (aW ?_))));refine aK (aa (cF (aJ (az (az (aX (ai (sr (mL ?_)))))))));refine lR aQ.out aQ.out aQ.out rfl (hh.aM (i := 0) rfl) Kz ?_;refine aS (aa (ao ?_));refine cq ?_;exact ⟨rfl, hh.below⟩
end Go.Proofs.YtaapkaefelhfcaaGreatDoor
namespace Go.Proofs.YtaapkaefelhfcaaGreatDoor
open Go.RowKit
theorem ES {xs : List Nat} (h : Dg 2 xs) (i : Nat) : bL 2 xs / 2 ^ i % 2 = (xs[i]?).getD 0 := by
 cases hi : xs[i]? with
 | some d => exact pY h hi
 | none =>
  rw [qV h (List.getElem?_eq_none_iff.1 hi) Ky]; rfl
theorem dF (A : Option Addr) (n c i : Nat) (xs : List Nat) (w : World) (hx : Sl w A n 1 (gG xs)) (hd : Dg 2 xs) (hn : n ≤ 1000000000000) (hi : i ≤ 1000000000000) :
  Calls Tryz.prog 286 #[.slice A n c, .int .i64 (i : Int)] w fun e w' => e = .returned (.int .u8 ((bL 2 xs / 2 ^ i % 2 : Nat) : Int)) ∧ Below w.heap.size w w' := by
 have hl := hx.1;rw [cW] at hl;have hh := Hp.start w;rw [ES hd];by_cases hlt : i < n
 ·obtain ⟨d, hdi⟩ := ay (l := xs) (k := i) Ky;obtain ⟨ad, rfl, hr⟩ := hx.at_ Ky;have hd2 := o8 hdi;rw [hdi];refine al (N := 13) (l := [.slice (some ad) n c, .int .i64 (i : Int)]) Tryz.func286 rfl rfl (by simp) ?_;refine sr (aI (aa (ah (sr (mI (mL (aW ?_)))))));refine aK (aa (cT (sr (mL (mI ?_)))));refine aD (k := i) aQ.out aF.size rfl rfl Ky Ky Kz ?_;refine aZ aF.out rfl ((hr.ext hh.below).fP (by assumption)) Kz ?_;refine aI (aa (ao (aG ?_)));refine cq ?_;exact ⟨rfl, hh.below⟩
 ·rw [List.getElem?_eq_none Ky];refine al (N := 13) (l := [.slice A n c, .int .i64 (i : Int)]) Tryz.func286 rfl rfl (by simp) ?_;refine sr (aI (aa (ah (sr (mI (mL (aW ?_)))))));refine aK (aa (cF (ak (ai (sr (aI (aa (ao ?_))))))));refine cq ?_;exact ⟨rfl, hh.below⟩
theorem kQ (X i : Nat) : X / 2 ^ i = 2 * (X / 2 ^ (i + 1)) + X / 2 ^ i % 2 := by
 rw [Nat.pow_succ, ← Nat.div_div_eq_div_mul]; omega
theorem sV {X Y k : Nat} (h : X / 2 ^ k < Y / 2 ^ k) : X < Y := by
 refine Nat.lt_of_not_le fun h2 => ?_;have := Nat.div_le_div_right (c := 2 ^ k) h2;omega
theorem lW (A B : Option Addr) (n c m c' : Nat) (xs ys : List Nat) (w : World) (hx : Sl w A n 1 (gG xs)) (hy : Sl w B m 1 (gG ys)) (hdx : Dg 2 xs) (hdy : Dg 2 ys) (hn : n ≤ 100000000000) (hm : m ≤ 100000000000) :
  Calls Tryz.prog 285 #[.slice A n c, .slice B m c'] w fun e w' => e = .returned (.int .i64 (kC (bL 2 xs) (bL 2 ys))) ∧ Below w.heap.size w w' := by
 have hlx := hx.1;have hly := hy.1;rw [cW] at hlx hly;have hh := Hp.start w;have e1 : (if (m : Int) > (n : Int) then (m : Int) else (n : Int)) - 1 = ((max n m : Nat) : Int) - 1 := by split <;> omega
 refine al (N := 30) (l := [.slice A n c, .slice B m c']) Tryz.func285 rfl rfl (by simp) ?_;refine sr (aI (aa (ah (sr (mL (aW (mL (aW ?_))))))));refine kq rfl rfl Kz ?_;refine eO (aI (aa (aj ?_)));rw [e1];refine bm [4, 5, 12, 13, 14, 15, 16, 17, 18, 19, 20, 21, 22, 23, 24, 25, 26, 27, 28, 29] 5
  (fun v w' => ∃ k : Nat, k ≤ max n m ∧ v = .int .i64 ((k : Int) - 1) ∧ bL 2 xs / 2 ^ k = bL 2 ys / 2 ^ k ∧ Hp w [] w')
  (fun v _ => (intOf v + 1).toNat) ?_ ?_
 ·exact ⟨max n m, Nat.le_refl _, rfl, by rw [qV hdx Ky Ky, qV hdy Ky Ky], hh⟩
 ·clear hh;rintro ρ' v w' ⟨k, hk, rfl, heq, hh⟩;by_cases h0 : k = 0
  ·subst h0;refine ah (sr (mI ?_));refine dv (aa (cF (aJ (az (az (aX (ai (sr (aI (aa (ao ?_)))))))))));refine cq ?_;rw [Nat.pow_zero, Nat.div_one, Nat.div_one] at heq;exact ⟨by rw [AH heq], hh.below⟩
  ·obtain ⟨j, rfl⟩ : ∃ j, k = j + 1 := ⟨k - 1, Ky⟩;have hj : ((j + 1 : Nat) : Int) - 1 = (j : Int) := Ky;have hXb := kQ (bL 2 xs) j;have hYb := kQ (bL 2 ys) j;by_cases hlt : bL 2 xs / 2 ^ j % 2 < bL 2 ys / 2 ^ j % 2
   ·have hf : bL 2 xs < bL 2 ys := sV (k := j) Ky;rw [hj];refine ah (sr (mI ?_));refine dv (aa (cT (ak (ai (ah (aj (ah (sr (mL (mI ?_))))))))));refine bE hh (dF A n c j xs _ (hx.ext hh.below) hdx Ky Ky) rfl ?_;intro w18 hh;refine mL (mI ?_);refine bE hh (dF B m c' j ys _ (hy.ext hh.below) hdy Ky Ky) rfl ?_;intro w21 hh;refine aK (aa (cT (sr (aI (aa (ao (aG (bD (aG (aG (bD (aG ?_))))))))))));refine cq ?_;exact ⟨by rw [kY hf], hh.below⟩
   ·by_cases hgt : bL 2 ys / 2 ^ j % 2 < bL 2 xs / 2 ^ j % 2
    ·have hf : bL 2 ys < bL 2 xs := sV (k := j) Ky;rw [hj];refine ah (sr (mI ?_));refine dv (aa (cT (ak (ai (ah (aj (ah (sr (mL (mI ?_))))))))));refine bE hh (dF A n c j xs _ (hx.ext hh.below) hdx Ky Ky) rfl ?_;intro w18 hh;refine mL (mI ?_);refine bE hh (dF B m c' j ys _ (hy.ext hh.below) hdy Ky Ky) rfl ?_;intro w21 hh;refine aK (aa (cF (ak (ai (sr (mL (mI ?_)))))));refine bE hh (dF A n c j xs _ (hx.ext hh.below) hdx Ky Ky) rfl ?_;intro w25 hh;refine mL (mI ?_);refine bE hh (dF B m c' j ys _ (hy.ext hh.below) hdy Ky Ky) rfl ?_;intro w28 hh;refine ct (aa (cT (sr (aI (aa (ao (bD (aG (aG (bD (aG ?_)))))))))));refine cq ?_;exact ⟨by rw [vj hf], hh.below⟩
    ·rw [hj];refine ah (sr (mI ?_));refine dv (aa (cT (ak (ai (ah (aj (ah (sr (mL (mI ?_))))))))));refine bE hh (dF A n c j xs _ (hx.ext hh.below) hdx Ky Ky) rfl ?_;intro w18 hh;refine mL (mI ?_);refine bE hh (dF B m c' j ys _ (hy.ext hh.below) hdy Ky Ky) rfl ?_;intro w21 hh;refine aK (aa (cF (ak (ai (sr (mL (mI ?_)))))));refine bE hh (dF A n c j xs _ (hx.ext hh.below) hdx Ky Ky) rfl ?_;intro w25 hh;refine mL (mI ?_);refine bE hh (dF B m c' j ys _ (hy.ext hh.below) hdy Ky Ky) rfl ?_;intro w28 hh;refine ct (aa (cF (ak (aP (ai (aq (mI ?_)))))));refine eO (aI (aE (ai ?_)));refine ⟨⟨j, Ky, rfl, Ky, hh⟩, by show ((j : Int) - 1 + 1).toNat < ((j : Int) + 1).toNat; omega, ?_⟩;exact KB
theorem F7 (S T i : Nat) : (S + T) / 2 ^ i % 2 = (S / 2 ^ i % 2 + (S % 2 ^ i + T % 2 ^ i) / 2 ^ i + T / 2 ^ i % 2) % 2 ∧ (S % 2 ^ (i + 1) + T % 2 ^ (i + 1)) / 2 ^ (i + 1) = (S / 2 ^ i % 2 + (S % 2 ^ i + T % 2 ^ i) / 2 ^ i + T / 2 ^ i % 2) / 2 ∧ (S % 2 ^ i + T % 2 ^ i) / 2 ^ i ≤ 1 := by
 have hS := Nat.div_add_mod S (2 ^ i);have hT := Nat.div_add_mod T (2 ^ i);have hp : 0 < 2 ^ i := Nat.pow_pos Ky;have hS2 : S % 2 ^ (i + 1) = S % 2 ^ i + 2 ^ i * (S / 2 ^ i % 2) := by rw [Nat.pow_succ, Nat.mod_mul]
 have hT2 : T % 2 ^ (i + 1) = T % 2 ^ i + 2 ^ i * (T / 2 ^ i % 2) := by rw [Nat.pow_succ, Nat.mod_mul]
 have hSl := Nat.mod_lt S hp;have hTl := Nat.mod_lt T hp;have hc := Nat.div_add_mod (S % 2 ^ i + T % 2 ^ i) (2 ^ i);have hcl := Nat.mod_lt (S % 2 ^ i + T % 2 ^ i) hp;have hc1 : (S % 2 ^ i + T % 2 ^ i) / 2 ^ i ≤ 1 := by
  have : (S % 2 ^ i + T % 2 ^ i) / 2 ^ i < 2 := by rw [Nat.div_lt_iff_lt_mul hp]; omega
  omega
 have e1 : (S + T) / 2 ^ i = S / 2 ^ i + T / 2 ^ i + (S % 2 ^ i + T % 2 ^ i) / 2 ^ i := by
  have : S + T = (S % 2 ^ i + T % 2 ^ i) % 2 ^ i + 2 ^ i * (S / 2 ^ i + T / 2 ^ i + (S % 2 ^ i + T % 2 ^ i) / 2 ^ i) := by
   rw [Nat.mul_add, Nat.mul_add]; omega
  conv => lhs; rw [this]
  rw [Nat.add_mul_div_left _ _ hp, Nat.div_eq_of_lt hcl, Nat.zero_add]
 refine ⟨by rw [e1]; omega, ?_, hc1⟩;rw [hS2, hT2];have e2 : S % 2 ^ i + 2 ^ i * (S / 2 ^ i % 2) + (T % 2 ^ i + 2 ^ i * (T / 2 ^ i % 2)) = (S % 2 ^ i + T % 2 ^ i) % 2 ^ i + 2 ^ i * (S / 2 ^ i % 2 + (S % 2 ^ i + T % 2 ^ i) / 2 ^ i + T / 2 ^ i % 2) := by
  rw [Nat.mul_add, Nat.mul_add]; omega
 rw [e2, Nat.pow_succ, ← Nat.div_div_eq_div_mul, Nat.add_mul_div_left _ _ hp, Nat.div_eq_of_lt hcl, Nat.zero_add]
theorem Hl (Y up i : Nat) : Y * 2 ^ up / 2 ^ i % 2 = if up ≤ i then Y / 2 ^ (i - up) % 2 else 0 := by
 split
 ·rename_i h;have e : 2 ^ i = 2 ^ up * 2 ^ (i - up) := by rw [← Nat.pow_add]; congr 1; omega
  rw [e, ← Nat.div_div_eq_div_mul, Nat.mul_div_cancel _ (Nat.pow_pos Ky)]
 ·rename_i h;have e : 2 ^ up = 2 ^ i * 2 * 2 ^ (up - i - 1) := by rw [← Nat.pow_succ, ← Nat.pow_add]; congr 1; omega
  have e2 : Y * 2 ^ up = 2 ^ i * (2 * (Y * 2 ^ (up - i - 1))) := by rw [e]; simp only [Nat.mul_assoc, Nat.mul_left_comm]
  rw [e2, Nat.mul_div_cancel_left _ (Nat.pow_pos Ky)];omega
theorem GR {K i N : Nat} (h : i < K) : (cu 2 i N ++ List.replicate (K - i) 0).set i (N / 2 ^ i % 2) = cu 2 (i + 1) N ++ List.replicate (K - (i + 1)) 0 := by
 rw [show K - i = (K - (i + 1)) + 1 by omega, List.replicate_succ, List.set_append_right _ _ (by rw [bg]; omega), bg, Nat.sub_self, List.set_cons_zero, kx];simp
theorem xy (A B : Option Addr) (n c m c' up : Nat) (xs ys : List Nat) (w : World) (hx : Sl w A n 1 (gG xs)) (hy : Sl w B m 1 (gG ys)) (hdx : Dg 2 xs) (hdy : Dg 2 ys) (hn : n ≤ 100000000000) (hm : m ≤ 100000000000) (hup : up ≤ 100000000000) :
  Calls Tryz.prog 266 #[.slice A n c, .slice B m c', .int .i64 (up : Int)] w fun e w' => ∃ b, e = .returned (.slice (some ⟨b, 0, none⟩) (max n (m + up) + 1) (max n (m + up) + 1)) ∧ w'.ownsRow w.heap.size 5 1 (.slice (some ⟨b, 0, none⟩) (max n (m + up) + 1) (max n (m + up) + 1)) (max n (m + up) + 1) (gG (cu 2 (max n (m + up) + 1) (bL 2 xs + bL 2 ys * 2 ^ up))) ∧ Below w.heap.size w w' := by
 have hlx := hx.1;have hly := hy.1;rw [cW] at hlx hly;have hh := Hp.start w;have e1 : (if ((m : Int) + (up : Int)) > (n : Int) then ((m : Int) + (up : Int)) else (n : Int)) + 1 = ((max n (m + up) + 1 : Nat) : Int) := by split <;> omega
 have hand : ∀ z : Nat, z &&& 1 = z % 2 := fun z => Nat.and_one_is_mod z;refine al (N := 49) (l := [.slice A n c, .slice B m c', .int .i64 (up : Int)]) Tryz.func266 rfl rfl (by simp) ?_;refine sr (aL (aa (sr (mL (aW (mL (aW (mI ?_))))))));refine bB ?_;refine kq rfl rfl Kz ?_;refine bB ?_;rw [e1];generalize hK : max n (m + up) + 1 = K at *;refine eT (n := K) hh rfl rfl Ky Ky aQ.out aF.out rfl Ky Ky Kz ?_;intro b19 w19 hh;refine aL (aa (sr (aI (aa (ah (sr (aI (aa (aj ?_)))))))));rw [nM] at hh;refine cv [8, 9, 10, 20, 21, 22, 23, 24, 25, 26, 27, 28, 29, 30, 31, 32, 33, 34, 35, 36, 37, 38, 39, 40, 41, 42, 43, 44, 45, 46, 47] 8 9
  (fun cr v w' => ∃ i : Nat, i ≤ K ∧ v = .int .i64 (i : Int) ∧ cr = .int .u8 (((bL 2 xs % 2 ^ i + bL 2 ys * 2 ^ up % 2 ^ i) / 2 ^ i : Nat) : Int) ∧ Hp w [.row (some ⟨b19, 0, none⟩) K K 5 1 (gG (cu 2 i (bL 2 xs + bL 2 ys * 2 ^ up) ++ List.replicate (K - i) 0))] w')
  (fun _ v _ => K - (intOf v).toNat) ?_ ?_
 ·exact ⟨0, Nat.zero_le _, rfl, by simp [Nat.mod_one]; rfl, hh⟩
 ·clear hh;rintro ρ' cr v w' ⟨i, hi, rfl, rfl, hh⟩;by_cases hlt : i < K
  ·obtain ⟨b1, b2, b3⟩ := F7 (bL 2 xs) (bL 2 ys * 2 ^ up) i;have hbu := Hl (bL 2 ys) up i;have hxb : bL 2 xs / 2 ^ i % 2 < 2 := Nat.mod_lt _ Ky;have hyb : bL 2 ys / 2 ^ (i - up) % 2 < 2 := Nat.mod_lt _ Ky;have hll : (gG (cu 2 i (bL 2 xs + bL 2 ys * 2 ^ up) ++ List.replicate (K - i) 0)).length = K := by rw [cW, List.length_append, bg, List.length_replicate]; omega
   have hfk := GR (N := bL 2 xs + bL 2 ys * 2 ^ up) hlt;generalize hC : (bL 2 xs % 2 ^ i + bL 2 ys * 2 ^ up % 2 ^ i) / 2 ^ i = C at *;generalize hX : bL 2 xs / 2 ^ i % 2 = X at *;refine ah (sr (mI (mL (aW ?_))));refine aK (aa (cT (ak (ai (ah (aj (sr (mL (mI ?_)))))))));refine bE hh (dF A n c i xs _ (hx.ext hh.below) hdx Ky Ky) rfl ?_;intro w28 hh;rw [hX];by_cases hiu : up ≤ i
   ·rw [if_pos hiu] at hbu;rw [hbu] at b1 b2;generalize hY : bL 2 ys / 2 ^ (i - up) % 2 = Y at *;have es : ((X + C) % 256 + Y) % 256 = X + C + Y := Ky;have ei : (i : Int) - (up : Int) = ((i - up : Nat) : Int) := Ky;refine mI ?_;refine hH rfl rfl Kz ?_;refine aI (aa (ah (sr (mI (mI ?_)))));refine dv (aa (cT (aq (mI (mL (mI (mI ?_)))))));refine eO ?_;rw [ei];refine bE hh (dF B m c' (i - up) ys _ (hy.ext hh.below) hdy Ky Ky) rfl ?_;intro w39 hh;rw [hY];refine hH rfl rfl Kz ?_;refine aI (aa (sr (mL (mI (mI ?_)))));refine lU (b := 1) rfl rfl (by first | assumption | omega) (by first | assumption | omega) Kz ?_;refine bf (k := i) aQ.out aF.size rfl rfl Ky Ky Kz ?_;refine bs hh (i := 0) (vs := [_]) rfl rfl (cd rfl) rfl aF.out rfl (by rw [hll]; omega) rfl ?_;intro ws hh;simp only [List.set_cons_zero] at hh;rw [hand, es, Nat.mul_one, cS (by rw [hll]; omega), lZ, ← b1, hfk] at hh;refine aa (aq (mI ?_));refine eV (s := 1) (m := 2) rfl rfl Kz Kz Kz ?_;refine aI (aE (aP (ai (aq (mI ?_)))));refine bB (aI (aE (ai ?_)));rw [es];refine ⟨⟨i + 1, Ky, rfl, by rw [b2]; rfl, hh⟩, by show K - (i + 1) < K - i; omega, ?_⟩;exact KB
   ·rw [if_neg hiu] at hbu;rw [hbu] at b1 b2;have es : (X + C) % 256 = X + C + 0 := Ky;refine mI ?_;refine hH rfl rfl Kz ?_;refine aI (aa (ah (sr (mI (mI ?_)))));refine dv (aa (cF (ak (ai (sr (mL (mI (mI ?_))))))));refine lU (b := 1) rfl rfl (by first | assumption | omega) (by first | assumption | omega) Kz ?_;refine bf (k := i) aQ.out aF.size rfl rfl Ky Ky Kz ?_;refine bs hh (i := 0) (vs := [_]) rfl rfl (cd rfl) rfl aF.out rfl (by rw [hll]; omega) rfl ?_;intro ws hh;simp only [List.set_cons_zero] at hh;rw [hand, es, Nat.mul_one, cS (by rw [hll]; omega), lZ, ← b1, hfk] at hh;refine aa (aq (mI ?_));refine eV (s := 1) (m := 2) rfl rfl Kz Kz Kz ?_;refine aI (aE (aP (ai (aq (mI ?_)))));refine bB (aI (aE (ai ?_)));rw [es];refine ⟨⟨i + 1, Ky, rfl, by rw [b2]; rfl, hh⟩, by show K - (i + 1) < K - i; omega, ?_⟩;exact KB
  ·obtain rfl : i = K := Ky;rw [Nat.sub_self, List.replicate_zero, List.append_nil] at hh;refine ah (sr (mI (mL (aW ?_))));refine aK (aa (cF (aJ (az (az (aX (ai (sr (mL (aL (aa (ao ?_))))))))))));refine cq ?_;exact ⟨_, rfl, hh.at_ (i := 0) rfl, hh.below⟩
end Go.Proofs.YtaapkaefelhfcaaGreatDoor
namespace Go.Proofs.YtaapkaefelhfcaaGreatDoor
open Go.RowKit
theorem FY {X Y : Nat} (h : Y ≤ X) (i : Nat) : ((2 + X / 2 ^ i % 2 + 256 - Y / 2 ^ i % 2) % 256 + 256 - (if X % 2 ^ i < Y % 2 ^ i then 1 else 0)) % 256 % 2 = (X - Y) / 2 ^ i % 2 ∧
  (1 + 256 - ((2 + X / 2 ^ i % 2 + 256 - Y / 2 ^ i % 2) % 256 + 256 - (if X % 2 ^ i < Y % 2 ^ i then 1 else 0)) % 256 / 2) % 256 = (if X % 2 ^ (i + 1) < Y % 2 ^ (i + 1) then 1 else 0) := by
 have hX := Nat.div_add_mod X (2 ^ i);have hY := Nat.div_add_mod Y (2 ^ i);have hp : 0 < 2 ^ i := Nat.pow_pos Ky;have hX2 : X % 2 ^ (i + 1) = X % 2 ^ i + 2 ^ i * (X / 2 ^ i % 2) := by rw [Nat.pow_succ, Nat.mod_mul]
 have hY2 : Y % 2 ^ (i + 1) = Y % 2 ^ i + 2 ^ i * (Y / 2 ^ i % 2) := by rw [Nat.pow_succ, Nat.mod_mul]
 have hXl := Nat.mod_lt X hp;have hYl := Nat.mod_lt Y hp;rw [hX2, hY2];generalize hx1 : X / 2 ^ i = x1 at *;generalize hy1 : Y / 2 ^ i = y1 at *;generalize hx0 : X % 2 ^ i = x0 at *;generalize hy0 : Y % 2 ^ i = y0 at *;have key : ∀ b : Nat, b = (if x0 < y0 then 1 else 0) → (X - Y) / 2 ^ i = x1 - y1 - b ∧ y1 + b ≤ x1 := by
  intro b hb;have hle : y1 + b ≤ x1 := by
   refine Nat.le_of_not_lt fun hlt => ?_;have h1 : 2 ^ i * (x1 + 1) ≤ 2 ^ i * (y1 + b) := Nat.mul_le_mul_left _ hlt;rw [Nat.mul_add, Nat.mul_add] at h1;split at hb
   ·subst hb; omega
   ·subst hb; omega
  refine ⟨?_, hle⟩;have e : X - Y = (x0 + 2 ^ i * b - y0) + 2 ^ i * (x1 - y1 - b) := by
   have h2 : 2 ^ i * (x1 - y1 - b) = 2 ^ i * x1 - 2 ^ i * y1 - 2 ^ i * b := by rw [Nat.mul_sub, Nat.mul_sub]
   have h3 : 2 ^ i * (y1 + b) ≤ 2 ^ i * x1 := Nat.mul_le_mul_left _ hle;rw [Nat.mul_add] at h3;split at hb
   ·subst hb; omega
   ·subst hb; omega
  rw [e, Nat.add_mul_div_left _ _ hp, Nat.div_eq_of_lt, Nat.zero_add];split at hb
  ·subst hb; omega
  ·subst hb; omega
 obtain ⟨k1, k2⟩ := key _ rfl;rw [k1];have hlt : (x0 + 2 ^ i * (x1 % 2) < y0 + 2 ^ i * (y1 % 2)) ↔ (x1 % 2 < y1 % 2 ∨ x1 % 2 = y1 % 2 ∧ x0 < y0) := by
  rcases Nat.mod_two_eq_zero_or_one x1 with h1 | h1 <;> rcases Nat.mod_two_eq_zero_or_one y1 with h2 | h2 <;> rw [h1, h2] <;> omega
 by_cases hb : x0 < y0
 ·rw [if_pos hb] at k2 ⊢;refine ⟨Ky, ?_⟩;by_cases hc : x0 + 2 ^ i * (x1 % 2) < y0 + 2 ^ i * (y1 % 2)
  ·rw [if_pos hc]; rw [hlt] at hc; omega
  ·rw [if_neg hc]; rw [hlt] at hc; omega
 ·rw [if_neg hb] at k2 ⊢;refine ⟨Ky, ?_⟩;by_cases hc : x0 + 2 ^ i * (x1 % 2) < y0 + 2 ^ i * (y1 % 2)
  ·rw [if_pos hc]; rw [hlt] at hc; omega
  ·rw [if_neg hc]; rw [hlt] at hc; omega
theorem nW (A B : Option Addr) (n c m c' : Nat) (xs ys : List Nat) (w : World) (hx : Sl w A n 1 (gG xs)) (hy : Sl w B m 1 (gG ys)) (hdx : Dg 2 xs) (hdy : Dg 2 ys) (hn : n ≤ 100000000000) (hm : m ≤ 100000000000) (hle : bL 2 ys ≤ bL 2 xs) :
  Calls Tryz.prog 268 #[.slice A n c, .slice B m c'] w fun e w' => ∃ b, e = .returned (.slice (some ⟨b, 0, none⟩) n n) ∧ w'.ownsRow w.heap.size 5 1 (.slice (some ⟨b, 0, none⟩) n n) n (gG (cu 2 n (bL 2 xs - bL 2 ys))) ∧ Below w.heap.size w w' := by
 have hlx := hx.1;have hly := hy.1;rw [cW] at hlx hly;have hh := Hp.start w;have hand : ∀ z : Nat, z &&& 1 = z % 2 := fun z => Nat.and_one_is_mod z;refine al (N := 37) (l := [.slice A n c, .slice B m c']) Tryz.func268 rfl rfl (by simp) ?_;refine sr (aL (aa (sr (mL (aW ?_)))));refine eT (n := n) hh rfl rfl Ky Ky aQ.out aF.out rfl Ky Ky Kz ?_;intro b11 w11 hh;refine aL (aa (sr (aI (aa (ah (sr (aI (aa (aj ?_)))))))));rw [nM] at hh;refine cv [6, 7, 8, 12, 13, 14, 15, 16, 17, 18, 19, 20, 21, 22, 23, 24, 25, 26, 27, 28, 29, 30, 31, 32, 33, 34, 35] 6 7
  (fun cr v w' => ∃ i : Nat, i ≤ n ∧ v = .int .i64 (i : Int) ∧ cr = .int .u8 ((if bL 2 xs % 2 ^ i < bL 2 ys % 2 ^ i then 1 else 0 : Nat) : Int) ∧ Hp w [.row (some ⟨b11, 0, none⟩) n n 5 1 (gG (cu 2 i (bL 2 xs - bL 2 ys) ++ List.replicate (n - i) 0))] w')
  (fun _ v _ => n - (intOf v).toNat) ?_ ?_
 ·exact ⟨0, Nat.zero_le _, rfl, by simp [Nat.mod_one]; rfl, hh⟩
 ·clear hh;rintro ρ' cr v w' ⟨i, hi, rfl, rfl, hh⟩;by_cases hlt : i < n
  ·obtain ⟨b1, b2⟩ := FY hle i;have hxb : bL 2 xs / 2 ^ i % 2 < 2 := Nat.mod_lt _ Ky;have hyb : bL 2 ys / 2 ^ i % 2 < 2 := Nat.mod_lt _ Ky;have hcb : (if bL 2 xs % 2 ^ i < bL 2 ys % 2 ^ i then 1 else 0 : Nat) ≤ 1 := by split <;> omega
   have hll : (gG (cu 2 i (bL 2 xs - bL 2 ys) ++ List.replicate (n - i) 0)).length = n := by rw [cW, List.length_append, bg, List.length_replicate]; omega
   have hfk := GR (N := bL 2 xs - bL 2 ys) hlt;refine ah (sr (mI (mL (aW ?_))));refine aK (aa (cT (ak (ai (ah (aj (sr (mL (mI ?_)))))))));refine bE hh (dF A n c i xs _ (hx.ext hh.below) hdx Ky Ky) rfl ?_;intro w20 hh;refine hH (a := 2) rfl rfl Kz ?_;refine mL (mI ?_);refine bE hh (dF B m c' i ys _ (hy.ext hh.below) hdy Ky Ky) rfl ?_;intro w24 hh;generalize hC : (if bL 2 xs % 2 ^ i < bL 2 ys % 2 ^ i then 1 else 0 : Nat) = C at *;generalize hX : bL 2 xs / 2 ^ i % 2 = X at *;generalize hY : bL 2 ys / 2 ^ i % 2 = Y at *;have es : ((2 + X) % 256 + 256 - Y) % 256 = (2 + X + 256 - Y) % 256 := Ky;have hS : ((2 + X + 256 - Y) % 256 + 256 - C) % 256 < 256 := Nat.mod_lt _ Ky;refine yD rfl rfl Ky Kz ?_;refine mI ?_;rw [es];refine yD rfl rfl Ky Kz ?_;refine aI (aa (sr (mL (mI (mI ?_)))));refine lU (b := 1) rfl rfl (by first | assumption | omega) (by first | assumption | omega) Kz ?_;refine bf (k := i) aQ.out aF.size rfl rfl Ky Ky Kz ?_;refine bs hh (i := 0) (vs := [_]) rfl rfl (cd rfl) rfl aF.out rfl (by rw [hll]; omega) rfl ?_;intro ws hh;simp only [List.set_cons_zero] at hh;rw [hand, b1, Nat.mul_one, cS (by rw [hll]; omega), lZ, hfk] at hh;refine aa (aq (mI ?_))
   refine eV (s := 1) (m := 2) rfl rfl Kz Kz Kz ?_;refine yD (a := 1) rfl rfl Ky Kz ?_;refine aI (aE (aP (ai (aq (mI ?_)))));refine bB (aI (aE (ai ?_)));refine ⟨⟨i + 1, Ky, rfl, by rw [← b2]; rfl, hh⟩, by show n - (i + 1) < n - i; omega, ?_⟩;exact KB
  ·obtain rfl : i = n := Ky;rw [Nat.sub_self, List.replicate_zero, List.append_nil] at hh;refine ah (sr (mI (mL (aW ?_))));refine aK (aa (cF (aJ (az (az (aX (ai (sr (mL (aL (aa (ao ?_))))))))))));refine cq ?_;exact ⟨_, rfl, hh.at_ (i := 0) rfl, hh.below⟩
theorem sP (n : Nat) (w : World) (hn : n < 18446744073709551616) :
  Calls Tryz.prog 240 #[.int .u64 (n : Int)] w fun e w' => e = .returned (.string (sN n)) ∧ Below w.heap.size w w' := by
 have hh := Hp.start w;refine al (N := 16) (l := [.int .u64 (n : Int)]) Tryz.func240 rfl rfl (by simp) ?_;refine sr (aS (aa (sr (aL (aa (ah (aj ?_)))))));replace hh := hh.ef 5 1;refine cv [0, 3, 4, 5, 6, 7, 8, 9, 10, 11, 12, 13] 0 3
  (fun v o w' => ∃ (k m : Nat) (A : Option Addr) (c : Nat), v = .int .u64 (m : Int) ∧ m < 18446744073709551616 ∧ k ≤ 64 ∧ m < 2 ^ (64 - k) ∧ o = .slice A k c ∧ m = n / 2 ^ k ∧ Hp w [.row A k c 5 1 (gG (cu 2 k n))] w')
  (fun v _ _ => (intOf v).toNat) ?_ ?_
 ·exact ⟨0, n, none, 0, rfl, hn, Ky, by simpa using hn, rfl, by simp, hh⟩
 ·clear hh;rintro ρ' v o w' ⟨k, m, A, c, rfl, hm, hk, hmk, rfl, hmn, hh⟩;by_cases h0 : m = 0
  ·subst h0;refine ah (sr (mI ?_));refine ct (aa (cF (aJ (az (az (aX (ai (sr (mL ?_)))))))));refine bE hh (fh _ _ _ (cu 2 k n) _ (hh.aM (i := 0) rfl) (fk Ky _ _) (hh.ee (i := 0) rfl) Ky) rfl ?_;intro w15 hh;have hlt : n < 2 ^ k := by
    have := Nat.div_add_mod n (2 ^ k);have h2 := Nat.mod_lt n (Nat.pow_pos (n := k) (show 0 < 2 by omega));rw [← hmn] at this;omega
   rw [cX hlt];refine aS (aa (ao ?_));refine cq ?_;exact ⟨rfl, hh.below⟩
  ·have hk64 : k < 64 := by
    refine Nat.lt_of_not_le fun h => ?_;rw [show 64 - k = 0 by omega] at hmk;omega
   have hm2 : m % 2 < 256 := Ky;refine ah (sr (mI ?_));refine ct (aa (cT (ak (ai (ah (aj (aq (mL (mI ?_)))))))));refine x8 (b := 2) rfl rfl Ky Kz ?_;refine eo aQ.out aQ.out rfl (by first | assumption | omega) Kz ?_;refine aO hh (cs := [_]) aQ.out aF.out (aR (cd rfl) bI) rfl rfl Kz Kz Kz rfl Kz ?_;intro b12 w12 hh;refine cz hh (i := 1) rfl rfl rfl (hh.aM (i := 0) rfl) aQ.out aF.out rfl Kz (by first | rfl | exact cD _ | exact cm _ | exact bH _ | exact bO NR.one _) Ky Ky Kz ?_;intro A13 c13 w13 hh;simp only [List.set_cons_zero, List.set_cons_succ] at hh;replace hh := hh.sub (List.sublist_cons_self _ _);refine aL (aE (aP (ai (aq (mI ?_)))));refine Hg (b := 2) rfl rfl Ky (by first | assumption | omega) Kz ?_;refine aI (aE (ai ?_));have e1 : gG (cu 2 k n) ++ [Value.int .u8 ((m % 2 : Nat) : Int)] = gG (cu 2 (k + 1) n) := by
    rw [hmn, kx, rJ]; rfl
   rw [e1] at hh;refine ⟨⟨k + 1, m / 2, A13, c13, rfl, Ky, Ky, ?_, rfl, ?_, hh⟩, by show (((m / 2 : Nat) : Int)).toNat < ((m : Int)).toNat; omega, ?_⟩
   ·rw [show 64 - k = (64 - (k + 1)) + 1 by omega, Nat.pow_succ] at hmk;omega
   ·rw [hmn, Nat.div_div_eq_div_mul, Nat.pow_succ]
   ·exact KB
theorem iW (a : ByteArray) : (bo 2 (bN a)).length ≤ 8 * a.size := gM a
theorem jJ (n : Nat) : Dg 2 (bo 2 n) := (dY Ky n).1
theorem ig (n : Nat) : bL 2 (bo 2 n) = n := er Ky n
theorem rg (a b : ByteArray) (w : World) (ha : a.size ≤ 1000000000) (hb : b.size ≤ 1000000000) :
  Calls Tryz.prog 267 #[.string a, .string b] w fun e w' => e = .returned (.int .i64 (kC (bN a) (bN b))) ∧ Below w.heap.size w w' := by
 have hh := Hp.start w;have h1 := iW a;have h2 := iW b;refine al (N := 10) (l := [.string a, .string b]) Tryz.func267 rfl rfl (by simp) ?_;refine sr (aI (aa (sr (mS ?_))));refine aN (dZ a _ ha) aw.out rfl Kz ?_;rintro e_ w6 ⟨A6, c6, rfl, hown_, hb_⟩;refine ⟨_, rfl, ?_⟩;replace hh := hh.bz (x := .row _ _ _ _ _ _) hb_ hown_;refine mS ?_;refine aN (dZ b _ hb) aw.out rfl Kz ?_;rintro e_ w8 ⟨A8, c8, rfl, hown_, hb_⟩;refine ⟨_, rfl, ?_⟩;replace hh := hh.bz (x := .row _ _ _ _ _ _) hb_ hown_;refine bE hh (lW _ _ _ _ _ _ (bo 2 (bN a)) (bo 2 (bN b)) _ (hh.aM (i := 1) rfl) (hh.aM (i := 0) rfl) (jJ _) (jJ _) Ky Ky) rfl ?_;intro w9 hh;rw [ig, ig];refine aI (aa (ao ?_));refine cq ?_;exact ⟨rfl, hh.below⟩
theorem m9 (a : ByteArray) (w : World) (ha : a.size ≤ 1000000000) :
  Calls Tryz.prog 263 #[.string a] w fun e w' => e = .returned (.int .i64 (bU (bN a))) ∧ Below w.heap.size w w' := by
 have hh := Hp.start w;refine al (N := 6) (l := [.string a]) Tryz.func263 rfl rfl (by simp) ?_;refine sr (aI (aa (sr (mS ?_))));refine aN (dZ a _ ha) aw.out rfl Kz ?_;rintro e_ w4 ⟨A4, c4, rfl, hown_, hb_⟩;refine ⟨_, rfl, ?_⟩;replace hh := hh.bz (x := .row _ _ _ _ _ _) hb_ hown_;refine aW (aI (aa (ao ?_)));refine cq ?_;exact ⟨rfl, hh.below⟩
theorem m4 (a b : ByteArray) (w : World) (ha : a.size ≤ 1000000000) (hb : b.size ≤ 1000000000) :
  Calls Tryz.prog 236 #[.string a, .string b] w fun e w' => e = .returned (.tuple #[.string (sN (bN a - bN b)), .bool (decide (bN b ≤ bN a))]) ∧ Below w.heap.size w w' := by
 have hh := Hp.start w;have h1 := iW a;have h2 := iW b;by_cases hlt : bN a < bN b
 ·refine al (N := 16) (l := [.string a, .string b]) Tryz.func236 rfl rfl (by simp) ?_;refine sr (aS (aB (aa (ah (sr (mS (mS ?_)))))));refine bE hh (rg a b _ ha hb) rfl ?_;intro w8 hh;rw [kY hlt];refine aK (aa (cT (sr (aS (aB (aa (ao (aG ?_))))))));refine xK ?_;rw [Nat.sub_eq_zero_of_le Ky, decide_eq_false Ky, jw];exact ⟨rfl, hh.below⟩
 ·have hc : ¬ kC (bN a) (bN b) < 0 := by unfold kC; split <;> (try split) <;> omega
  have hbl : bN a - bN b < 2 ^ (bo 2 (bN a)).length := Nat.lt_of_le_of_lt (Nat.sub_le _ _) (dL (bN a));refine al (N := 16) (l := [.string a, .string b]) Tryz.func236 rfl rfl (by simp) ?_;refine sr (aS (aB (aa (ah (sr (mS (mS ?_)))))));refine bE hh (rg a b _ ha hb) rfl ?_;intro w8 hh;refine aK (aa (cF (ak (ai (sr (mS ?_))))));refine aN (dZ a _ ha) aw.out rfl Kz ?_;rintro e_ w11 ⟨A11, c11, rfl, hown_, hb_⟩;refine ⟨_, rfl, ?_⟩;replace hh := hh.bz (x := .row _ _ _ _ _ _) hb_ hown_;refine mS ?_;refine aN (dZ b _ hb) aw.out rfl Kz ?_;rintro e_ w13 ⟨A13, c13, rfl, hown_, hb_⟩;refine ⟨_, rfl, ?_⟩;replace hh := hh.bz (x := .row _ _ _ _ _ _) hb_ hown_;refine aN (nW _ _ _ _ _ _ (bo 2 (bN a)) (bo 2 (bN b)) _ (hh.aM (i := 1) rfl) (hh.aM (i := 0) rfl) (jJ _) (jJ _) Ky Ky (by rw [ig, ig]; omega)) aw.out rfl Kz ?_;rintro e_ w_ ⟨b14, rfl, hown_, hb_⟩;refine ⟨_, rfl, ?_⟩;replace hh := hh.bz (x := .row _ _ _ _ _ _) hb_ hown_;rw [ig, ig] at hh;refine bE hh (fh _ _ _ (cu 2 (bo 2 (bN a)).length (bN a - bN b)) _ (hh.aM (i := 0) rfl) (fk Ky _ _) (Nat.le_refl _) Ky) rfl ?_;intro w15 hh;rw [cX hbl];refine aS (aB (aa (ao ?_)));refine xK ?_;rw [decide_eq_true Ky];exact ⟨rfl, hh.below⟩
end Go.Proofs.YtaapkaefelhfcaaGreatDoor
namespace Go.Proofs.YtaapkaefelhfcaaGreatDoor
open Go.RowKit
theorem yy (L : Option Addr) (n c : Nat) (ss : List ByteArray) (w : World) (hS : Sl w L n 1 (vO ss)) (hn : n ≤ 1000000) (hs : ∀ s ∈ ss, s.size ≤ 1000000000) :
  Calls Tryz.prog 235 #[.slice L n c] w fun e w' => e = .returned (.string (sN (ss.map bN).sum)) ∧ Below w.heap.size w w' := by
 have hsl : ss.length = n := by have := hS.1; rw [pK] at this; omega
 have hh := Hp.start w;refine al (N := 20) (l := [.slice L n c]) Tryz.func235 rfl rfl (by simp) ?_;refine sr (aS (aa (sr (aL (aa (ah (sr (aI (aa (aj ?_))))))))));replace hh := hh.ef 5 1;refine cv [3, 4, 5, 6, 7, 8, 9, 10, 11, 12, 13, 14, 15, 16, 17] 3 4
  (fun v j w' => ∃ (i : Nat) (A : Option Addr) (c' T K : Nat), i ≤ n ∧ j = .int .i64 i ∧ T = ((ss.take i).map bN).sum ∧ v = .slice A K c' ∧ K ≤ 8000000000 + i ∧ T < 2 ^ K ∧ Hp w [.row A K c' 5 1 (gG (cu 2 K T))] w')
  (fun _ j _ => n - (intOf j).toNat) ?_ ?_
 ·exact ⟨0, none, 0, 0, 0, Nat.zero_le _, rfl, rfl, rfl, Ky, by simp, hh⟩
 ·clear hh;rintro ρ' v j w' ⟨i, A, c', T, K, hi, rfl, hT, rfl, hTl, hTb, hh⟩;by_cases hlt : i < n
  ·obtain ⟨s, hsi⟩ := ay (l := ss) (k := i) Ky;obtain ⟨ad, rfl, hr⟩ := hS.at_ Ky;have hs2 := Ah hsi;have hsz := hs s (List.mem_of_getElem? hsi);have hlx := iW s;have hT2 : ((ss.take (i + 1)).map bN).sum = T + bN s := by rw [aH hsi, List.map_append, List.map_singleton, oI, hT]
   have hbs : bN s < 2 ^ (bo 2 (bN s)).length := dL _;have hb2 : T + bN s < 2 ^ (max K ((bo 2 (bN s)).length + 0) + 1) := by
    have h1 : 2 ^ K ≤ 2 ^ max K ((bo 2 (bN s)).length + 0) := Nat.pow_le_pow_right Ky Ky;have h2 : 2 ^ (bo 2 (bN s)).length ≤ 2 ^ max K ((bo 2 (bN s)).length + 0) := Nat.pow_le_pow_right Ky Ky;rw [Nat.pow_succ]; omega
   refine ah (sr (mI (mL (aW ?_))));refine aK (aa (cT (ak (ai (ah (aj (aq (mL (mL (mI ?_))))))))));refine aD (k := i) aQ.out aF.size rfl rfl Ky Ky Kz ?_;refine aZ aF.out rfl ((hr.ext hh.below).fP (by assumption)) Kz ?_;refine aN (dZ s _ hsz) aw.out rfl Kz ?_;rintro e_ w16 ⟨A16, c16, rfl, hown_, hb_⟩;refine ⟨_, rfl, ?_⟩;replace hh := hh.bz (x := .row _ _ _ _ _ _) hb_ hown_;refine aN (xy _ _ _ _ _ _ 0 (cu 2 K T) (bo 2 (bN s)) _ (hh.aM (i := 1) rfl) (hh.aM (i := 0) rfl) (fk Ky _ _) (jJ _) Ky Ky Ky) aw.out rfl Kz ?_;rintro e_ w_ ⟨b17, rfl, hown_, hb_⟩;refine ⟨_, rfl, ?_⟩;rw [ig, cX hTb, Nat.pow_zero, Nat.mul_one] at hown_;replace hh := (hh.bz (x := .row _ _ _ _ _ _) hb_ hown_).sub (List.sublist_append_left [_] _);refine aL (aE (aP (ai (aq (mI ?_)))));refine bB (aI (aE (ai ?_)));refine ⟨⟨i + 1, _, _, T + bN s, _, Ky, rfl, hT2.symm, rfl, Ky, hb2, hh⟩, by show n - (i + 1) < n - i; omega, ?_⟩;exact KB
  ·refine ah (sr (mI (mL (aW ?_))));refine aK (aa (cF (aJ (az (az (aX (ai (sr (mL ?_)))))))));refine bE hh (fh _ _ _ (cu 2 K T) _ (hh.aM (i := 0) rfl) (fk Ky _ _) (hh.ee (i := 0) rfl) Ky) rfl ?_;intro w19 hh;rw [cX hTb];refine aS (aa (ao ?_));refine cq ?_;rw [List.take_of_length_le Ky] at hT;rw [hT];exact ⟨rfl, hh.below⟩
theorem Eg (X Y k : Nat) (hY : 0 < Y) : X / 2 ^ k % Y = (if Y ≤ X / 2 ^ k % 2 + 2 * (X / 2 ^ (k + 1) % Y) then X / 2 ^ k % 2 + 2 * (X / 2 ^ (k + 1) % Y) - Y else X / 2 ^ k % 2 + 2 * (X / 2 ^ (k + 1) % Y)) ∧
  X / 2 ^ k / Y % 2 = (if Y ≤ X / 2 ^ k % 2 + 2 * (X / 2 ^ (k + 1) % Y) then 1 else 0) ∧ X / 2 ^ k / Y / 2 = X / 2 ^ (k + 1) / Y := by
 have h1 := kQ X k;have hb : X / 2 ^ k % 2 < 2 := Nat.mod_lt _ Ky;generalize X / 2 ^ k % 2 = b at *;generalize X / 2 ^ k = Z at *;generalize X / 2 ^ (k + 1) = V at *;have h2 := Nat.div_add_mod V Y;have h3 := Nat.mod_lt V hY;generalize V / Y = q at *;generalize V % Y = r at *;have e : Z = (b + 2 * r) + Y * (2 * q) := by rw [h1, ← h2, Nat.mul_add, Nat.mul_left_comm]; omega
 rw [e, Nat.add_mul_mod_self_left, Nat.add_mul_div_left _ _ hY];by_cases hc : Y ≤ b + 2 * r
 ·rw [if_pos hc, if_pos hc];have e2 : b + 2 * r = (b + 2 * r - Y) + Y * 1 := Ky;have h4 : b + 2 * r - Y < Y := Ky;have h5 : (b + 2 * r) / Y = 1 := by rw [e2, Nat.add_mul_div_left _ _ hY, Nat.div_eq_of_lt h4]
  have h6 : (b + 2 * r) % Y = b + 2 * r - Y := by conv => lhs; rw [e2, Nat.add_mul_mod_self_left, Nat.mod_eq_of_lt h4]
  rw [h5, h6];omega
 ·rw [if_neg hc, if_neg hc, Nat.mod_eq_of_lt Ky, Nat.div_eq_of_lt Ky];omega
theorem m3 (a b : ByteArray) (w : World) (ha : a.size ≤ 1000000000) (hb : b.size ≤ 1000000000) (hb0 : bN b ≠ 0) :
  Calls Tryz.prog 265 #[.string a, .string b] w fun e w' => e = .returned (.tuple #[.string (sN (bN a / bN b)), .string (sN (bN a % bN b)), .bool true]) ∧ Below w.heap.size w w' := by
 have hh := Hp.start w;have h1 := iW a;have h2 := iW b;have hX := ig (bN a);have hXd := jJ (bN a);have hXl : bN a < 2 ^ (bo 2 (bN a)).length := dL _;have hYp : 0 < (bo 2 (bN b)).length := nQ hb0;have hget : ∀ k, k < (bo 2 (bN a)).length → (bo 2 (bN a))[k]? = some (bN a / 2 ^ k % 2) := fun k hk => vB Ky hk;refine al (N := 52) (l := [.string a, .string b]) Tryz.func265 rfl rfl (by simp) ?_;refine sr (aS (aS (aB (aa (sr (mS ?_))))));refine aN (dZ a _ ha) aw.out rfl Kz ?_;rintro e_ w13 ⟨A13, c13, rfl, hown_, hb_⟩;refine ⟨_, rfl, ?_⟩;replace hh := hh.bz (x := .row _ _ _ _ _ _) hb_ hown_;refine mS ?_;refine aN (dZ b _ hb) aw.out rfl Kz ?_;rintro e_ w15 ⟨A15, c15, rfl, hown_, hb_⟩;refine ⟨_, rfl, ?_⟩;replace hh := hh.bz (x := .row _ _ _ _ _ _) hb_ hown_;refine aL (aL (aa (ah (sr (mL (aW ?_))))));refine dh (aa (cF (ak (ai (sr (mL (aW ?_)))))));refine eT hh rfl rfl rfl rfl aQ.out aF.out rfl Ky Ky Kz ?_;intro b21 w21 hh;refine aL (aa (sr (aL (aa (ah (sr (mL (aW ?_))))))));refine eO (aI (aa (aj ?_)));rw [nM] at hh;generalize hxs : bo 2 (bN a) = xs at *;replace hh := hh.ef 5 1;refine cv [10, 11, 25, 26, 27, 28, 29, 30, 31, 32, 33, 34, 35, 36, 37, 38, 39, 40, 41, 42, 43, 44, 45, 46, 47] 10 11
  (fun v j w' => ∃ (k : Nat) (A : Option Addr) (c' : Nat), k ≤ xs.length ∧ j = .int .i64 ((k : Int) - 1) ∧ v = .slice A (bo 2 (bN a / 2 ^ k % bN b)).length c' ∧ Hp w [.row A (bo 2 (bN a / 2 ^ k % bN b)).length c' 5 1 (gG (bo 2 (bN a / 2 ^ k % bN b))), .row (some ⟨b21, 0, none⟩) xs.length xs.length 5 1 (gG (List.replicate k 0 ++ cu 2 (xs.length - k) (bN a / 2 ^ k / bN b))), .row A15 (bo 2 (bN b)).length c15 5 1 (gG (bo 2 (bN b))), .row A13 xs.length c13 5 1 (gG xs)] w')
  (fun _ j _ => (intOf j + 1).toNat) ?_ ?_
 ·refine ⟨xs.length, none, 0, Nat.le_refl _, rfl, ?_, ?_⟩
  ·rw [Nat.div_eq_of_lt hXl, Nat.zero_mod, gj Ky]; rfl
  ·rw [Nat.div_eq_of_lt hXl, Nat.zero_mod, gj Ky, Nat.sub_self]; simp only [cu, List.append_nil]; exact hh
 ·clear hh;rintro ρ' v j w' ⟨k, A, c', hk, rfl, rfl, hh⟩;by_cases h0 : k = 0
  ·subst h0;rw [Nat.pow_zero, Nat.div_one, Nat.sub_zero, List.replicate_zero, List.nil_append] at hh;rw [Nat.pow_zero, Nat.div_one];have hq : bN a / bN b < 2 ^ xs.length := Nat.lt_of_le_of_lt (Nat.div_le_self _ _) hXl;have hrl : (bo 2 (bN a % bN b)).length ≤ (bo 2 (bN b)).length := mA Ky (Nat.le_of_lt (Nat.mod_lt _ Ky));refine ah (sr (mI ?_));refine dv (aa (cF (aJ (az (az (aX (ai (sr (mL ?_)))))))));refine bE hh (fh _ _ _ (cu 2 xs.length (bN a / bN b)) _ (hh.aM (i := 1) rfl) (fk Ky _ _) (Nat.le_refl _) Ky) rfl ?_;intro w49 hh;rw [cX hq];refine mL ?_;refine bE hh (fh _ _ _ (bo 2 (bN a % bN b)) _ (hh.aM (i := 0) rfl) (jJ _) (hh.ee (i := 0) rfl) Ky) rfl ?_;intro w51 hh;rw [ig];refine aS (aS (aB (aa (ao ?_))));refine J2 ?_;exact ⟨rfl, hh.below⟩
  ·obtain ⟨i, rfl⟩ : ∃ i, k = i + 1 := ⟨k - 1, Ky⟩;have hji : ((i + 1 : Nat) : Int) - 1 = (i : Int) := Ky;obtain ⟨d1, d2, d3⟩ := Eg (bN a) (bN b) i Ky;have hgi := o8 (hget i Ky);have hdw : bN a / 2 ^ i % 2 < 2 := Nat.mod_lt _ Ky;have hrl : (bo 2 (bN a / 2 ^ (i + 1) % bN b)).length ≤ (bo 2 (bN b)).length := mA Ky (Nat.le_of_lt (Nat.mod_lt _ Ky));have hqk : cu 2 (xs.length - i) (bN a / 2 ^ i / bN b) = (bN a / 2 ^ i / bN b % 2) :: cu 2 (xs.length - (i + 1)) (bN a / 2 ^ (i + 1) / bN b) := by
    rw [show xs.length - i = (xs.length - (i + 1)) + 1 by omega, cu, d3]
   rw [hji];obtain ⟨g, rfl⟩ := hh.dq (i := 3) rfl Ky;refine ah (sr (mI ?_));refine dv (aa (cT (ak (ai (ah (aj (sr (mL (mI ?_)))))))));refine bf (k := i) aQ.out aF.size rfl rfl Ky Ky Kz ?_;refine aZ aF.out rfl (hh.cN (i := 3) rfl (by first | assumption | (simp only [Nat.mul_one]; assumption))) Kz ?_;refine aO hh (cs := [_]) aQ.out aF.out (aR (cd rfl) bI) rfl rfl Kz Kz Kz rfl Kz ?_;intro b33 w33 hh;refine mL ?_;refine cz hh (i := 0) rfl rfl rfl (hh.aM (i := 1) rfl) aQ.out aF.out rfl Kz (by first | rfl | exact cD _ | exact cm _ | exact bH _ | exact bO NR.one _) Ky Ky Kz ?_;intro A35 c35 w35 hh;simp only [List.set_cons_zero] at hh;have e35 : [Value.int .u8 ((bN a / 2 ^ i % 2 : Nat) : Int)] ++ gG (bo 2 (bN a / 2 ^ (i + 1) % bN b)) = gG ((bN a / 2 ^ i % 2) :: bo 2 (bN a / 2 ^ (i + 1) % bN b)) := rfl;rw [e35] at hh;generalize hR : bN a / 2 ^ (i + 1) % bN b = R at *;generalize hbt : bN a / 2 ^ i % 2 = bt at *;have hdg : Dg 2 (bt :: bo 2 R) := Dg.cons hdw (jJ _);have hcv : ej (bt :: bo 2 R) = bo 2 (bt + 2 * R) := by rw [fH Ky hdg, bL, ig]
   have hll : (bt :: bo 2 R).length = 1 + (bo 2 R).length := by rw [List.length_cons]; omega
   have hcl := fB (bt :: bo 2 R);refine bE hh (kV _ _ _ (bt :: bo 2 R) _ (hh.aM (i := 0) rfl) (hh.ee (i := 0) rfl) Ky) rfl ?_;intro w36 hh;replace hh := hh.G6 hll;rw [hcv] at hh hcl;rw [hcv];refine aL (aa (sr (mL (mL ?_))));refine bE hh (lW _ _ _ _ _ _ (bo 2 (bt + 2 * R)) (bo 2 (bN b)) _ (hh.aM (i := 0) rfl) (hh.aM (i := 3) rfl) (jJ _) (jJ _) Ky Ky) rfl ?_;intro w39 hh;rw [ig, ig];by_cases hge : bN b ≤ bt + 2 * R
   ·have hc : 0 ≤ kC (bt + 2 * R) (bN b) := by unfold kC; rw [if_neg Ky]; split <;> omega
    rw [if_pos hge] at d1 d2;have hml : bt + 2 * R - bN b < 2 ^ (bo 2 (bt + 2 * R)).length := Nat.lt_of_le_of_lt (Nat.sub_le _ _) (dL _);have hcm : ej (cu 2 (bo 2 (bt + 2 * R)).length (bt + 2 * R - bN b)) = bo 2 (bt + 2 * R - bN b) := by rw [fH Ky (fk Ky _ _), cX hml]
    refine dv (aa (cT (sr (mL (mL ?_)))));refine aN (nW _ _ _ _ _ _ (bo 2 (bt + 2 * R)) (bo 2 (bN b)) _ (hh.aM (i := 0) rfl) (hh.aM (i := 3) rfl) (jJ _) (jJ _) Ky Ky (by rw [ig, ig]; exact hge)) aw.out rfl Kz ?_;rintro e_ w_ ⟨b43, rfl, hown_, hb_⟩;refine ⟨_, rfl, ?_⟩;replace hh := hh.bz (x := .row _ _ _ _ _ _) hb_ hown_;rw [ig, ig] at hh;refine bE hh (kV _ _ _ (cu 2 (bo 2 (bt + 2 * R)).length (bt + 2 * R - bN b)) _ (hh.aM (i := 0) rfl) (Nat.le_refl _) Ky) rfl ?_;intro w44 hh;replace hh := hh.G6 (bg _ _);rw [hcm] at hh;rw [hcm];have hql : (gG (List.replicate (i + 1) 0 ++ cu 2 (xs.length - (i + 1)) (bN a / 2 ^ (i + 1) / bN b))).length = xs.length := by rw [cW, List.length_append, List.length_replicate, bg]; omega
    refine aL (aa (aq (mL (mI ?_))));refine bf (k := i) aQ.out aF.size rfl rfl Ky Ky Kz ?_;refine bs hh (i := 3) (vs := [_]) rfl rfl (cd rfl) rfl aF.out rfl (by rw [hql]; omega) rfl ?_;intro ws hh;simp only [List.set_cons_zero, List.set_cons_succ] at hh;rw [Nat.mul_one, cS (by rw [hql]; omega)] at hh;have hset : (gG (List.replicate (i + 1) 0 ++ cu 2 (xs.length - (i + 1)) (bN a / 2 ^ (i + 1) / bN b))).set i (.int .u8 1) = gG (List.replicate i 0 ++ cu 2 (xs.length - i) (bN a / 2 ^ i / bN b)) := by
     have := lZ (List.replicate (i + 1) 0 ++ cu 2 (xs.length - (i + 1)) (bN a / 2 ^ (i + 1) / bN b)) i 1;rw [hqk, d2, ← zG];exact this
    rw [hset] at hh;replace hh := hh.sub (.cons_cons _ (.cons _ (.cons _ (List.Sublist.refl _))));refine aE (aP (ai (aq (mI ?_))));refine eO (aI (aE (ai ?_)));refine ⟨⟨i, _, _, Ky, rfl, by rw [d1]; rfl, by rw [d1]; exact hh⟩, by show ((i : Int) - 1 + 1).toNat < ((i : Int) + 1).toNat; omega, ?_⟩;exact KB
   ·have hc : ¬ 0 ≤ kC (bt + 2 * R) (bN b) := by rw [kY Ky]; omega
    rw [if_neg hge] at d1 d2;refine dv (aa (cF (ak (aP (ai (aq (mI ?_)))))));refine eO (aI (aE (ai ?_)));have hrep : List.replicate (i + 1) 0 ++ cu 2 (xs.length - (i + 1)) (bN a / 2 ^ (i + 1) / bN b) = List.replicate i 0 ++ cu 2 (xs.length - i) (bN a / 2 ^ i / bN b) := by
     rw [hqk, d2, List.replicate_succ', List.append_assoc]; rfl
    rw [hrep] at hh;replace hh := hh.sub (.cons_cons _ (.cons _ (List.Sublist.refl _)));refine ⟨⟨i, _, _, Ky, rfl, by rw [d1]; rfl, by rw [d1]; exact hh⟩, by show ((i : Int) - 1 + 1).toNat < ((i : Int) + 1).toNat; omega, ?_⟩;exact KB
end Go.Proofs.YtaapkaefelhfcaaGreatDoor
/- The walks through the document's answer for whole numbers (ogeeref02), as far as layer 4 needs it. -/
namespace Go.Proofs.YtaapkaefelhfcaaGreatDoor
open Go.RowKit
theorem mG {n : Nat} : bU n = 0 ↔ n = 0 := by
 constructor
 ·intro h;have := dL n;rw [h] at this;omega
 ·intro h; rw [h]; exact ko
theorem mf {a b : Nat} (h : a ≤ b) : bU a ≤ bU b := dQ (Nat.lt_of_le_of_lt h (dL b))
theorem Du (a b : Nat) : bU (a + b) ≤ bU a + bU b + 1 := by
 apply dQ;have h1 := dL a;have h2 := dL b;have h3 : 2 ^ bU a ≤ 2 ^ (bU a + bU b) := Nat.pow_le_pow_right Ky Ky;have h4 : 2 ^ bU b ≤ 2 ^ (bU a + bU b) := Nat.pow_le_pow_right Ky Ky;rw [Nat.pow_succ];omega
theorem dW (s : Bool) (m : ByteArray) (w : World) (hm : m.size ≤ 1000000000) :
  Calls Tryz.prog 232 #[.agg #[.bool s, .string m]] w fun e w' => e = .returned (.agg #[.bool (iN (iv s m)), .string (iM (iv s m))]) ∧ Below w.heap.size w w' := by
 have hh := Hp.start w;have h1 := iW m;rw [GH, AU]
 cases s with
 | false =>
  refine al (N := 16) (l := [.agg #[.bool false, .string m]]) Tryz.func232 rfl rfl (by simp) ?_;refine sr ?_;refine db hh [_,_] ?_;intro b1 w1 hh;refine cB hh ?_;intro b2 w2 hh;refine aa (sr (bP ?_));refine bR hh 1 ?_;refine aN (dZ m _ hm) aw.out rfl Kz ?_;rintro e_ w6 ⟨A6, c6, rfl, hown_, hb_⟩;refine ⟨_, rfl, ?_⟩;replace hh := hh.bz (x := .row _ _ _ _ _ _) hb_ hown_;refine bE hh (fh _ _ _ (bo 2 (bN m)) _ (hh.aM (i := 0) rfl) (jJ _) (hh.ee (i := 0) rfl) Ky) rfl ?_;intro w7 hh;rw [ig];refine aS (aa (sr (bP ?_)));refine bR hh 2 ?_;refine mB ?_;refine gS (gS ?_);refine eX ?_;refine mS ?_;refine e9 [_,_] ?_;refine bK hh 1 [_,_] ?_;intro ws hh;replace hh : Hp _ (_ :: .blk _ _ [_, _] _ :: _) _ := hh;refine aa (ao ?_);refine iZ (aT rfl (aU (vs := [_, _]) aF.out (hh.aC (i := 1) (n := 2) rfl rfl) rfl) bq) ?_;exact ⟨rfl, hh.below⟩
 | true =>
  by_cases h0 : sN (bN m) = ByteArray.mk #[]
  ·refine al (N := 16) (l := [.agg #[.bool true, .string m]]) Tryz.func232 rfl rfl (by simp) ?_;refine sr ?_;refine db hh [_,_] ?_;intro b1 w1 hh;refine cB hh ?_;intro b2 w2 hh;refine aa (sr (bP ?_));refine bR hh 1 ?_;refine aN (dZ m _ hm) aw.out rfl Kz ?_;rintro e_ w6 ⟨A6, c6, rfl, hown_, hb_⟩;refine ⟨_, rfl, ?_⟩;replace hh := hh.bz (x := .row _ _ _ _ _ _) hb_ hown_;refine bE hh (fh _ _ _ (bo 2 (bN m)) _ (hh.aM (i := 0) rfl) (jJ _) (hh.ee (i := 0) rfl) Ky) rfl ?_;intro w7 hh;rw [ig];refine aS (aa (sr (bP ?_)));refine bR hh 2 ?_;refine mB (gT (mS (gT ?_)))
   (first | refine j6 rfl rfl (by first | rfl | assumption | decide) Kz ?_ | refine j4 rfl rfl (by first | assumption | decide) Kz ?_)
   refine e7 ?_;refine mS ?_;refine e9 [_,_] ?_;refine bK hh 1 [_,_] ?_;intro ws hh;replace hh : Hp _ (_ :: .blk _ _ [_, _] _ :: _) _ := hh;refine aa (ao ?_);refine iZ (aT rfl (aU (vs := [_, _]) aF.out (hh.aC (i := 1) (n := 2) rfl rfl) rfl) bq) ?_;have h1 : bN m = 0 := by rw [← jw] at h0; exact yP h0
   rw [decide_eq_false Ky];exact ⟨rfl, hh.below⟩
  ·refine al (N := 16) (l := [.agg #[.bool true, .string m]]) Tryz.func232 rfl rfl (by simp) ?_;refine sr ?_;refine db hh [_,_] ?_;intro b1 w1 hh;refine cB hh ?_;intro b2 w2 hh;refine aa (sr (bP ?_));refine bR hh 1 ?_;refine aN (dZ m _ hm) aw.out rfl Kz ?_;rintro e_ w6 ⟨A6, c6, rfl, hown_, hb_⟩;refine ⟨_, rfl, ?_⟩;replace hh := hh.bz (x := .row _ _ _ _ _ _) hb_ hown_;refine bE hh (fh _ _ _ (bo 2 (bN m)) _ (hh.aM (i := 0) rfl) (jJ _) (hh.ee (i := 0) rfl) Ky) rfl ?_;intro w7 hh;rw [ig];refine aS (aa (sr (bP ?_)));refine bR hh 2 ?_;refine mB (gT (mS (gT ?_)))
   (first | refine j6 rfl rfl (by first | rfl | assumption | decide) Kz ?_ | refine j4 rfl rfl (by first | assumption | decide) Kz ?_)
   refine e7 ?_;refine mS ?_;refine e9 [_,_] ?_;refine bK hh 1 [_,_] ?_;intro ws hh;replace hh : Hp _ (_ :: .blk _ _ [_, _] _ :: _) _ := hh;refine aa (ao ?_);refine iZ (aT rfl (aU (vs := [_, _]) aF.out (hh.aC (i := 1) (n := 2) rfl rfl) rfl) bq) ?_;have h1 : bN m ≠ 0 := fun h => h0 (by rw [h, jw]);rw [decide_eq_true h1];exact ⟨rfl, hh.below⟩
theorem j7 (s : Bool) (m : ByteArray) (w : World) (hm : m.size ≤ 1000000000) :
  Calls Tryz.prog 231 #[.agg #[.bool s, .string m]] w fun e w' => e = .returned (.int .i64 (iv s m).sign) ∧ Below w.heap.size w w' := by
 have hh := Hp.start w;by_cases h0 : bN m = 0
 ·have hb : bU (bN m) = 0 := mG.2 h0;refine al (N := 9) (l := [.agg #[.bool s, .string m]]) Tryz.func231 rfl rfl (by simp) ?_;refine sr ?_;refine db hh [_,_] ?_;intro b1 w1 hh;refine aI (aa (ah (sr (bP ?_))));refine bR hh 0 ?_;refine bE hh (m9 m _ hm) rfl ?_;intro w5 hh;refine dh (aa (cT (sr (aI (aa (ao (aG ?_)))))));refine cq ?_;have hz : iv s m = 0 := by unfold iv; split <;> omega
  exact ⟨by rw [hz]; rfl, hh.below⟩
 ·have hb : bU (bN m) ≠ 0 := fun h => h0 (mG.1 h)
  cases s with
  | true =>
   refine al (N := 9) (l := [.agg #[.bool true, .string m]]) Tryz.func231 rfl rfl (by simp) ?_;refine sr ?_;refine db hh [_,_] ?_;intro b1 w1 hh;refine aI (aa (ah (sr (bP ?_))));refine bR hh 0 ?_;refine bE hh (m9 m _ hm) rfl ?_;intro w5 hh;refine dh (aa (cF (ak (ai (ah (sr (bP ?_)))))));refine bR hh 0 ?_;refine aa (cT (sr (aI (aa (ao (aG ?_))))));refine cq ?_;have hz : iv true m < 0 := by unfold iv; rw [if_pos rfl]; omega
   exact ⟨by rw [Int.sign_eq_neg_one_of_neg hz], hh.below⟩
  | false =>
   refine al (N := 9) (l := [.agg #[.bool false, .string m]]) Tryz.func231 rfl rfl (by simp) ?_;refine sr ?_;refine db hh [_,_] ?_;intro b1 w1 hh;refine aI (aa (ah (sr (bP ?_))));refine bR hh 0 ?_;refine bE hh (m9 m _ hm) rfl ?_;intro w5 hh;refine dh (aa (cF (ak (ai (ah (sr (bP ?_)))))));refine bR hh 0 ?_;refine aa (cF (ak (ai (sr (aI (aa (ao ?_)))))));refine cq ?_;have hz : 0 < iv false m := by unfold iv; rw [if_neg (by simp)]; omega
   exact ⟨by rw [Int.sign_eq_one_of_pos hz], hh.below⟩
theorem oQ (n : Int) (w : World) (h1 : -9223372036854775808 ≤ n) (h2 : n ≤ 9223372036854775807) :
  Calls Tryz.prog 189 #[.int .i64 n] w fun e w' => e = .returned (.agg #[.bool (iN n), .string (iM n)]) ∧ Below w.heap.size w w' := by
 have hh := Hp.start w;by_cases h0 : n < 0
 ·have hn : iN n = true := decide_eq_true h0;obtain ⟨m, hm⟩ := Int.eq_ofNat_of_zero_le (by omega : 0 ≤ -(n + 1));have ha : n.natAbs = m + 1 := Ky;have hw : (m + 1) % 18446744073709551616 = m + 1 := Nat.mod_eq_of_lt Ky;refine al (N := 16) (l := [.int .i64 n]) Tryz.func189 rfl rfl (by simp) ?_;refine sr ?_;refine cB hh ?_;intro b2 w2 hh;refine aa (ah (sr (mI ?_)));refine aK (aa (cT (sr (mI ?_))));refine bB ?_;refine uP rfl Ky Ky Kz ?_;rw [show -(n + 1) = (m : Int) from hm];refine eo aQ.out aQ.out rfl (by first | assumption | omega) Kz ?_;refine hH (b := 1) rfl rfl Kz ?_;rw [hw];refine bE hh (sP (m + 1) _ Ky) rfl ?_;intro w10 hh;rw [← ha];refine e9 [_,_] ?_;refine bK hh 0 [_,_] ?_;intro ws hh;replace hh : Hp _ (.blk _ _ [_, _] _ :: _) _ := hh;refine aa (ao (aG ?_));refine iZ (aT rfl (aU (vs := [_, _]) aF.out (hh.aC (i := 0) (n := 2) rfl rfl) rfl) bq) ?_;rw [hn];exact ⟨rfl, hh.below⟩
 ·obtain ⟨m, rfl⟩ := Int.eq_ofNat_of_zero_le (by omega : 0 ≤ n);have hn : iN (m : Int) = false := decide_eq_false Ky;have hm : m < 18446744073709551616 := Ky;have e1 : iM (m : Int) = sN m := rfl;refine al (N := 16) (l := [.int .i64 (m : Int)]) Tryz.func189 rfl rfl (by simp) ?_;refine sr ?_;refine cB hh ?_;intro b2 w2 hh;refine aa (ah (sr (mI ?_)));refine aK (aa (cF (ak (ai (sr (mI ?_))))));refine eo aQ.out aQ.out rfl (by first | assumption | omega) Kz ?_;refine bE hh (sP m _ hm) rfl ?_;intro w14 hh;refine e9 [_,_] ?_;refine bK hh 0 [_,_] ?_;intro ws hh;replace hh : Hp _ (.blk _ _ [_, _] _ :: _) _ := hh;refine aa (ao ?_);refine iZ (aT rfl (aU (vs := [_, _]) aF.out (hh.aC (i := 0) (n := 2) rfl rfl) rfl) bq) ?_;rw [hn, e1];exact ⟨rfl, hh.below⟩
theorem pB (s t : Bool) (a b : ByteArray) (w : World) (ha : a.size ≤ 100000000) (hb : b.size ≤ 100000000) :
  Calls Tryz.prog 185 #[.agg #[.bool s, .string a], .agg #[.bool t, .string b]] w fun e w' => e = .returned (.agg #[.bool (iN (iv s a + iv t b)), .string (iM (iv s a + iv t b))]) ∧ Below w.heap.size w w' := by
 have hh := Hp.start w;have hba := gM a;have hbb := gM b;by_cases hst : s = t
 ·subst hst;have e1 : iv s (sN (bN a + bN b)) = iv s a + iv s b := by unfold iv; rw [fg]; split <;> omega
  have hsz : (sN (bN a + bN b)).size ≤ 1000000000 := by rw [jU]; have := Du (bN a) (bN b); omega
  rw [← e1];refine al (N := 49) (l := [.agg #[.bool s, .string a], .agg #[.bool s, .string b]]) Tryz.func185 rfl rfl (by simp) ?_;refine sr ?_;refine db hh [_,_] ?_;intro b2 w2 hh;refine db hh [_,_] ?_;intro b3 w3 hh;refine cB hh ?_;intro b4 w4 hh;refine aa (ah (sr (bP ?_)));refine bR hh 2 ?_;refine bP ?_;refine bR hh 1 ?_;refine Aj aQ.out rfl rfl (by first | rfl | assumption) Kz ?_;refine aa (cT (ah ?_));refine a8 8 [[(2, none)], [(12, some 0)], [(2, none)], [(14, some 2)], [(3, none)], [(16, some 4)], [(15, some 3), (17, some 5)], [(18, some 6)]] [(7, 19), (6, 18), (5, 17), (4, 16), (3, 15), (2, 14), (1, 13), (0, 12)] hh mixed KA ?_;refine eA ?_;refine fQ 2 ?_;refine eA ?_;refine fQ 2 ?_;refine eA ?_;refine fQ 1 ?_;refine xw [_,_] ?_;refine cH (i := 7) (Is (.string (sN (bN a + bN b)))) Is.ext ?_ ?_
  ·intro ρ1 w1 hj hR;obtain ⟨A18, c18, h18, s18⟩ := hR.1;exact du rfl (bX aw.out (a7 h18 bQ)) (yy A18 2 c18 [a, b] _ s18 Ky (by simp; omega)) (fun _ _ hq => ⟨_, hq.1, hq.2, rfl⟩)
  refine bA ?_;intro f W hJ hV;have hb_2 := hJ.bl;obtain ⟨v19, v18, v17, v16, v15, v14, v13, v12, _⟩ := hV;obtain ⟨A18, c18, e18, f18⟩ : Rows _ _ _ (f 6) W := v18;replace hh := hJ.hp;refine bj (bC (ae v19 (ae e18 (ae v17 (ae v16 (ae v15 (ae v14 (ae v13 (ae v12 bh))))))))) ?_;dsimp only [cP];clear e18 hJ;refine e9 [_,_] ?_;refine bE hh (dW s (sN (bN a + bN b)) _ hsz) rfl ?_;intro w21 hh;refine bK hh 0 [_,_] ?_;intro ws hh;replace hh : Hp _ (.blk _ _ [_, _] _ :: _) _ := hh;refine aa (ao (aG ?_));refine iZ (aT rfl (aU (vs := [_, _]) aF.out (hh.aC (i := 0) (n := 2) rfl rfl) rfl) bq) ?_;exact ⟨rfl, hh.below⟩
 ·by_cases hle : bN b ≤ bN a
  ·have e1 : iv s (sN (bN a - bN b)) = iv s a + iv t b := by unfold iv; rw [fg]; cases s <;> cases t <;> simp at hst ⊢ <;> omega
   have hsz : (sN (bN a - bN b)).size ≤ 1000000000 := by rw [jU]; have := mf (show bN a - bN b ≤ bN a by omega); omega
   rw [← e1];refine al (N := 49) (l := [.agg #[.bool s, .string a], .agg #[.bool t, .string b]]) Tryz.func185 rfl rfl (by simp) ?_;refine sr ?_;refine db hh [_,_] ?_;intro b2 w2 hh;refine db hh [_,_] ?_;intro b3 w3 hh;refine cB hh ?_;intro b4 w4 hh;refine aa (ah (sr (bP ?_)));refine bR hh 2 ?_;refine bP ?_;refine bR hh 1 ?_;refine qa aQ.out rfl rfl (by first | rfl | assumption | decide) Kz ?_;refine aa (cF (ak (ai (sr (bP ?_)))));refine bR hh 2 ?_;refine bP ?_;refine bR hh 1 ?_;refine bE hh (m4 a b _ Ky Ky) rfl ?_;intro w27 hh;rw [decide_eq_true hle];refine mT ?_;refine dI ?_;refine dI ?_;refine aS (aB (aa (ah (sr (mB (aa (cT (sr (bP ?_)))))))));refine bR hh 2 ?_;refine mS ?_;refine e9 [_,_] ?_;refine bE hh (dW s (sN (bN a - bN b)) _ hsz) rfl ?_;intro w35 hh;refine bK hh 0 [_,_] ?_;intro ws hh;replace hh : Hp _ (.blk _ _ [_, _] _ :: _) _ := hh;refine aa (ao (aG ?_));refine iZ (aT rfl (aU (vs := [_, _]) aF.out (hh.aC (i := 0) (n := 2) rfl rfl) rfl) bq) ?_;exact ⟨rfl, hh.below⟩
  ·have e1 : iv t (sN (bN b - bN a)) = iv s a + iv t b := by unfold iv; rw [fg]; cases s <;> cases t <;> simp at hst ⊢ <;> omega
   have hsz : (sN (bN b - bN a)).size ≤ 1000000000 := by rw [jU]; have := mf (show bN b - bN a ≤ bN b by omega); omega
   rw [← e1];refine al (N := 49) (l := [.agg #[.bool s, .string a], .agg #[.bool t, .string b]]) Tryz.func185 rfl rfl (by simp) ?_;refine sr ?_;refine db hh [_,_] ?_;intro b2 w2 hh;refine db hh [_,_] ?_;intro b3 w3 hh;refine cB hh ?_;intro b4 w4 hh;refine aa (ah (sr (bP ?_)));refine bR hh 2 ?_;refine bP ?_;refine bR hh 1 ?_;refine qa aQ.out rfl rfl (by first | rfl | assumption | decide) Kz ?_;refine aa (cF (ak (ai (sr (bP ?_)))));refine bR hh 2 ?_;refine bP ?_;refine bR hh 1 ?_;refine bE hh (m4 a b _ Ky Ky) rfl ?_;intro w27 hh;rw [decide_eq_false hle];refine mT ?_;refine dI ?_;refine dI ?_;refine aS (aB (aa (ah (sr (mB (aa (cF (ak (ai (sr (bP ?_)))))))))));refine bR hh 1 ?_;refine bP ?_;refine bR hh 2 ?_;refine bE hh (m4 b a _ Ky Ky) rfl ?_;intro w41 hh;refine mT ?_;refine dI ?_;refine dI ?_;refine aS (aa (sr (bP ?_)));refine bR hh 1 ?_;refine mS ?_;refine e9 [_,_] ?_;refine bE hh (dW t (sN (bN b - bN a)) _ hsz) rfl ?_;intro w48 hh;refine bK hh 0 [_,_] ?_;intro ws hh;replace hh : Hp _ (.blk _ _ [_, _] _ :: _) _ := hh;refine aa (ao ?_);refine iZ (aT rfl (aU (vs := [_, _]) aF.out (hh.aC (i := 0) (n := 2) rfl rfl) rfl) bq) ?_;exact ⟨rfl, hh.below⟩
theorem mZ (z : Int) (B : Nat) (q r : Int) (h : r + B * q = z) (h0 : 0 ≤ r) (h1 : r < B) : z / B = q ∧ z % B = r :=
 (Int.ediv_emod_unique Ky).2 ⟨h, h0, h1⟩
theorem xV (s : Bool) (a b : ByteArray) (w : World) (ha : a.size ≤ 10000000) (hb : b.size ≤ 10000000) (hb0 : bN b ≠ 0) :
  Calls Tryz.prog 233 #[.agg #[.bool s, .string a], .agg #[.bool false, .string b]] w fun e w' => e = .returned (.tuple #[.agg #[.bool (iN (iv s a / bN b)), .string (iM (iv s a / bN b))], .agg #[.bool (iN (iv s a % bN b)), .string (iM (iv s a % bN b))], .bool true]) ∧ Below w.heap.size w w' := by
 have hh := Hp.start w;have hba := gM a;have hbb := gM b;have hmod : bN a % bN b < bN b := Nat.mod_lt _ Ky;have hdm : bN b * (bN a / bN b) + bN a % bN b = bN a := Nat.div_add_mod _ _;have hdm' : (bN b : Int) * ((bN a / bN b : Nat) : Int) + ((bN a % bN b : Nat) : Int) = (bN a : Int) := by rw [← Int.natCast_mul, ← Int.natCast_add, hdm]
 have hqs : (sN (bN a / bN b)).size ≤ 10000000 := by rw [jU]; have := mf (Nat.div_le_self (bN a) (bN b)); omega
 have hrs : (sN (bN a % bN b)).size ≤ 10000000 := by rw [jU]; have := mf (show bN a % bN b ≤ bN b by omega); omega
 have hqz : ∀ u, (iM (iv u (sN (bN a / bN b)))).size ≤ 10000000 := fun u => by rw [AU, fg]; exact hqs
 have hrz : ∀ u, (iM (iv u (sN (bN a % bN b)))).size ≤ 10000000 := fun u => by rw [AU, fg]; exact hrs
 by_cases hneg : s = true ∧ bN a % bN b ≠ 0
 ·obtain ⟨rfl, hne⟩ := hneg;have e1 : iv true (sN (bN a / bN b)) = -((bN a / bN b : Nat) : Int) := by unfold iv; rw [fg, if_pos rfl]
  have e2 : iv true (sN (bN a % bN b)) = -((bN a % bN b : Nat) : Int) := by unfold iv; rw [fg, if_pos rfl]
  have hlt : (iv true (sN (bN a % bN b))).sign < 0 := by rw [e2, Int.sign_eq_neg_one_of_neg Ky]; omega
  have e3 : iv true a = -(bN a : Int) := by unfold iv; rw [if_pos rfl]
  obtain ⟨q1, q2⟩ := mZ (iv true a) (bN b) (-((bN a / bN b : Nat) : Int) + -1) ((bN b : Int) - ((bN a % bN b : Nat) : Int)) (by rw [e3, ← hdm', Int.mul_add, Int.mul_neg]; omega) Ky Ky;have e4 : iv false b = (bN b : Int) := by unfold iv; rw [if_neg (by simp)]
  have hp2 : (bN b : Int).sign = 1 := Int.sign_eq_one_of_pos Ky;refine al (N := 57) (l := [.agg #[.bool true, .string a], .agg #[.bool false, .string b]]) Tryz.func233 rfl rfl (by simp) ?_;refine sr ?_;refine db hh [_,_] ?_;intro b2 w2 hh;refine db hh [_,_] ?_;intro b3 w3 hh;refine cB hh ?_;intro b4 w4 hh;refine cB hh ?_;intro b5 w5 hh;refine aB (aa (sr (bP ?_)));refine bR hh 3 ?_;refine bP ?_;refine bR hh 2 ?_;refine bE hh (m3 a b _ Ky Ky hb0) rfl ?_;intro w18 hh;refine mT ?_;refine dI ?_;refine dI ?_;refine dI ?_;refine aS (aS (aB (aa (ah (sr (mB ?_))))));refine g9 ?_;refine aa (cF (ak (ai (sr (bP ?_)))));refine bR hh 3 ?_;refine bP ?_;refine bR hh 2 ?_;refine Ae aQ.out rfl rfl (by first | assumption | decide) Kz ?_;refine mS ?_;refine e9 [_,_] ?_;refine bE hh (dW true (sN (bN a / bN b)) _ Ky) rfl ?_;intro w33 hh;refine cB hh ?_;intro b10 w10 hh;refine bK hh 0 [_,_] ?_;intro ws hh;replace hh : Hp _ (.blk _ _ [_, _] _ :: _) _ := hh;refine aa (sr (bP ?_));refine bR hh 4 ?_;refine mS ?_;refine e9 [_,_] ?_;refine bE hh (dW true (sN (bN a % bN b)) _ Ky) rfl ?_;intro w38 hh;refine cB hh ?_;intro b11 w11 hh;refine bK hh 0 [_,_] ?_;intro ws hh
  replace hh : Hp _ (.blk _ _ [_, _] _ :: _) _ := hh;refine aa (ah (sr ?_));refine cR hh 0 [_,_] ?_;refine bE hh (j7 (iN (iv true (sN (bN a % bN b)))) (iM (iv true (sN (bN a % bN b)))) _ (by have := hrz true; omega)) rfl ?_;intro w40 hh;rw [fL];refine aK (aa (cT (sr ?_)));refine cR hh 0 [_,_] (bP ?_);refine bR hh 4 ?_;refine e9 [_,_] ?_;refine bE hh (pB (iN (iv true (sN (bN a % bN b)))) false (iM (iv true (sN (bN a % bN b)))) b _ (by have := hrz true; omega) Ky) rfl ?_;intro w46 hh;rw [fL, e2, e4, show -((bN a % bN b : Nat) : Int) + (bN b : Int) = (bN b : Int) - ((bN a % bN b : Nat) : Int) by omega, ← q2];refine bK hh 0 [_,_] ?_;intro ws hh;replace hh : Hp _ (.blk _ _ [_, _] _ :: _) _ := hh;refine aa (sr ?_);refine bE hh (oQ (-1) _ Ky Ky) rfl ?_;intro w47 hh;refine cB hh ?_;intro b12 w12 hh;refine bK hh 0 [_,_] ?_;intro ws hh;replace hh : Hp _ (.blk _ _ [_, _] _ :: _) _ := hh;refine aa (ah (sr ?_));refine cR hh 5 [_,_] ?_;refine bE hh (j7 false b _ Ky) rfl ?_;intro w49 hh;rw [e4, hp2];refine aK (aa (cF (ak (ai (aq ?_)))));refine cR hh 2 [_,_] ?_;refine cR hh 0 [_,_] ?_
  refine bE hh (pB (iN (iv true (sN (bN a / bN b)))) (iN (-1)) (iM (iv true (sN (bN a / bN b)))) (iM (-1)) _ (by have := hqz true; omega) Kz) rfl ?_;intro w54 hh;rw [fL, fL, e1, ← q1];refine bK hh 2 [_,_] ?_;intro ws hh;replace hh : Hp _ (_ :: _ :: .blk _ _ [_, _] _ :: _) _ := hh;refine aa (ah ?_);refine ma hh mixed fun w_ hj_ => ?_;replace hh := hj_.hp;clear hj_;refine mO (i := 0) (i2 := 1) KA rfl rfl ?_ ?_
  ·refine cR hh 2 [_,_] ?_;refine dt ?_;refine mO (i := 1) (i2 := 2) KA rfl rfl ?_ ?_
   ·refine cR hh 1 [_,_] ?_;refine dt ?_;refine ea (i := 2) KA rfl ?_;refine bK hh 4 [_,_] ?_;intro ws hh;replace hh : Hp _ (_ :: _ :: _ :: _ :: .blk _ _ [_, _] _ :: _) _ := hh;refine dt ?_;refine eW 3 Kz KA Kz KA KA ?_;refine bK hh 3 [_,_] ?_;intro ws hh;replace hh : Hp _ (_ :: _ :: _ :: .blk _ _ [_, _] _ :: _) _ := hh;refine aB (aa (ao ?_));refine FF (aT rfl (aU (vs := [_, _]) aF.out (hh.aC (i := 4) (n := 2) rfl rfl) rfl) (aT rfl (aU (vs := [_, _]) aF.out (hh.aC (i := 3) (n := 2) rfl rfl) rfl) (cw (gQ rfl) bq))) ?_;exact ⟨rfl, hh.below⟩
   ·refine bK hh 4 [_,_] ?_;intro ws hh;replace hh : Hp _ (_ :: _ :: _ :: _ :: .blk _ _ [_, _] _ :: _) _ := hh;refine dt ?_;refine ea (i := 1) KA rfl ?_;refine cR hh 1 [_,_] ?_;refine dt ?_;refine eW 3 Kz KA Kz KA KA ?_;refine bK hh 3 [_,_] ?_;intro ws hh;replace hh : Hp _ (_ :: _ :: _ :: .blk _ _ [_, _] _ :: _) _ := hh;refine aB (aa (ao ?_));refine FF (aT rfl (aU (vs := [_, _]) aF.out (hh.aC (i := 4) (n := 2) rfl rfl) rfl) (aT rfl (aU (vs := [_, _]) aF.out (hh.aC (i := 3) (n := 2) rfl rfl) rfl) (cw (gQ rfl) bq))) ?_;exact ⟨rfl, hh.below⟩
  ·refine cR hh 1 [_,_] ?_;refine dt ?_;refine ea (i := 0) KA rfl ?_;refine cR hh 2 [_,_] ?_;refine dt ?_;refine ea (i := 2) KA rfl ?_;refine bK hh 4 [_,_] ?_;intro ws hh;replace hh : Hp _ (_ :: _ :: _ :: _ :: .blk _ _ [_, _] _ :: _) _ := hh;refine dt ?_;refine eW 3 Kz KA Kz KA KA ?_;refine bK hh 3 [_,_] ?_;intro ws hh;replace hh : Hp _ (_ :: _ :: _ :: .blk _ _ [_, _] _ :: _) _ := hh;refine aB (aa (ao ?_));refine FF (aT rfl (aU (vs := [_, _]) aF.out (hh.aC (i := 4) (n := 2) rfl rfl) rfl) (aT rfl (aU (vs := [_, _]) aF.out (hh.aC (i := 3) (n := 2) rfl rfl) rfl) (cw (gQ rfl) bq))) ?_;exact ⟨rfl, hh.below⟩
 ·have e4 : iv s a / bN b = iv s (sN (bN a / bN b)) ∧ iv s a % bN b = iv s (sN (bN a % bN b)) := by
   cases s with
   | false =>
    have f0 : ∀ x, iv false x = (bN x : Int) := fun x => by unfold iv; rw [if_neg (by simp)]
    rw [f0, f0, f0, fg, fg];exact mZ _ _ _ _ Ky Ky Ky
   | true =>
    have r0 : bN a % bN b = 0 := by
     rcases Nat.eq_zero_or_pos (bN a % bN b) with h | h
     ·exact h
     ·exact absurd ⟨rfl, Ky⟩ hneg
    have f0 : ∀ x, iv true x = -(bN x : Int) := fun x => by unfold iv; rw [if_pos rfl]
    rw [f0, f0, f0, fg, fg, r0];rw [r0] at hdm';exact mZ _ _ _ _ (by rw [Int.mul_neg]; omega) Ky Ky
  have h5 : ¬ (iv s (sN (bN a % bN b))).sign < 0 := by
   have h6 : 0 ≤ iv s (sN (bN a % bN b)) := by rw [← e4.2]; exact Int.emod_nonneg _ Ky
   have := Int.sign_nonneg_iff.2 h6;omega
  rw [e4.1, e4.2]
  cases s with
  | false =>
   refine al (N := 57) (l := [.agg #[.bool false, .string a], .agg #[.bool false, .string b]]) Tryz.func233 rfl rfl (by simp) ?_;refine sr ?_;refine db hh [_,_] ?_;intro b2 w2 hh;refine db hh [_,_] ?_;intro b3 w3 hh;refine cB hh ?_;intro b4 w4 hh;refine cB hh ?_;intro b5 w5 hh;refine aB (aa (sr (bP ?_)));refine bR hh 3 ?_;refine bP ?_;refine bR hh 2 ?_;refine bE hh (m3 a b _ Ky Ky hb0) rfl ?_;intro w18 hh;refine mT ?_;refine dI ?_;refine dI ?_;refine dI ?_;refine aS (aS (aB (aa (ah (sr (mB ?_))))));refine g9 ?_;refine aa (cF (ak (ai (sr (bP ?_)))));refine bR hh 3 ?_;refine bP ?_;refine bR hh 2 ?_;refine F8 aQ.out rfl rfl (by first | rfl | assumption) Kz ?_;refine mS ?_;refine e9 [_,_] ?_;refine bE hh (dW false (sN (bN a / bN b)) _ Ky) rfl ?_;intro w33 hh;refine cB hh ?_;intro b10 w10 hh;refine bK hh 0 [_,_] ?_;intro ws hh;replace hh : Hp _ (.blk _ _ [_, _] _ :: _) _ := hh;refine aa (sr (bP ?_));refine bR hh 4 ?_;refine mS ?_;refine e9 [_,_] ?_;refine bE hh (dW false (sN (bN a % bN b)) _ Ky) rfl ?_;intro w38 hh;refine cB hh ?_;intro b11 w11 hh;refine bK hh 0 [_,_] ?_;intro ws hh;replace hh : Hp _ (.blk _ _ [_, _] _ :: _) _ := hh;refine aa (ah (sr ?_));refine cR hh 0 [_,_] ?_
   refine bE hh (j7 (iN (iv false (sN (bN a % bN b)))) (iM (iv false (sN (bN a % bN b)))) _ (by have := hrz false; omega)) rfl ?_;intro w40 hh;rw [fL];refine aK (aa (cF (ak (ai (ah ?_)))));refine ma hh mixed fun w_ hj_ => ?_;replace hh := hj_.hp;clear hj_;refine mO (i := 0) (i2 := 1) KA rfl rfl ?_ ?_
   ·refine cR hh 1 [_,_] ?_;refine dt ?_;refine mO (i := 1) (i2 := 2) KA rfl rfl ?_ ?_
    ·refine cR hh 0 [_,_] ?_;refine dt ?_;refine ea (i := 2) KA rfl ?_;refine bK hh 3 [_,_] ?_;intro ws hh;replace hh : Hp _ (_ :: _ :: _ :: .blk _ _ [_, _] _ :: _) _ := hh;refine dt ?_;refine eW 3 Kz KA Kz KA KA ?_;refine bK hh 2 [_,_] ?_;intro ws hh;replace hh : Hp _ (_ :: _ :: .blk _ _ [_, _] _ :: _) _ := hh;refine aB (aa (ao ?_));refine FF (aT rfl (aU (vs := [_, _]) aF.out (hh.aC (i := 3) (n := 2) rfl rfl) rfl) (aT rfl (aU (vs := [_, _]) aF.out (hh.aC (i := 2) (n := 2) rfl rfl) rfl) (cw (gQ rfl) bq))) ?_;exact ⟨rfl, hh.below⟩
    ·refine bK hh 3 [_,_] ?_;intro ws hh;replace hh : Hp _ (_ :: _ :: _ :: .blk _ _ [_, _] _ :: _) _ := hh;refine dt ?_;refine ea (i := 1) KA rfl ?_;refine cR hh 0 [_,_] ?_;refine dt ?_;refine eW 3 Kz KA Kz KA KA ?_;refine bK hh 2 [_,_] ?_;intro ws hh;replace hh : Hp _ (_ :: _ :: .blk _ _ [_, _] _ :: _) _ := hh;refine aB (aa (ao ?_));refine FF (aT rfl (aU (vs := [_, _]) aF.out (hh.aC (i := 3) (n := 2) rfl rfl) rfl) (aT rfl (aU (vs := [_, _]) aF.out (hh.aC (i := 2) (n := 2) rfl rfl) rfl) (cw (gQ rfl) bq))) ?_;exact ⟨rfl, hh.below⟩
   ·refine cR hh 0 [_,_] ?_;refine dt ?_;refine ea (i := 0) KA rfl ?_;refine cR hh 1 [_,_] ?_;refine dt ?_;refine ea (i := 2) KA rfl ?_;refine bK hh 3 [_,_] ?_;intro ws hh;replace hh : Hp _ (_ :: _ :: _ :: .blk _ _ [_, _] _ :: _) _ := hh;refine dt ?_;refine eW 3 Kz KA Kz KA KA ?_;refine bK hh 2 [_,_] ?_;intro ws hh;replace hh : Hp _ (_ :: _ :: .blk _ _ [_, _] _ :: _) _ := hh;refine aB (aa (ao ?_));refine FF (aT rfl (aU (vs := [_, _]) aF.out (hh.aC (i := 3) (n := 2) rfl rfl) rfl) (aT rfl (aU (vs := [_, _]) aF.out (hh.aC (i := 2) (n := 2) rfl rfl) rfl) (cw (gQ rfl) bq))) ?_;exact ⟨rfl, hh.below⟩
  | true =>
   refine al (N := 57) (l := [.agg #[.bool true, .string a], .agg #[.bool false, .string b]]) Tryz.func233 rfl rfl (by simp) ?_;refine sr ?_;refine db hh [_,_] ?_;intro b2 w2 hh;refine db hh [_,_] ?_;intro b3 w3 hh;refine cB hh ?_;intro b4 w4 hh;refine cB hh ?_;intro b5 w5 hh;refine aB (aa (sr (bP ?_)));refine bR hh 3 ?_;refine bP ?_;refine bR hh 2 ?_;refine bE hh (m3 a b _ Ky Ky hb0) rfl ?_;intro w18 hh;refine mT ?_;refine dI ?_;refine dI ?_;refine dI ?_;refine aS (aS (aB (aa (ah (sr (mB ?_))))));refine g9 ?_;refine aa (cF (ak (ai (sr (bP ?_)))));refine bR hh 3 ?_;refine bP ?_;refine bR hh 2 ?_;refine Ae aQ.out rfl rfl (by first | assumption | decide) Kz ?_;refine mS ?_;refine e9 [_,_] ?_;refine bE hh (dW true (sN (bN a / bN b)) _ Ky) rfl ?_;intro w33 hh;refine cB hh ?_;intro b10 w10 hh;refine bK hh 0 [_,_] ?_;intro ws hh;replace hh : Hp _ (.blk _ _ [_, _] _ :: _) _ := hh;refine aa (sr (bP ?_));refine bR hh 4 ?_;refine mS ?_;refine e9 [_,_] ?_;refine bE hh (dW true (sN (bN a % bN b)) _ Ky) rfl ?_;intro w38 hh;refine cB hh ?_;intro b11 w11 hh;refine bK hh 0 [_,_] ?_;intro ws hh;replace hh : Hp _ (.blk _ _ [_, _] _ :: _) _ := hh;refine aa (ah (sr ?_));refine cR hh 0 [_,_] ?_
   refine bE hh (j7 (iN (iv true (sN (bN a % bN b)))) (iM (iv true (sN (bN a % bN b)))) _ (by have := hrz true; omega)) rfl ?_;intro w40 hh;rw [fL];refine aK (aa (cF (ak (ai (ah ?_)))));refine ma hh mixed fun w_ hj_ => ?_;replace hh := hj_.hp;clear hj_;refine mO (i := 0) (i2 := 1) KA rfl rfl ?_ ?_
   ·refine cR hh 1 [_,_] ?_;refine dt ?_;refine mO (i := 1) (i2 := 2) KA rfl rfl ?_ ?_
    ·refine cR hh 0 [_,_] ?_;refine dt ?_;refine ea (i := 2) KA rfl ?_;refine bK hh 3 [_,_] ?_;intro ws hh;replace hh : Hp _ (_ :: _ :: _ :: .blk _ _ [_, _] _ :: _) _ := hh;refine dt ?_;refine eW 3 Kz KA Kz KA KA ?_;refine bK hh 2 [_,_] ?_;intro ws hh;replace hh : Hp _ (_ :: _ :: .blk _ _ [_, _] _ :: _) _ := hh;refine aB (aa (ao ?_));refine FF (aT rfl (aU (vs := [_, _]) aF.out (hh.aC (i := 3) (n := 2) rfl rfl) rfl) (aT rfl (aU (vs := [_, _]) aF.out (hh.aC (i := 2) (n := 2) rfl rfl) rfl) (cw (gQ rfl) bq))) ?_;exact ⟨rfl, hh.below⟩
    ·refine bK hh 3 [_,_] ?_;intro ws hh;replace hh : Hp _ (_ :: _ :: _ :: .blk _ _ [_, _] _ :: _) _ := hh;refine dt ?_;refine ea (i := 1) KA rfl ?_;refine cR hh 0 [_,_] ?_;refine dt ?_;refine eW 3 Kz KA Kz KA KA ?_;refine bK hh 2 [_,_] ?_;intro ws hh;replace hh : Hp _ (_ :: _ :: .blk _ _ [_, _] _ :: _) _ := hh;refine aB (aa (ao ?_));refine FF (aT rfl (aU (vs := [_, _]) aF.out (hh.aC (i := 3) (n := 2) rfl rfl) rfl) (aT rfl (aU (vs := [_, _]) aF.out (hh.aC (i := 2) (n := 2) rfl rfl) rfl) (cw (gQ rfl) bq))) ?_;exact ⟨rfl, hh.below⟩
   ·refine cR hh 0 [_,_] ?_;refine dt ?_;refine ea (i := 0) KA rfl ?_;refine cR hh 1 [_,_] ?_;refine dt ?_;refine ea (i := 2) KA rfl ?_;refine bK hh 3 [_,_] ?_;intro ws hh;replace hh : Hp _ (_ :: _ :: _ :: .blk _ _ [_, _] _ :: _) _ := hh;refine dt ?_;refine eW 3 Kz KA Kz KA KA ?_;refine bK hh 2 [_,_] ?_;intro ws hh;replace hh : Hp _ (_ :: _ :: .blk _ _ [_, _] _ :: _) _ := hh;refine aB (aa (ao ?_));refine FF (aT rfl (aU (vs := [_, _]) aF.out (hh.aC (i := 3) (n := 2) rfl rfl) rfl) (aT rfl (aU (vs := [_, _]) aF.out (hh.aC (i := 2) (n := 2) rfl rfl) rfl) (cw (gQ rfl) bq))) ?_;exact ⟨rfl, hh.below⟩
end Go.Proofs.YtaapkaefelhfcaaGreatDoor
/- Several texts in one: RDyA, RDyB, RDyC. -/
namespace Go.Proofs.YtaapkaefelhfcaaGreatDoor
open Go.RowKit
theorem AQ {n : Nat} (h : n ≠ 0) : sb n = sb (n / 256) ++ [UInt8.ofNat (n % 256)] := by
 rw [sb, BI Ky h, List.map_cons, List.reverse_cons]
 rfl
theorem zz {n : Nat} (h : n ≠ 0) : 1 ≤ (sN n).size ∧ ∃ c : UInt8, (sN n).data.toList[(((sN n).size : Int) - 1).toNat]? = some c ∧ c.toNat = n % 256 := by
 have hl : (sN n).data.toList = sb (n / 256) ++ [UInt8.ofNat (n % 256)] := by rw [sN, fj, AQ h]
 have hs : (sN n).size = (sb (n / 256)).length + 1 := by rw [eF, hl, List.length_append]; rfl
 refine ⟨Ky, UInt8.ofNat (n % 256), ?_, ?_⟩
 ·rw [hl, hs, List.getElem?_append_right Ky];have : (((sb (n / 256)).length + 1 : Nat) - 1 : Int).toNat - (sb (n / 256)).length = 0 := Ky;rw [this]
  rfl
 ·simp
theorem G8 {n : Nat} (h : n ≠ 0) : (sN n).extract 0 ((sN n).size - 1) = sN (n / 256) := by
 have hl : (sN n).data = (sb (n / 256) ++ [UInt8.ofNat (n % 256)]).toArray := by rw [sN, ← AQ h]; rfl
 have hs : (sN n).size = (sb (n / 256)).length + 1 := by rw [eF, hl, List.length_append]; rfl
 apply ByteArray.ext;rw [ByteArray.data_extract, hl, hs];show _ = (sb (n / 256)).toArray;simp
theorem G5 {k : Int} (h : 0 < k) (y : Int) : iN (y * k) = iN y := by
 unfold iN;rw [decide_eq_decide];constructor
 ·intro h1
  rcases Int.lt_trichotomy y 0 with h2 | h2 | h2
  ·exact h2
  ·rw [h2] at h1; simp at h1
  ·have := Int.mul_pos h2 h; omega
 ·intro h1;exact Int.mul_neg_of_neg_of_pos h1 h
theorem G4 {n : Nat} (h : n % 2 = 1) : tz n = 0 := by
 have := AK 0 (n / 2);rwa [show 2 ^ 0 * (2 * (n / 2) + 1) = n by omega] at this
theorem C8 {y z e : Int} {j : Nat} (hy : y.natAbs % 2 = 1) (hz : y * 2 ^ j = z) : nR (Dyadic.ofIntWithPrec z (-e)) = ⟨iN y, iM y, e + j⟩ := by
 have h1 := oN (s := iN y) (a := iM y) (e := e + j) (by rw [fL]; omega);rw [fL, iM, fg, G4 hy] at h1;have h2 := oM y (-(e + j)) j;rw [hz, show -(e + (j : Int)) + j = -e by omega] at h2;rw [h2, h1];simp
theorem qt {y z : Int} {j m : Nat} (hy : y ≠ 0) (hz : y * 2 ^ j = z) (hm : z.natAbs < 2 ^ m) : j < m := by
 have h1 : z.natAbs = y.natAbs * 2 ^ j := by rw [← hz, Int.natAbs_mul, Int.natAbs_pow]; rfl
 have h2 : 1 * 2 ^ j ≤ y.natAbs * 2 ^ j := Nat.mul_le_mul_right _ Ky;have h3 : 2 ^ j < 2 ^ m := Ky;exact (Nat.pow_lt_pow_iff_right Ky).1 h3
theorem xG (s : Bool) (a : ByteArray) (e : Int) (w : World) (ha : a.size ≤ 10000000) (h1 : -1000000000000 ≤ e) (h2 : e ≤ 1000000000000) :
  Calls Tryz.prog 183 #[.agg #[.bool s, .string a], .int .i64 e] w fun r w' => r = .returned (.agg #[.bool (nR (Dyadic.ofIntWithPrec (iv s a) (-e))).neg, .string (nR (Dyadic.ofIntWithPrec (iv s a) (-e))).cA, .int .i64 (nR (Dyadic.ofIntWithPrec (iv s a) (-e))).e]) ∧ Below w.heap.size w w' := by
 have hh := Hp.start w;by_cases h0 : iv s a = 0
 ·have hm := qd.2 h0;rw [h0] at hm;refine al (N := 50) (l := [.agg #[.bool s, .string a], .int .i64 e]) Tryz.func183 rfl rfl (by simp) ?_;refine sr ?_;refine db hh [_,_] ?_;intro b2 w2 hh;refine cB hh ?_;intro b4 w4 hh;refine aa (sr ?_);refine cR hh 1 [_,_] ?_;refine bE hh (dW s a _ Ky) rfl ?_;intro w6 hh;rw [h0];refine bK hh 1 [_,_] ?_;intro ws hh;replace hh : Hp _ (_ :: .blk _ _ [_, _] _ :: _) _ := hh;refine aa (ah (sr (bP ?_)));refine bR hh 1 ?_;refine j8 rfl rfl (by first | rfl | assumption | decide) Kz ?_;refine aa (cT (sr ?_));refine e9 [_,_,_] ?_;refine bK hh 0 [_,_,_] ?_;intro ws hh;replace hh : Hp _ (.blk _ _ [_, _, _] _ :: _) _ := hh;refine aa (ao (aG ?_));refine iZ (aT rfl (aU (vs := [_, _, _]) aF.out (hh.aC (i := 0) (n := 3) rfl rfl) rfl) bq) ?_;rw [lV, oC];exact ⟨rfl, hh.below⟩
 ·have hm : ¬ iM (iv s a) = ByteArray.mk #[] := fun h => h0 (qd.1 h);have hzb : (iv s a).natAbs < 2 ^ (8 * a.size) := by
   rw [jI, Nat.pow_mul];exact sY a
  refine al (N := 50) (l := [.agg #[.bool s, .string a], .int .i64 e]) Tryz.func183 rfl rfl (by simp) ?_;refine sr ?_;refine db hh [_,_] ?_;intro b2 w2 hh;refine cB hh ?_;intro b4 w4 hh;refine aa (sr ?_);refine cR hh 1 [_,_] ?_;refine bE hh (dW s a _ Ky) rfl ?_;intro w6 hh;refine bK hh 1 [_,_] ?_;intro ws hh;replace hh : Hp _ (_ :: .blk _ _ [_, _] _ :: _) _ := hh;refine aa (ah (sr (bP ?_)));refine bR hh 1 ?_;refine j3 rfl rfl (by first | assumption | decide) Kz ?_;refine aa (cF (ak (ai (ah (aj ?_)))));generalize hz : iv s a = z at *;refine bm [1, 11, 12, 13, 14, 15, 16, 17, 18, 19, 20, 21, 22, 23, 24, 25, 26, 27, 28] 1
   (fun v w' => ∃ (y : Int) (j : Nat), y ≠ 0 ∧ y * 2 ^ j = z ∧ v = .int .i64 (e + j) ∧ Hp w [.blk b4 29 [.bool false, .string (ByteArray.mk #[]), .int .i64 0] (0, 0), .blk b2 27 [.bool (iN y), .string (iM y)] (0, 0)] w')
   (fun v _ => (e + 8 * a.size + 1 - intOf v).toNat) ?_ ?_
  ·exact ⟨z, 0, h0, by simp, by show Value.int _ _ = Value.int _ _; congr 1; omega, hh⟩
  ·clear hh;rintro ρ' v w' ⟨y, j, hy, hyz, rfl, hh⟩;have hj := qt hy hyz hzb;obtain ⟨hs1, c, hc, hcn⟩ := zz (n := y.natAbs) Ky;have hcut := G8 (n := y.natAbs) Ky;have hsz : (sN y.natAbs).size ≤ 10000000 := by
    have h1 : z.natAbs = y.natAbs * 2 ^ j := by rw [← hyz, Int.natAbs_mul, Int.natAbs_pow]; rfl
    have h2 : y.natAbs * 1 ≤ y.natAbs * 2 ^ j := Nat.mul_le_mul_left _ (Nat.pow_pos Ky);have h3 : bU y.natAbs ≤ 8 * a.size := dQ Ky;rw [jU];omega
   change (iM y).data.toList[(((iM y).size : Int) - 1).toNat]? = some c at hc
   change 1 ≤ (iM y).size at hs1
   change (iM y).extract 0 ((iM y).size - 1) = _ at hcut
   change (iM y).size ≤ _ at hsz
   by_cases hb : y.natAbs % 256 = 0
   ·obtain ⟨x, rfl⟩ : ∃ x, y = x * 256 := ⟨y / 256, Ky⟩;have hx : x ≠ 0 := fun h => hy (by rw [h]; rfl);have e1 : iN (x * 256) = iN x := G5 Ky x;have e2 : sN ((x * 256).natAbs / 256) = iM x := by rw [iM]; congr 1; omega
    have hxz : x * 2 ^ (j + 8) = z := by rw [← hyz, Int.pow_add, Int.mul_assoc, Int.mul_comm (2 ^ j)]; rfl
    have hj2 := qt hx hxz hzb;refine ah (sr (bP ?_));refine bR hh 1 ?_;refine bP ?_;refine bR hh 1 ?_;refine bW aQ.out rfl Kz ?_;refine eO ?_;refine bY aQ.out rfl rfl Ky (by assumption) Kz ?_;refine dh (aa (cT (ak (ai (aj (sr (bP ?_)))))));refine bR hh 1 ?_;refine bP ?_;refine bR hh 1 ?_;refine bW aQ.out rfl Kz ?_;refine eO ?_;refine pM (l := 0) (h := ((iM (x * 256)).size - 1)) aQ.out rfl rfl ⟨_, _, rfl, Ky⟩ Ky Ky Kz ?_;refine bP ?_;refine bK hh 1 [_] ?_;intro ws hh;replace hh : Hp _ (_ :: .blk _ _ [_, _] _ :: _) _ := hh;refine aa (aq (mI ?_));refine bB (aI (aE (aP (ai ?_))));rw [hcut, e2, e1] at hh;refine ⟨⟨x, j + 8, hx, hxz, by show Value.int _ _ = Value.int _ _; congr 1; omega, hh⟩, by show (e + 8 * a.size + 1 - (e + j + 8)).toNat < (e + 8 * a.size + 1 - (e + j)).toNat; omega, ?_⟩;exact KB
   ·refine ah (sr (bP ?_));refine bR hh 1 ?_;refine bP ?_;refine bR hh 1 ?_;refine bW aQ.out rfl Kz ?_;refine eO ?_;refine bY aQ.out rfl rfl Ky (by assumption) Kz ?_;refine dh (aa (cF (aJ (az (az (aX (ai (ah (aj ?_)))))))));refine bm [1, 29, 30, 31, 32, 33, 34, 35, 36, 37, 38, 39, 40, 41, 42, 43, 44, 45, 46] 1
     (fun v w' => ∃ (y : Int) (j : Nat), y ≠ 0 ∧ y * 2 ^ j = z ∧ v = .int .i64 (e + j) ∧ Hp w [.blk b4 29 [.bool false, .string (ByteArray.mk #[]), .int .i64 0] (0, 0), .blk b2 27 [.bool (iN y), .string (iM y)] (0, 0)] w')
     (fun v _ => (e + 8 * a.size + 1 - intOf v).toNat) ?_ ?_
    ·exact ⟨y, j, hy, hyz, rfl, hh⟩
    ·clear hh hb hcut hcn hc hs1 hsz hj hy hyz;rintro ρ2 v w2 ⟨y, j, hy, hyz, rfl, hh⟩;have hj := qt hy hyz hzb;obtain ⟨hs1, c, hc, hcn⟩ := zz (n := y.natAbs) Ky;have hsz : (sN y.natAbs).size ≤ 10000000 := by
      have h1 : z.natAbs = y.natAbs * 2 ^ j := by rw [← hyz, Int.natAbs_mul, Int.natAbs_pow]; rfl
      have h2 : y.natAbs * 1 ≤ y.natAbs * 2 ^ j := Nat.mul_le_mul_left _ (Nat.pow_pos Ky);have h3 : bU y.natAbs ≤ 8 * a.size := dQ Ky;rw [jU];omega
     change (iM y).data.toList[(((iM y).size : Int) - 1).toNat]? = some c at hc
     change 1 ≤ (iM y).size at hs1
     change (iM y).size ≤ _ at hsz
     by_cases hb : y.natAbs % 2 = 0
     ·obtain ⟨x, rfl⟩ : ∃ x, y = x * 2 := ⟨y / 2, Ky⟩;have hx : x ≠ 0 := fun h => hy (by rw [h]; rfl);have hxz : x * 2 ^ (j + 1) = z := by rw [← hyz, Int.pow_add, Int.mul_assoc, Int.mul_comm (2 ^ j)]; rfl
      have hj2 := qt hx hxz hzb;have hof : ∀ w1, Calls Tryz.prog 189 #[.int .i64 2] w1 fun e w' => e = .returned (.agg #[.bool false, .string (iM 2)]) ∧ Below w1.heap.size w1 w' := fun w1 => oQ 2 w1 Ky Ky;have hdv : ∀ w1, Calls Tryz.prog 233 #[.agg #[.bool (iN (x * 2)), .string (iM (x * 2))], .agg #[.bool false, .string (iM 2)]] w1 fun e w' => e = .returned (.tuple #[.agg #[.bool (iN x), .string (iM x)], .agg #[.bool (iN 0), .string (iM 0)], .bool true]) ∧ Below w1.heap.size w1 w' := fun w1 => by
       have h2 : bN (iM 2) = 2 := fg 2;have h3 : (iM 2).size ≤ 10000000 := by rw [eU]; decide
       have := xV (iN (x * 2)) (iM (x * 2)) (iM 2) w1 hsz h3 Ky;rw [fL, h2, show x * 2 / ((2 : Nat) : Int) = x by omega, show x * 2 % ((2 : Nat) : Int) = 0 by omega] at this;exact this
      refine ah (sr (bP ?_));refine bR hh 1 ?_;refine bP ?_;refine bR hh 1 ?_;refine bW aQ.out rfl Kz ?_;refine eO ?_;refine bY aQ.out rfl rfl Ky (by assumption) Kz ?_;refine x8 (b := 2) rfl rfl Ky Kz ?_;refine dh (aa (cT (ak (ai (aj (ah ?_))))));refine gk [] [5, 6] [0, 0, 3, 7, 15, 15, 15, 31] 7 [[(2, none)], [], [(39, some 0), (40, some 1)], [(41, some 2)], [(38, some 3)], [(38, some 3)], [(38, some 3)]] [(6, 44), (5, 43), (4, 42), (3, 38), (2, 41), (1, 40), (0, 39)] hh mixed KA ie rfl (by repeat (first | exact cZ | refine cG ?_ | refine cY ?_)) ?_;refine gY 1 [_,_] ?_;refine dC (fun _ hj => hof _) ?_;refine dC (fun _ hj => hdv _) ?_;refine J7 ?_;refine Jf ?_;refine Jf ?_;refine Jf ?_;refine bA ?_;intro f W hJ hV _;have hb_8 := hJ.bl;obtain ⟨v44, v43, v42, v38, v41, v40, v39, _⟩ := hV;replace hh := hJ.hp;refine bj (bC (ae v44 (ae v43 (ae v42 (ae v38 (ae v41 (ae v40 (ae v39 bh)))))))) ?_;dsimp only [cP];clear hJ;refine bK hh 1 [_,_] ?_;intro ws hh;replace hh : Hp _ (_ :: .blk _ _ [_, _] _ :: _) _ := hh;refine aa (aq (mI ?_));refine bB (aI (aE (aP (ai ?_))))
      refine ⟨⟨x, j + 1, hx, hxz, by show Value.int _ _ = Value.int _ _; congr 1; omega, hh⟩, by show (e + 8 * a.size + 1 - (e + j + 1)).toNat < (e + 8 * a.size + 1 - (e + j)).toNat; omega, ?_⟩;exact KB
     ·have hfin := C8 (e := e) (show y.natAbs % 2 = 1 by omega) hyz;refine ah (sr (bP ?_));refine bR hh 1 ?_;refine bP ?_;refine bR hh 1 ?_;refine bW aQ.out rfl Kz ?_;refine eO ?_;refine bY aQ.out rfl rfl Ky (by assumption) Kz ?_;refine x8 (b := 2) rfl rfl Ky Kz ?_;refine dh (aa (cF (aJ (az (az (aX (ai (sr ?_))))))));refine cR hh 1 [_,_] (mI ?_);refine e9 [_,_,_] ?_;refine bK hh 0 [_,_,_] ?_;intro ws hh;replace hh : Hp _ (.blk _ _ [_, _, _] _ :: _) _ := hh;refine aa (ao ?_);refine iZ (aT rfl (aU (vs := [_, _, _]) aF.out (hh.aC (i := 0) (n := 3) rfl rfl) rfl) bq) ?_;rw [hfin];exact ⟨rfl, hh.below⟩
theorem Dd {z e : Int} {x : Dyadic} (w : World) (hx : Dyadic.ofIntWithPrec z (-e) = x) (hz : (iM z).size ≤ 10000000) (h1 : -1000000000000 ≤ e) (h2 : e ≤ 1000000000000) :
  Calls Tryz.prog 183 #[.agg #[.bool (iN z), .string (iM z)], .int .i64 e] w fun r w' => r = .returned (.agg #[.bool (nR x).neg, .string (nR x).cA, .int .i64 (nR x).e]) ∧ Below w.heap.size w w' := by
 have := xG (iN z) (iM z) e w hz h1 h2;rw [fL, hx] at this;exact this
theorem Bq (n : Int) (w : World) (h1 : -9223372036854775808 ≤ n) (h2 : n ≤ 9223372036854775807) :
  Calls Tryz.prog 93 #[.int .i64 n] w fun r w' => r = .returned (.agg #[.bool (nR (n : Dyadic)).neg, .string (nR (n : Dyadic)).cA, .int .i64 (nR (n : Dyadic)).e]) ∧ Below w.heap.size w w' := by
 have hh := Hp.start w;have hsz : (iM n).size ≤ 10000000 := by
  rw [eU];have : bU n.natAbs ≤ 64 := dQ Ky;omega
 have hc := fun w1 => Dd (z := n) (e := 0) (x := (n : Dyadic)) w1 rfl hsz Ky Ky;refine al (N := 6) (l := [.int .i64 n]) Tryz.func93 rfl rfl (by simp) ?_;refine sr ?_;refine cB hh ?_;intro b2 w2 hh;refine aa (sr (mI ?_));refine bE hh (oQ n _ h1 h2) rfl ?_;intro w4 hh;refine bE hh (hc _) rfl ?_;intro w5 hh;refine bK hh 0 [_,_,_] ?_;intro ws hh;replace hh : Hp _ (.blk _ _ [_, _, _] _ :: _) _ := hh;refine aa (ao ?_);refine iZ (aT rfl (aU (vs := [_, _, _]) aF.out (hh.aC (i := 0) (n := 3) rfl rfl) rfl) bq) ?_;exact ⟨rfl, hh.below⟩
end Go.Proofs.YtaapkaefelhfcaaGreatDoor
namespace Go.Proofs.YtaapkaefelhfcaaGreatDoor
open Go.RowKit
end Go.Proofs.YtaapkaefelhfcaaGreatDoor
namespace Go.Proofs.YtaapkaefelhfcaaGreatDoor
open Go.RowKit
theorem Sz.pow {k : Nat} {x : Dyadic} (h : Sz k x) (n : Nat) : Sz (1 + k * n) (x ^ n) := by
 induction n with
 | zero => rw [Dyadic.pow_zero]; exact Sz.one
 | succ n ih => rw [Dyadic.pow_succ]; exact (ih.mul h).mono (by rw [Nat.mul_succ]; omega)
end Go.Proofs.YtaapkaefelhfcaaGreatDoor
/- The walks through layer 4's laws (ogeelaw04): the package's own helpers. -/
namespace Go.Proofs.YtaapkaefelhfcaaGreatDoor
open Go.RowKit
def D (m e : Int) : Dyadic := Dyadic.ofIntWithPrec m (-e)
theorem IA {m e : Int} (hm : m.natAbs < 256) (h1 : -16 ≤ e) (h2 : e ≤ 16) : Sz 24 (D m e) := by
 have := Sz.raw (a := ⟨iN m, iM m, e⟩) (m := 8) (E := 16) (by show 8 * (iM m).size ≤ 8; rw [eU]; have : bU m.natAbs ≤ 8 := dQ hm; omega) h1 h2;rw [NR.d, NR.i, fL] at this;exact this
def Jq (most far : Int) (l : List NR) : Bool := l.any fun a => decide (most < a.cA.size ∨ a.e < -far ∨ far < a.e)
end Go.Proofs.YtaapkaefelhfcaaGreatDoor
/- Arguments opened: dyadic numbers, rows of them; and what the listed table tells. -/
namespace Go.Proofs.YtaapkaefelhfcaaGreatDoor
open Go.ChangeShapes Go.WideShapes Go.ChangeAt Go.RowKit Go.ChangeMaps
set_option maxRecDepth 100000 in
theorem oJ {H : Type} {enc : TypeId × Value → H} {W : World} {base fuel : Nat} {sp : Nat → Bool} {held : Bool} {cs : List Value} {x : DataW H × List MemPlace} (h : DataW.trod enc Tryz.prog W base sp held fuel 29 cs = some x) :
  ∃ a : NR, cs = a.cells ∧ (Lit.int .i64 a.e).wf = true := by
 have c1 : Tryz.prog.cellsOf 29 = 3 := by kernel_rfl
 have c2 : Tryz.prog.cellsOf 27 = 2 := by kernel_rfl
 have c3 : Tryz.prog.cellsOf 4 = 1 := by kernel_rfl
 have c4 : Tryz.prog.cellsOf 9 = 1 := by kernel_rfl
 have c5 : Tryz.prog.cellsOf 3 = 1 := by kernel_rfl
 obtain ⟨y0, y1, n, _, hl, h0, h1⟩ := trod_struct2 Tryz.underlying29 h;obtain ⟨z0, z1, n2, _, hl2, h00, h01⟩ := trod_struct2 Tryz.underlying27 h0;obtain ⟨b, e0, _⟩ := DataW.trod_bool Tryz.underlying4 h00;obtain ⟨s, e1, _, hs⟩ := DataW.trod_string Tryz.underlying9 h01;obtain ⟨z, e2, _, hz⟩ := DataW.trod_int Tryz.underlying3 h1;rw [c1] at hl
 match cs, hl with
 | [x0, x1, x2], _ =>
  simp only [c2, c3, c4, c5] at e0 e1 e2;simp at e0 e1 e2;subst e0 e1 e2;exact ⟨⟨b, s, z⟩, rfl, hz⟩
theorem xr {W : World} (h : laidMetH Tryz.prog Rows.calcEvalsRow.laid W) : eP W := by
 rw [MakeChecks.laidMetH_plain _ _ _ KA] at h;obtain ⟨ps, ⟨g, t, cs, fuel, p, q, hg, ht, hv, hd, _, _⟩, _, _⟩ := h;obtain rfl := Option.some.inj ((show Tryz.prog.globalNamed "math/bits.deBruijn64tab" = some 0 by kernel_rfl).symm.trans hg);obtain rfl := Option.some.inj ((show (Tryz.prog.globals[0]?).map (·.type) = some 259 by kernel_rfl).symm.trans ht);obtain ⟨xs, m, _, ex, _, hl, hel⟩ := DataW.trod_array Tryz.underlying259 hd;have c5 : Tryz.prog.cellsOf 5 = 1 := by kernel_rfl
 have e3 : (xs.map (·.1)) = yY.map fun n => .lit (.int .u8 n) := (DataW.agg.inj (Prod.mk.inj ex).1).symm;have hlen : yY.length = 64 := by decide
 intro r u hu;have hr : r < 64 := by
  have := (List.getElem?_eq_some_iff.1 hu).1;rw [cW] at this;omega
 have hE := hel r hr;rw [c5, Nat.mul_one, List.getElem?_eq_getElem Ky] at hE;obtain ⟨z, e1, e2, _⟩ := DataW.trod_int Tryz.underlying5 hE;have e4 : (xs.map (·.1))[r]? = (yY.map fun (n : Nat) => (DataW.lit (.int .u8 n) : DataW Unit))[r]? := by rw [e3]
 rw [List.getElem?_map, List.getElem?_map, List.getElem?_eq_getElem (by omega : r < xs.length), List.getElem?_eq_getElem (by omega : r < yY.length), e2] at e4;have hz : u = .int .u8 z := by
  rw [gG, List.getElem?_map, List.getElem?_eq_getElem (by omega : r < yY.length)] at hu;simp only [Option.map_some, Option.some.injEq, DataW.lit.injEq, Lit.int.injEq, true_and] at e4 hu;rw [← hu, e4]
 rw [fy, Nat.zero_add, World.var?_cell hg hv r, hz];have : cs.toList[r]? = some (.int .u8 z) := by
  have h0 : ((cs.toList.drop r).take 1)[0]? = some (.int .u8 z) := by rw [e1]; rfl
  simpa using h0
 simpa using this
end Go.Proofs.YtaapkaefelhfcaaGreatDoor
/- Arguments opened: slices of records. -/
namespace Go.Proofs.YtaapkaefelhfcaaGreatDoor
open Go.ChangeShapes Go.WideShapes Go.ChangeAt Go.RowKit Go.ChangeMaps
theorem qF {α : Type} {p : Nat → α → Prop} : ∀ (n : Nat), (∀ i, i < n → ∃ a, p i a) → ∃ l : List α, l.length = n ∧ ∀ i a, l[i]? = some a → p i a
 | 0, _ => ⟨[], rfl, fun i a h => by simp at h⟩
 | n + 1, h => by
  obtain ⟨l, h1, h2⟩ := qF n fun i hi => h i Ky;obtain ⟨a, ha⟩ := h n Ky;refine ⟨l ++ [a], by simp [h1], fun i b hb => ?_⟩
  rcases Nat.lt_or_ge i l.length with hi | hi
  ·rw [List.getElem?_append_left hi] at hb;exact h2 i b hb
  ·rw [List.getElem?_append_right hi] at hb;have h3 : i - l.length = 0 := by
    rcases Nat.eq_zero_or_pos (i - l.length) with h | h
    ·exact h
    ·rw [List.getElem?_eq_none (by simp; omega)] at hb; cases hb
   rw [h3] at hb;simp only [List.getElem?_cons_zero, Option.some.injEq] at hb;subst hb;rw [show i = n by omega];exact ha
theorem tW {α : Type} {f : α → List Value} {p : α → Prop} {sz : Nat} {P : Program} {t e : TypeId} {H : Type} {enc : TypeId × Value → H} {W : World} {r : Reach} {base b0 : Nat} {sp : Nat → Bool} {held : Bool} {v : Value} {d : DataW H} {ps : List MemPlace}
  (hf : ∀ x, (f x).length = sz) (h0 : 0 < sz) (ht : P.underlying t = some (.slice e)) (hc : P.cellsOf e = sz) (one : ∀ fuel cs x, DataW.trod enc P W base sp held fuel e cs = some x → ∃ a, cs = f a ∧ p a)
  (hval : Value.okWide P W r b0 t v) (hd : DataW.Trod enc P W base sp held t v d ps) : ∃ (A : Option Addr) (n c : Nat) (l : List α), v = .slice A n c ∧ Sl W A n sz (aY f l) ∧ ∀ a ∈ l, p a := by
 obtain ⟨a, len, cap, rfl⟩ := okWide_slice ht hval;obtain ⟨fuel, hfu⟩ := hd
 rcases Go.Deep.open_slice ht hfu with ⟨h1, _⟩ | ⟨ad, n, cp, m, k, D, Pl, h1, _, h2, h3, hm, _, h5⟩
 ·have h1' : [Value.slice a len cap] = [.slice none 0 0] := h1;simp only [List.cons.injEq, Value.slice.injEq, and_true] at h1';obtain ⟨rfl, rfl, rfl⟩ := h1';exact ⟨none, 0, 0, [], rfl, Sl.nil W none sz, fun _ h => by simp at h⟩
 ·have h1' : [Value.slice a len cap] = [.slice (some ad) n cp] := h1;simp only [List.cons.injEq, Value.slice.injEq, and_true] at h1';obtain ⟨rfl, rfl, rfl⟩ := h1';have hnm : len ≤ m := by rw [hm]; split <;> omega
  obtain ⟨l, hl, hp⟩ := qF (p := fun i a => W.cells? base (ad.add (i * sz)) sz = some (f a) ∧ p a) len fun i hi => by
   obtain ⟨cs, h6, h7⟩ := h5 i Ky;rw [hc] at h6;obtain ⟨a, rfl, h8⟩ := one _ _ _ h7;exact ⟨a, h6, h8⟩
  refine ⟨some ad, len, cap, l, rfl, ⟨by rw [eY hf, hl], fun _ => ⟨ad, rfl, fun j u hu => ?_⟩⟩, fun a ha => ?_⟩
  ·have hdm : j / sz * sz + j % sz = j := by rw [Nat.mul_comm]; exact Nat.div_add_mod j sz
   have hmod : j % sz < sz := Nat.mod_lt _ h0;have hj : j / sz < l.length := by
    have := (List.getElem?_eq_some_iff.1 hu).1;rw [eY hf] at this;exact Nat.div_lt_of_lt_mul (by rw [Nat.mul_comm]; exact this)
   obtain ⟨x, hx⟩ := ay hj;have h6 := oa hf hx;have h7 : (f x)[j % sz]? = some u := by
    rw [← h6, List.getElem?_take, if_pos hmod, List.getElem?_drop, hdm];exact hu
   have h8 := (World.cells?_some (hp _ _ hx).1).2.2 (j % sz) hmod;rw [h7, k0, hdm] at h8;exact h8
  ·obtain ⟨i, hi⟩ := List.mem_iff_getElem?.1 ha;exact (hp i a hi).2
end Go.Proofs.YtaapkaefelhfcaaGreatDoor
/- Arguments opened: rows of ints. -/
namespace Go.Proofs.YtaapkaefelhfcaaGreatDoor
open Go.ChangeShapes Go.WideShapes Go.ChangeAt Go.RowKit Go.ChangeMaps
def IC (z : Int) : List Value := [.int .i64 z]
theorem IC.len (z : Int) : (IC z).length = 1 := rfl
theorem Gi (l : List Int) : aY IC l = bG l := by
 induction l with
 | nil => rfl
 | cons z l ih => rw [iO, ih]; rfl
set_option maxRecDepth 100000 in
theorem Cm {H : Type} {enc : TypeId × Value → H} {W : World} {base fuel : Nat} {sp : Nat → Bool} {held : Bool} {cs : List Value} {x : DataW H × List MemPlace} (h : DataW.trod enc Tryz.prog W base sp held fuel 3 cs = some x) :
  ∃ z : Int, cs = IC z ∧ (Lit.int .i64 z).wf = true := by
 have c1 : Tryz.prog.cellsOf 3 = 1 := by kernel_rfl
 obtain ⟨z, e2, _, hz⟩ := DataW.trod_int Tryz.underlying3 h;exact ⟨z, e2, hz⟩
set_option maxRecDepth 100000 in
theorem BA {H : Type} {enc : TypeId × Value → H} {W : World} {r : Reach} {base b0 : Nat} {sp : Nat → Bool} {held : Bool} {v : Value} {d : DataW H} {ps : List MemPlace}
  (hval : Value.okWide Tryz.prog W r b0 52 v) (hd : DataW.Trod enc Tryz.prog W base sp held 52 v d ps) : ∃ (A : Option Addr) (n c : Nat) (l : List Int), v = .slice A n c ∧ Sl W A n 1 (bG l) ∧ ∀ z ∈ l, -9223372036854775808 ≤ z ∧ z ≤ 9223372036854775807 := by
 obtain ⟨A, n, c, l, h1, h2, h3⟩ := tW IC.len Kz Tryz.underlying52 KA (fun _ _ _ h => Cm h) hval hd;rw [Gi] at h2;exact ⟨A, n, c, l, h1, h2, fun z hz => bounds_i64 (h3 z hz)⟩
theorem yo {α : Type} {f : α → List Value} {p : α → Prop} {sz : Nat} {P : Program} {t e : TypeId} {H : Type} {enc : TypeId × Value → H} {W : World} {base fuel : Nat} {sp : Nat → Bool} {held : Bool} {cs : List Value} {x : DataW H × List MemPlace}
  (hf : ∀ x, (f x).length = sz) (h0 : 0 < sz) (ht : P.underlying t = some (.slice e)) (hc : P.cellsOf e = sz) (one : ∀ fuel cs x, DataW.trod enc P W base sp held fuel e cs = some x → ∃ a, cs = f a ∧ p a)
  (hfu : DataW.trod enc P W base sp held fuel t cs = some x) : ∃ (A : Option Addr) (n c : Nat) (l : List α), cs = [.slice A n c] ∧ Sl W A n sz (aY f l) ∧ ∀ a ∈ l, p a := by
 rcases Go.Deep.open_slice ht hfu with ⟨h1, _⟩ | ⟨ad, n, cp, m, k, D, Pl, h1, _, h2, h3, hm, _, h5⟩
 ·exact ⟨none, 0, 0, [], h1, Sl.nil W none sz, fun _ h => by simp at h⟩
 ·have hnm : n ≤ m := by rw [hm]; split <;> omega
  obtain ⟨l, hl, hp⟩ := qF (p := fun i a => W.cells? base (ad.add (i * sz)) sz = some (f a) ∧ p a) n fun i hi => by
   obtain ⟨cs, h6, h7⟩ := h5 i Ky;rw [hc] at h6;obtain ⟨a, rfl, h8⟩ := one _ _ _ h7;exact ⟨a, h6, h8⟩
  refine ⟨some ad, n, cp, l, h1, ⟨by rw [eY hf, hl], fun _ => ⟨ad, rfl, fun j u hu => ?_⟩⟩, fun a ha => ?_⟩
  ·have hdm : j / sz * sz + j % sz = j := by rw [Nat.mul_comm]; exact Nat.div_add_mod j sz
   have hmod : j % sz < sz := Nat.mod_lt _ h0;have hj : j / sz < l.length := by
    have := (List.getElem?_eq_some_iff.1 hu).1;rw [eY hf] at this;exact Nat.div_lt_of_lt_mul (by rw [Nat.mul_comm]; exact this)
   obtain ⟨x, hx⟩ := ay hj;have h6 := oa hf hx;have h7 : (f x)[j % sz]? = some u := by
    rw [← h6, List.getElem?_take, if_pos hmod, List.getElem?_drop, hdm];exact hu
   have h8 := (World.cells?_some (hp _ _ hx).1).2.2 (j % sz) hmod;rw [h7, k0, hdm] at h8;exact h8
  ·obtain ⟨i, hi⟩ := List.mem_iff_getElem?.1 ha;exact (hp i a hi).2
theorem sU {P : Program} {t e : TypeId} {H : Type} {enc : TypeId × Value → H} {W : World} {base fuel : Nat} {sp : Nat → Bool} {held : Bool} {A : Option Addr} {n c : Nat} {x : DataW H × List MemPlace}
  (ht : P.underlying t = some (.slice e)) (hfu : DataW.trod enc P W base sp held fuel t [.slice A n c] = some x) : n ≤ c := by
 rcases Go.Deep.open_slice ht hfu with ⟨h1, _⟩ | ⟨ad, n', cp, m, k, D, Pl, h1, _, h2, _⟩
 ·injection h1 with h1
  injection h1 with _ e2 e3
  omega
 ·injection h1 with h1
  injection h1 with _ e2 e3
  omega
end Go.Proofs.YtaapkaefelhfcaaGreatDoor
/- What was multiplied is divided back. Plain lemmas, no program in sight. -/
namespace Go.Proofs.YtaapkaefelhfcaaGreatDoor
open Go.RowKit
theorem Ep {l : List Int} (h : l.all dk = true) : ints (l.map xL) = l := by
 induction l with
 | nil => rfl
 | cons x l ih =>
  simp only [List.all_cons, Bool.and_eq_true] at h;have h1 : ((xL x).toNat : Int) = x := by
   have := qp h.1;injection this with _ this
   exact this.symm
  have := ih h.2;simp only [ints, List.map_cons, h1];congr 1
theorem ED {l : List Int} (h : l.all dk = true) : e8 (l.map xL) = true := by
 rw [e8, List.all_eq_true];intro c hc;obtain ⟨x, hx, rfl⟩ := List.mem_map.1 hc;have h1 := List.all_eq_true.1 h x hx;have := qp h1;injection this with _ this
 simp only [dk, Bool.and_eq_true, decide_eq_true_eq] at h1;simp only [decide_eq_true_eq];omega
theorem FT {a : List UInt8} (h : e8 a = true) : (ints a).all dk = true := by
 rw [List.all_eq_true];intro x hx;obtain ⟨c, hc, rfl⟩ := List.mem_map.1 hx;have := List.all_eq_true.1 h c hc;simp only [decide_eq_true_eq] at this;simp only [dk, Bool.and_eq_true, decide_eq_true_eq];omega
theorem sL {f : Int → Int → Int} {a b : List UInt8} {l : List Int} (h : iX f a b = some l) : e8 a = true ∧ e8 b = true ∧ b.length = a.length ∧ l = List.zipWith f (ints a) (ints b) := by
 unfold iX at h;split at h
 ·rename_i hc;simp only [Bool.and_eq_true, decide_eq_true_eq] at hc;injection h with h
  exact ⟨hc.1, hc.2.1, Ky, h.symm⟩
 ·cases h
theorem EO {f : Int → Int → Int} {a b : List UInt8} (h1 : e8 a = true) (h2 : e8 b = true) (h3 : b.length = a.length) : iX f a b = some (List.zipWith f (ints a) (ints b)) := by
 unfold iX;rw [if_pos (by simp [h1, h2, h3])]
theorem nh {a c : List UInt8} (h : (mulL a c).2 = 0) : e8 a = true ∧ e8 c = true ∧ c.length = a.length ∧ e8 (mulL a c).1 = true ∧ ints (mulL a c).1 = List.zipWith (· + ·) (ints a) (ints c) := by
 unfold mulL at h ⊢;split
 ·rename_i l hl;rw [hl] at h;simp only at h ⊢;obtain ⟨h1, h2, h3, h4⟩ := sL hl;by_cases hc : l.all dk = true
  ·rw [(qq hc).1];exact ⟨h1, h2, h3, ED hc, by rw [Ep hc, h4]⟩
  ·simp [F0, hc] at h
 ·rename_i hl;rw [hl] at h;simp at h
theorem yb {a c : List UInt8} (h : (mulL a c).2 = 0) : (mulL a c).1.length = a.length := by
 obtain ⟨_, _, h3, _, h5⟩ := nh h;have := congrArg List.length h5;rw [dm, List.length_zipWith, dm, dm] at this;omega
end Go.Proofs.YtaapkaefelhfcaaGreatDoor
/- Plain laws of terms: rows that rise, what stands with each product, the one form. No program in sight. -/
namespace Go.Proofs.YtaapkaefelhfcaaGreatDoor
open Go.RowKit
structure TR where
 m : ByteArray
 c : NR
def TR.cells (t : TR) : List Value := [.string t.m, .bool t.c.neg, .string t.c.cA, .int .i64 t.c.e]
theorem TR.len (t : TR) : t.cells.length = 4 := rfl
theorem TR.one (t : TR) : t.cells.all Value.oneCell' = true := rfl
def iV (a b : ByteArray) : Bool := Op.bytesLess a.data.toList b.data.toList
theorem nK : ∀ a : List UInt8, Op.bytesLess a a = false
 | [] => rfl
 | c :: a => by simp [Op.bytesLess, nK a]
theorem pJ : ∀ a b c : List UInt8, Op.bytesLess a b = true → Op.bytesLess b c = true → Op.bytesLess a c = true
 | _, [], [], _, h => by simp [Op.bytesLess] at h
 | _, _ :: _, [], _, h => by simp [Op.bytesLess] at h
 | [], [], _ :: _, h, _ => by simp [Op.bytesLess] at h
 | _ :: _, [], _ :: _, h, _ => by simp [Op.bytesLess] at h
 | [], _ :: _, _ :: _, _, _ => rfl
 | x :: a, y :: b, z :: c, h1, h2 => by
  simp only [Op.bytesLess, Bool.or_eq_true, Bool.and_eq_true, decide_eq_true_eq, beq_iff_eq] at h1 h2 ⊢
  rcases h1 with h1 | ⟨rfl, h1⟩
  ·rcases h2 with h2 | ⟨rfl, h2⟩
   ·exact .inl (UInt8.lt_trans h1 h2)
   ·exact .inl h1
  ·rcases h2 with h2 | ⟨rfl, h2⟩
   ·exact .inl h2
   ·exact .inr ⟨rfl, pJ a b c h1 h2⟩
theorem tO : ∀ a b : List UInt8, Op.bytesLess a b = false → Op.bytesLess b a = false → a = b
 | [], [], _, _ => rfl
 | [], _ :: _, h, _ => by simp [Op.bytesLess] at h
 | _ :: _, [], _, h => by simp [Op.bytesLess] at h
 | x :: a, y :: b, h1, h2 => by
  simp only [Op.bytesLess, Bool.or_eq_false_iff, Bool.and_eq_false_iff, decide_eq_false_iff_not, beq_eq_false_iff_ne] at h1 h2;have e : x = y := by
   have a1 := h1.1;have a2 := h2.1;rw [UInt8.lt_iff_toNat_lt] at a1 a2;exact UInt8.toNat_inj.1 Ky
  subst e;rw [tO a b (h1.2.resolve_left (fun h => h rfl)) (h2.2.resolve_left (fun h => h rfl))]
theorem iA (a : ByteArray) : iV a a = false := nK _
theorem jE {a b c : ByteArray} (h1 : iV a b = true) (h2 : iV b c = true) : iV a c = true := pJ _ _ _ h1 h2
theorem nt {a b : ByteArray} (h1 : iV a b = false) (h2 : iV b a = false) : a = b := uS (tO _ _ h1 h2)
theorem DC {a b : ByteArray} (h : iV a b = true) : a ≠ b := fun e => by rw [e, iA] at h; cases h
theorem Cr {a b : ByteArray} (h : iV a b = true) : iV b a = false := by
 cases h2 : iV b a with
 | false => rfl
 | true => have := jE h h2; rw [iA] at this; cases this
def qY (l : List TR) : Prop := l.Pairwise fun a b => iV a.m b.m = true
def wS (f : ByteArray → Dyadic) : List TR → Dyadic
 | [] => 0
 | t :: l => t.c.d * f t.m + wS f l
theorem tu (f : ByteArray → Dyadic) (l k : List TR) : wS f (l ++ k) = wS f l + wS f k := by
 induction l with
 | nil => exact (Dyadic.zero_add _).symm
 | cons t l ih => rw [List.cons_append, wS, wS, ih, Dyadic.add_assoc]
theorem Gg (f : ByteArray → Dyadic) (l : List TR) (t : TR) : wS f (l ++ [t]) = wS f l + t.c.d * f t.m := by
 rw [tu, wS, wS, Dyadic.add_zero]
def ik (l : List TR) (m : ByteArray) : Dyadic := wS (fun k => if k = m then 1 else 0) l
theorem fG (t : TR) (l : List TR) (m : ByteArray) : ik (t :: l) m = (if t.m = m then t.c.d else 0) + ik l m := by
 show t.c.d * (if t.m = m then 1 else 0) + ik l m = _;split
 ·rw [Dyadic.mul_one]
 ·rw [Dyadic.mul_zero]
theorem qx (m : ByteArray) : ik [] m = 0 := rfl
theorem ff (l k : List TR) (m : ByteArray) : ik (l ++ k) m = ik l m + ik k m := tu _ _ _
theorem tI {l : List TR} {m : ByteArray} (h : ∀ t ∈ l, t.m ≠ m) : ik l m = 0 := by
 induction l with
 | nil => rfl
 | cons t l ih => rw [fG, if_neg (h t List.mem_cons_self), ih fun s hs => h s (List.mem_cons_of_mem _ hs), Dyadic.zero_add]
structure Canon (l : List TR) : Prop where
 pS : qY l
 nz : ∀ t ∈ l, t.c.d ≠ 0
 nf : ∀ t ∈ l, t.c = nR t.c.d
theorem q9 {t : TR} {l : List TR} (h : Canon (t :: l)) : Canon l := ⟨(List.pairwise_cons.1 h.pS).2, fun s hs => h.nz s (List.mem_cons_of_mem _ hs), fun s hs => h.nf s (List.mem_cons_of_mem _ hs)⟩
theorem sO {t : TR} {l : List TR} {m : ByteArray} (h : qY (t :: l)) (hm : m = t.m ∨ iV m t.m = true) : ∀ s ∈ l, s.m ≠ m := fun s hs e => by
 have h1 := (List.pairwise_cons.1 h).1 s hs
 rcases hm with rfl | hm
 ·rw [e, iA] at h1; cases h1
 ·have := jE hm h1;rw [e, iA] at this; cases this
theorem jz {t : TR} {l : List TR} (h : qY (t :: l)) : ik (t :: l) t.m = t.c.d := by
 rw [fG, if_pos rfl, tI (sO h (.inl rfl)), Dyadic.add_zero]
theorem tH {t : TR} {l : List TR} {m : ByteArray} (h : qY (t :: l)) (hm : iV m t.m = true) : ik (t :: l) m = 0 := by
 rw [fG, if_neg (fun e => DC hm e.symm), tI (sO h (.inr hm)), Dyadic.zero_add]
theorem wg : ∀ {l k : List TR}, Canon l → Canon k → (∀ m, ik l m = ik k m) → l = k
 | [], [], _, _, _ => rfl
 | [], t :: k, _, hk, h => by
  have := h t.m;rw [jz hk.pS, qx] at this;exact absurd this.symm (hk.nz t List.mem_cons_self)
 | t :: l, [], hl, _, h => by
  have := h t.m;rw [jz hl.pS, qx] at this;exact absurd this (hl.nz t List.mem_cons_self)
 | t :: l, s :: k, hl, hk, h => by
  have h1 : iV t.m s.m = false := by
   cases hb : iV t.m s.m with
   | false => rfl
   | true =>
    have := h t.m;rw [jz hl.pS, tH hk.pS hb] at this;exact absurd this (hl.nz t List.mem_cons_self)
  have h2 : iV s.m t.m = false := by
   cases hb : iV s.m t.m with
   | false => rfl
   | true =>
    have := h s.m;rw [jz hk.pS, tH hl.pS hb] at this;exact absurd this.symm (hk.nz s List.mem_cons_self)
  have em := nt h1 h2;have ed : t.c.d = s.c.d := by
   have := h t.m;rw [jz hl.pS, em, jz hk.pS] at this;exact this
  have et : t = s := by
   have a := hl.nf t List.mem_cons_self;have b := hk.nf s List.mem_cons_self;obtain ⟨m1, c1⟩ := t;obtain ⟨m2, c2⟩ := s;simp only at em ed a b;rw [em, a, b, ed]
  subst et;rw [wg (q9 hl) (q9 hk) fun m => by
   have := h m;rw [fG, fG] at this;grind]
def m7 : List TR → TR → List TR
 | [], x => [⟨x.m, nR x.c.d⟩]
 | t :: l, x => if iV t.m x.m = true then t :: m7 l x else if iV x.m t.m = true then ⟨x.m, nR x.c.d⟩ :: t :: l else ⟨x.m, nR (t.c.d + x.c.d)⟩ :: l
theorem An (f : ByteArray → Dyadic) : ∀ (l : List TR) (x : TR), wS f (m7 l x) = wS f l + x.c.d * f x.m
 | [], x => by
  show (nR x.c.d).d * f x.m + 0 = 0 + _;rw [dK, Dyadic.add_zero, Dyadic.zero_add]
 | t :: l, x => by
  unfold m7;split
  ·rw [wS, An f l x, wS, Dyadic.add_assoc]
  ·split
   ·rw [wS, wS, dK, Dyadic.add_comm]
   ·rename_i h1 h2;have e : t.m = x.m := nt (by simpa using h1) (by simpa using h2);rw [wS, wS, dK, e];grind
theorem rU : ∀ {l : List TR} {x t : TR}, t ∈ m7 l x → t ∈ l ∨ t.m = x.m
 | [], x, t, h => .inr (by rw [List.mem_singleton.1 h])
 | s :: l, x, t, h => by
  unfold m7 at h;split at h
  ·rcases List.mem_cons.1 h with rfl | h
   ·exact .inl List.mem_cons_self
   ·rcases rU h with h | h
    ·exact .inl (List.mem_cons_of_mem _ h)
    ·exact .inr h
  ·split at h
   ·rcases List.mem_cons.1 h with rfl | h
    ·exact .inr rfl
    ·exact .inl h
   ·rcases List.mem_cons.1 h with rfl | h
    ·exact .inr rfl
    ·exact .inl (List.mem_cons_of_mem _ h)
theorem vW : ∀ {l : List TR} {x : TR}, qY l → qY (m7 l x)
 | [], x, _ => List.pairwise_singleton _ _
 | s :: l, x, h => by
  have h1 := List.pairwise_cons.1 h;unfold m7;split
  ·rename_i hs;refine List.pairwise_cons.2 ⟨fun t ht => ?_, vW h1.2⟩
   rcases rU ht with ht | ht
   ·exact h1.1 t ht
   ·rw [ht]; exact hs
  ·split
   ·rename_i hs;refine List.pairwise_cons.2 ⟨fun t ht => ?_, h⟩
    rcases List.mem_cons.1 ht with rfl | ht
    ·exact hs
    ·exact jE hs (h1.1 t ht)
   ·rename_i a b;have e : s.m = x.m := nt (by simpa using a) (by simpa using b);refine List.pairwise_cons.2 ⟨fun t ht => ?_, h1.2⟩;show iV x.m t.m = true;rw [← e];exact h1.1 t ht
theorem As : ∀ {l : List TR} {x : TR}, (∀ t ∈ l, t.c = nR t.c.d) → ∀ t ∈ m7 l x, t.c = nR t.c.d
 | [], x, _, t, ht => by rw [List.mem_singleton.1 ht]; show nR _ = nR (nR _).d; rw [dK]
 | s :: l, x, h, t, ht => by
  unfold m7 at ht;split at ht
  ·rcases List.mem_cons.1 ht with rfl | ht
   ·exact h t List.mem_cons_self
   ·exact As (fun t ht => h t (List.mem_cons_of_mem _ ht)) t ht
  ·split at ht
   ·rcases List.mem_cons.1 ht with rfl | ht
    ·show nR _ = nR (nR _).d; rw [dK]
    ·exact h t ht
   ·rcases List.mem_cons.1 ht with rfl | ht
    ·show nR _ = nR (nR _).d; rw [dK]
    ·exact h t (List.mem_cons_of_mem _ ht)
theorem vx : ∀ (l : List TR) (x : TR), (m7 l x).length ≤ l.length + 1
 | [], x => Nat.le_refl _
 | s :: l, x => by
  have := vx l x;unfold m7;split
  ·rw [List.length_cons, List.length_cons]; omega
  ·split <;> simp
theorem zD {k : Nat} : ∀ {l : List TR} {x : TR}, (∀ t ∈ l, Sz k t.c.d) → Sz k x.c.d → ∀ t ∈ m7 l x, Sz (k + 1) t.c.d
 | [], x, _, hx, t, ht => by rw [List.mem_singleton.1 ht]; show Sz _ (nR _).d; rw [dK]; exact hx.mono Ky
 | s :: l, x, h, hx, t, ht => by
  unfold m7 at ht;split at ht
  ·rcases List.mem_cons.1 ht with rfl | ht
   ·exact (h t List.mem_cons_self).mono Ky
   ·exact zD (fun t ht => h t (List.mem_cons_of_mem _ ht)) hx t ht
  ·split at ht
   ·rcases List.mem_cons.1 ht with rfl | ht
    ·show Sz _ (nR _).d; rw [dK]; exact hx.mono Ky
    ·exact (h t ht).mono Ky
   ·rcases List.mem_cons.1 ht with rfl | ht
    ·show Sz _ (nR _).d; rw [dK]; exact (h s List.mem_cons_self).add hx
    ·exact (h t (List.mem_cons_of_mem _ ht)).mono Ky
def la (l : List TR) : List TR := l.foldl m7 []
def vl (t : TR) : Bool := !decide (t.c.d = 0)
def a6 (l : List TR) : List TR := (la l).filter vl
theorem iL (l : List TR) (x : TR) : la (l ++ [x]) = m7 (la l) x := by unfold la; rw [List.foldl_append]; rfl
theorem iT {α : Type} {P : List α → Prop} (h0 : P []) (hs : ∀ l x, P l → P (l ++ [x])) (l : List α) : P l := by
 have : ∀ k : List α, P k.reverse := fun k => by
  induction k with
  | nil => exact h0
  | cons x k ih => rw [List.reverse_cons]; exact hs _ _ ih
 have h := this l.reverse;rwa [List.reverse_reverse] at h
theorem Dw (f : ByteArray → Dyadic) (l : List TR) : wS f (la l) = wS f l := by
 induction l using iT with
 | h0 => rfl
 | hs l x ih => rw [iL, An, ih, Gg]
theorem Cf (l : List TR) : qY (la l) := by
 induction l using iT with
 | h0 => exact List.Pairwise.nil
 | hs l x ih => rw [iL]; exact vW ih
theorem CJ (l : List TR) : ∀ t ∈ la l, t.c = nR t.c.d := by
 induction l using iT with
 | h0 => intro t ht; cases ht
 | hs l x ih => rw [iL]; exact As ih
theorem Bz (l : List TR) : (la l).length ≤ l.length := by
 induction l using iT with
 | h0 => exact Nat.le_refl _
 | hs l x ih => rw [iL, List.length_append]; have := vx (la l) x; simp; omega
theorem CS {k : Nat} (l : List TR) (h : ∀ t ∈ l, Sz k t.c.d) : ∀ t ∈ la l, Sz (k + l.length) t.c.d := by
 induction l using iT with
 | h0 => intro t ht; cases ht
 | hs l x ih =>
  rw [iL, List.length_append];exact zD (k := k + l.length) (ih fun t ht => h t (List.mem_append_left _ ht)) ((h x (by simp)).mono Ky)
theorem BW (l : List TR) : ∀ t ∈ la l, ∃ s ∈ l, s.m = t.m := by
 induction l using iT with
 | h0 => intro t ht; cases ht
 | hs l x ih =>
  rw [iL];intro t ht
  rcases rU ht with ht | ht
  ·obtain ⟨s, hs, e⟩ := ih t ht;exact ⟨s, List.mem_append_left _ hs, e⟩
  ·exact ⟨x, by simp, ht.symm⟩
theorem tQ (f : ByteArray → Dyadic) (l : List TR) : wS f (l.filter vl) = wS f l := by
 induction l with
 | nil => rfl
 | cons t l ih =>
  rw [List.filter_cons];by_cases h : t.c.d = 0
  ·rw [if_neg (by unfold vl; rw [decide_eq_true h]; decide), ih, wS, h, Dyadic.zero_mul, Dyadic.zero_add]
  ·rw [if_pos (by unfold vl; rw [decide_eq_false h]; rfl), wS, wS, ih]
theorem Cl (f : ByteArray → Dyadic) (l : List TR) : wS f (a6 l) = wS f l := (tQ f _).trans (Dw f l)
theorem pF (l : List TR) (m : ByteArray) : ik (a6 l) m = ik l m := Cl _ _
theorem yQ {t : TR} (h : vl t = true) : t.c.d ≠ 0 := fun e => by
 unfold vl at h;rw [decide_eq_true e] at h
 cases h
theorem fm (l : List TR) : Canon (a6 l) :=
 ⟨List.Pairwise.filter _ (Cf l), fun t ht => yQ (List.mem_filter.1 ht).2, fun t ht => CJ l t (List.mem_filter.1 ht).1⟩
theorem dD (l : List TR) : (a6 l).length ≤ l.length := Nat.le_trans (List.length_filter_le _ _) (Bz l)
theorem l3 {k : Nat} {l : List TR} (h : ∀ t ∈ l, Sz k t.c.d) : ∀ t ∈ a6 l, Sz (k + l.length) t.c.d := fun t ht => CS l h t (List.mem_filter.1 ht).1
theorem jQ {l : List TR} : ∀ t ∈ a6 l, ∃ s ∈ l, s.m = t.m := fun t ht => BW l t (List.mem_filter.1 ht).1
theorem tB {l k : List TR} (h : Canon k) (hc : ∀ m, ik k m = ik l m) : k = a6 l := wg h (fm l) fun m => by rw [hc, pF]
theorem tY {l k : List TR} (hc : ∀ m, ik k m = ik l m) : a6 k = a6 l := tB (fm k) fun m => by rw [pF, hc]
end Go.Proofs.YtaapkaefelhfcaaGreatDoor
/- Plain: two rows that rise put into one. No program in sight. -/
namespace Go.Proofs.YtaapkaefelhfcaaGreatDoor
open Go.RowKit
def jq (k : Nat) (l : List TR) : Prop := ∀ t ∈ l, t.c.ok ∧ Sz k t.c.d
theorem jq.mono {k j : Nat} {l : List TR} (h : jq k l) (hk : k ≤ j) : jq j l := fun t ht => ⟨(h t ht).1, (h t ht).2.mono hk⟩
structure MD (k : Nat) (l L : List TR) : Prop where
 pS : qY L
 co : ∀ m, ik L m = ik l m
 len : L.length ≤ l.length
 ok : jq k L
 mem : ∀ t ∈ L, ∃ s ∈ l, s.m = t.m
theorem MD.mono {k j : Nat} {l L : List TR} (h : MD k l L) (hk : k ≤ j) : MD j l L := ⟨h.pS, h.co, h.len, h.ok.mono hk, h.mem⟩
theorem MD.self {k : Nat} {l : List TR} (h : qY l) (hk : jq k l) : MD k l l := ⟨h, fun _ => rfl, Nat.le_refl _, hk, fun t ht => ⟨t, ht, rfl⟩⟩
structure Mg (k : Nat) (xs ys O X Y : List TR) : Prop where
 ro : qY O
 rx : qY X
 ry : qY Y
 co : ∀ m, ik O m + (ik X m + ik Y m) = ik xs m + ik ys m
 bx : ∀ t ∈ O, ∀ s ∈ X, iV t.m s.m = true
 hy : ∀ t ∈ O, ∀ s ∈ Y, iV t.m s.m = true
 len : O.length + (X.length + Y.length) ≤ xs.length + ys.length
 oo : jq (k + 1) O
 ox : jq k X
 oy : jq k Y
 mo : ∀ t ∈ O, ∃ s ∈ xs ++ ys, s.m = t.m
 mx : ∀ t ∈ X, t ∈ xs ++ ys
 my : ∀ t ∈ Y, t ∈ xs ++ ys
theorem Mg.start {k : Nat} {xs ys : List TR} (hx : qY xs) (hy : qY ys) (ox : jq k xs) (oy : jq k ys) : Mg k xs ys [] xs ys :=
 ⟨List.Pairwise.nil, hx, hy, fun m => Dyadic.zero_add _, fun t ht => (by cases ht), fun t ht => (by cases ht), by simp, fun t ht => (by cases ht), ox, oy, fun t ht => (by cases ht), fun t ht => List.mem_append_left _ ht, fun t ht => List.mem_append_right _ ht⟩
theorem rN {O : List TR} {x : TR} (h : qY O) (hx : ∀ t ∈ O, iV t.m x.m = true) : qY (O ++ [x]) :=
 List.pairwise_append.2 ⟨h, List.pairwise_singleton _ _, fun t ht s hs => by rw [List.mem_singleton.1 hs]; exact hx t ht⟩
theorem rb (x : TR) (m : ByteArray) : ik [x] m = if x.m = m then x.c.d else 0 := by rw [fG, qx, Dyadic.add_zero]
theorem fu {α : Type} {P : α → Prop} {O : List α} {x : α} (h : ∀ t ∈ O, P t) (hx : P x) : ∀ t ∈ O ++ [x], P t := fun t ht => by
 rcases List.mem_append.1 ht with ht | ht
 ·exact h t ht
 ·rw [List.mem_singleton.1 ht]; exact hx
theorem Mg.left {k : Nat} {xs ys O X Y : List TR} {x y : TR} (h : Mg k xs ys O (x :: X) (y :: Y)) (hl : iV x.m y.m = true) : Mg k xs ys (O ++ [x]) X (y :: Y) := by
 obtain ⟨ro, rx, ry, co, bx, hby, len, oo, ox, oy, mo, mx, my⟩ := h;have r1 := List.pairwise_cons.1 rx;have r2 := List.pairwise_cons.1 ry;refine ⟨rN ro fun t ht => bx t ht x List.mem_cons_self, r1.2, ry, fun m => ?_, fu (fun t ht s hs => bx t ht s (List.mem_cons_of_mem _ hs)) fun s hs => r1.1 s hs, fu hby fun s hs => ?_, by simp at len ⊢; omega, fu oo ⟨(ox x List.mem_cons_self).1, (ox x List.mem_cons_self).2.mono Ky⟩, fun t ht => ox t (List.mem_cons_of_mem _ ht), oy, fu mo ⟨x, mx x List.mem_cons_self, rfl⟩, fun t ht => mx t (List.mem_cons_of_mem _ ht), my⟩
 ·have := co m;rw [fG x X] at this;rw [ff, rb];grind
 ·rcases List.mem_cons.1 hs with rfl | hs
  ·exact hl
  ·exact jE hl (r2.1 s hs)
theorem Mg.right {k : Nat} {xs ys O X Y : List TR} {x y : TR} (h : Mg k xs ys O (x :: X) (y :: Y)) (hl : iV y.m x.m = true) : Mg k xs ys (O ++ [y]) (x :: X) Y := by
 obtain ⟨ro, rx, ry, co, bx, hby, len, oo, ox, oy, mo, mx, my⟩ := h;have r1 := List.pairwise_cons.1 rx;have r2 := List.pairwise_cons.1 ry;refine ⟨rN ro fun t ht => hby t ht y List.mem_cons_self, rx, r2.2, fun m => ?_, fu bx fun s hs => ?_, fu (fun t ht s hs => hby t ht s (List.mem_cons_of_mem _ hs)) fun s hs => r2.1 s hs, by simp at len ⊢; omega, fu oo ⟨(oy y List.mem_cons_self).1, (oy y List.mem_cons_self).2.mono Ky⟩, ox, fun t ht => oy t (List.mem_cons_of_mem _ ht), fu mo ⟨y, my y List.mem_cons_self, rfl⟩, mx, fun t ht => my t (List.mem_cons_of_mem _ ht)⟩
 ·have := co m;rw [fG y Y] at this;rw [ff, rb];grind
 ·rcases List.mem_cons.1 hs with rfl | hs
  ·exact hl
  ·exact jE hl (r1.1 s hs)
theorem Mg.both {k : Nat} {xs ys O X Y : List TR} {x y : TR} (h : Mg k xs ys O (x :: X) (y :: Y)) (h1 : iV x.m y.m = false) (h2 : iV y.m x.m = false) (hk : k ≤ 3999980) : Mg k xs ys (O ++ [⟨x.m, nR (x.c.d + y.c.d)⟩]) X Y := by
 obtain ⟨ro, rx, ry, co, bx, hby, len, oo, ox, oy, mo, mx, my⟩ := h;have r1 := List.pairwise_cons.1 rx;have r2 := List.pairwise_cons.1 ry;have e := nt h1 h2;have hz := (ox x List.mem_cons_self).2.add (oy y List.mem_cons_self).2;refine ⟨rN ro fun t ht => bx t ht x List.mem_cons_self, r1.2, r2.2, fun m => ?_, fu (fun t ht s hs => bx t ht s (List.mem_cons_of_mem _ hs)) fun s hs => r1.1 s hs, fu (fun t ht s hs => hby t ht s (List.mem_cons_of_mem _ hs)) fun s hs => ?_, by simp at len ⊢; omega, fu oo ⟨hz.ok Ky, ?_⟩, fun t ht => ox t (List.mem_cons_of_mem _ ht), fun t ht => oy t (List.mem_cons_of_mem _ ht), fu mo ⟨x, mx x List.mem_cons_self, rfl⟩, fun t ht => mx t (List.mem_cons_of_mem _ ht), fun t ht => my t (List.mem_cons_of_mem _ ht)⟩
 ·have := co m;rw [fG y Y, fG x X, ← e] at this;rw [ff, rb];show ik O m + (if x.m = m then (nR (x.c.d + y.c.d)).d else 0) + (ik X m + ik Y m) = _;rw [dK];grind
 ·show iV x.m s.m = true;rw [e];exact r2.1 s hs
 ·show Sz _ (nR _).d;rw [dK];exact hz
theorem Mg.done {k : Nat} {xs ys O X Y : List TR} (h : Mg k xs ys O X Y) (hd : X = [] ∨ Y = []) : MD (k + 1) (xs ++ ys) (O ++ X ++ Y) := by
 obtain ⟨ro, rx, ry, co, bx, hby, len, oo, ox, oy, mo, mx, my⟩ := h;refine ⟨?_, fun m => ?_, by simp at len ⊢; omega, fun t ht => ?_, fun t ht => ?_⟩
 ·rw [List.append_assoc];refine List.pairwise_append.2 ⟨ro, ?_, fun t ht s hs => ?_⟩
  ·rcases hd with rfl | rfl
   ·exact ry
   ·rw [List.append_nil]; exact rx
  ·rcases List.mem_append.1 hs with hs | hs
   ·exact bx t ht s hs
   ·exact hby t ht s hs
 ·rw [ff, ff, ff, Dyadic.add_assoc];exact co m
 ·rcases List.mem_append.1 ht with ht | ht
  ·rcases List.mem_append.1 ht with ht | ht
   ·exact oo t ht
   ·exact ⟨(ox t ht).1, (ox t ht).2.mono Ky⟩
  ·exact ⟨(oy t ht).1, (oy t ht).2.mono Ky⟩
 ·rcases List.mem_append.1 ht with ht | ht
  ·rcases List.mem_append.1 ht with ht | ht
   ·exact mo t ht
   ·exact ⟨t, mx t ht, rfl⟩
  ·exact ⟨t, my t ht, rfl⟩
theorem MD.a6 {k : Nat} {l L : List TR} (h : MD k l L) : ((L.filter vl).map fun t => (⟨t.m, nR t.c.d⟩ : TR)) = a6 l := by
 refine tB ⟨?_, fun t ht => ?_, fun t ht => ?_⟩ fun m => ?_
 ·exact List.Pairwise.map _ (fun a b hab => hab) (List.Pairwise.filter _ h.pS)
 ·obtain ⟨s, hs, rfl⟩ := List.mem_map.1 ht;show (nR s.c.d).d ≠ 0;rw [dK];exact yQ (List.mem_filter.1 hs).2
 ·obtain ⟨s, hs, rfl⟩ := List.mem_map.1 ht;show nR s.c.d = nR (nR s.c.d).d;rw [dK]
 ·have e : ∀ (f : ByteArray → Dyadic) (k : List TR), wS f (k.map fun t => (⟨t.m, nR t.c.d⟩ : TR)) = wS f k := fun f k => by
   induction k with
   | nil => rfl
   | cons t k ih => rw [List.map_cons, wS, wS, ih]; show (nR t.c.d).d * f t.m + _ = _; rw [dK]
  show wS _ _ = _;rw [e, tQ];exact h.co m
theorem tU {l : List TR} (h : l.length < 2) : qY l := by
 match l, h with
 | [], _ => exact List.Pairwise.nil
 | [x], _ => exact List.pairwise_singleton _ _
end Go.Proofs.YtaapkaefelhfcaaGreatDoor
/- A new row with room and nothing in it; a call of a function that a variable holds, in a drawn region. Plain lemmas, no program in sight. -/
namespace Go.Proofs.YtaapkaefelhfcaaGreatDoor
open Go.RowKit
variable {ro : Mode}
section
variable {P : Program} {N : Nat} {ops : Array Oper} {Q : Kq} {ρ : Rf} {w w0 : World} {rest : List Oper} {H : List HE} {d : Nat} {ty : TypeId} {pos : String} {af : Array Edge}
theorem F3 (hh : Hp w0 H w) {t e : TypeId} {l cp : Operand} {kl kc : IntKind} {L C : Int} {n sz by' : Nat} {ag : Bool} {zc : List Value} (hl : ev ρ l = .int kl L) (hc : ev ρ cp = .int kc C) (hL : L = 0) (hC : C = (n : Int))
  (ht : P.underlying t = some (.slice e)) (hte : dP P e = some (sz, ag, by', zc)) (hb : by' * n ≤ 281474976710656) (h63 : n ≤ 9223372036854775807) (hN : d < N)
  (k : ∀ b w', Hp w0 (.row (some ⟨b, 0, none⟩) 0 n e sz [] :: H) w' → WL ro P N ops Q rest (de ρ d (.slice (some ⟨b, 0, none⟩) 0 n)) w') :
  WL ro P N ops Q (⟨some d, .makeSlice t l cp, ty, pos, af, none⟩ :: rest) ρ w := by
 obtain ⟨i, z, dd, hi, hd, hz, hs, hby, hzc, _⟩ := fi hte;subst hL; subst hC; subst hs;have hr := run_make (P := P) w t e i z ht hi hz kl kc 0 n (Int.le_refl _) Ky (by rw [hby, ← Int.natCast_mul]; omega) Ky;simp only [Int.toNat_natCast, Int.toNat_zero] at hr;refine bp rfl rfl hN (w' := w.alloc (.cells (madeCells z.cells (n * i.size)) e)) (v := .slice (some ⟨w.heap.size, 0, none⟩) 0 n) ?_ (k _ _ (hh.bz (show Below w.heap.size w (w.alloc (.cells (madeCells z.cells (n * i.size)) e)) from ⟨rfl, rfl, rfl, (World.grownBy_alloc w _ none).size, fun j hj => (World.grownBy_alloc w _ none).block j hj (by simp)⟩) ?_))
 ·simp [execOp, hl, hc, hr]
 ·exact ⟨by simp, .inr ⟨w.heap.size, n, madeCells z.cells (n * i.size), rfl, Nat.le_refl _, heap_alloc_new w _, Nat.zero_le _, by unfold maxLen; omega, size_madeCells _ _, by simp⟩⟩
end
def ke (n sz : Nat) (cs : List Value) : VP := fun v W => ∃ g : Nat, v = .slice (some ⟨g, 0, none⟩) n n ∧ Sl W (some ⟨g, 0, none⟩) n sz cs
theorem ke.ext {n sz : Nat} {cs : List Value} (v : Value) (w w' : World) (h : ke n sz cs v w) (hb : Below w.heap.size w w') : ke n sz cs v w' := let ⟨g, h1, h2⟩ := h; ⟨g, h1, h2.ext hb⟩
section
variable {P : Program} {ρ : Rf} {w : World}
theorem Fs {ops : Array Oper} {d : Option Nat} {ty : TypeId} {pos : String} {af : Array Edge} {t e : TypeId} {l cp : Operand} {kl kc : IntKind} {L C : Int} {n sz by' : Nat} {ag : Bool} {zc : List Value} {K : Value → World → Prop} (hl : ev ρ l = .int kl L) (hc : ev ρ cp = .int kc C) (hL : L = (n : Int)) (hC : C = (n : Int))
  (ht : P.underlying t = some (.slice e)) (hte : dP P e = some (sz, ag, by', zc)) (hzl : zc.length = sz) (hb : by' * n ≤ 281474976710656) (h63 : n ≤ 9223372036854775807)
  (hk : ∀ v w2, ke n sz (gh n zc) v w2 → Below w.heap.size w w2 → K v w2) : OG P ops ⟨d, .makeSlice t l cp, ty, pos, af, none⟩ ρ w K := by
 obtain ⟨i, z, dd, hi, hd, hz, hs, hby, hzc, _⟩ := fi hte;subst hL; subst hC;obtain ⟨w', hr, hown, hg⟩ := run_make_full (P := P) w w.heap.size t e i z sz ht hi hz hs kl kc n (by rw [hby]; exact hb) (by unfold maxLen; omega) (Nat.le_refl _);have hzz : (madeCells z.cells (n * sz)).toList = gh n zc := by
  have := lz n zc;rw [hzl] at this;unfold madeCells;rw [hzc];have e2 : zc.toArray.size = sz := by simpa using hzl
  rw [e2, this]
 rw [hzz] at hown;exact iq rfl (w' := w') (v := .slice (some ⟨w.heap.size, 0, none⟩) n n) (by simp [execOp, hl, hc, hr]) (hk _ _ ⟨w.heap.size, rfl, kZ hown⟩ ⟨hg.os, hg.tape, hg.output, hg.size, fun j hj => hg.block j hj (by simp)⟩)
theorem qU (n : Nat) : gh n [.int .u8 0] = mR (List.replicate n 0) := by
 induction n with
 | zero => rfl
 | succ n ih => rw [gh, ih, List.replicate_succ]; rfl
end
end Go.Proofs.YtaapkaefelhfcaaGreatDoor
/- The walks through poly.side, sum, merged. -/
namespace Go.Proofs.YtaapkaefelhfcaaGreatDoor
open Go.RowKit
theorem zQ (a : ByteArray) : a.toList = a.data.toList := by
 have key : ∀ s : ByteArray, s.toList = s.data.toList := fun s => by
  unfold ByteArray.toList;have : ∀ (n i : Nat) (r : List UInt8), s.size - i = n → ByteArray.toList.loop s i r = r.reverse ++ s.data.toList.drop i := by
   intro n
   induction n with
   | zero =>
    intro i r h;rw [ByteArray.toList.loop, if_neg Ky, List.drop_of_length_le (by rw [Array.length_toList]; show s.size ≤ i; omega)];simp
   | succ n ih =>
    intro i r h;have hi : i < s.size := Ky;rw [ByteArray.toList.loop, if_pos hi, ih (i + 1) _ Ky];have hi2 : i < s.data.toList.length := by rw [Array.length_toList]; exact hi
    rw [List.drop_eq_getElem_cons hi2];have : s.get! i = s.data.toList[i] := by
     show s.data[i]! = _;rw [getElem!_pos s.data i (by simpa using hi2)];simp
    simp [this]
  simpa using this (s.size - 0) 0 [] rfl
 exact key a
theorem nj (a b : ByteArray) : Op.bytesLess a.toList b.toList = iV a b := by rw [zQ, zQ]; rfl
theorem Gm (a b : ByteArray) : (!(Op.bytesLess a.toList b.toList || a.toList == b.toList)) = iV b a := by
 rw [nj, CW]
 cases h1 : iV a b with
 | true => rw [Cr h1]; rfl
 | false =>
  cases h2 : iV b a with
  | true => rw [decide_eq_false (fun e => DC h2 e.symm)]; rfl
  | false => rw [decide_eq_true (nt h1 h2)]; rfl
def Ez (x y : TR) : Int := if iV x.m y.m = true then -1 else if iV y.m x.m = true then 1 else 0
theorem yq (x y : TR) (w : World) : Calls Tryz.prog 104 #[.agg #[.string x.m, .bool x.c.neg, .string x.c.cA, .int .i64 x.c.e], .agg #[.string y.m, .bool y.c.neg, .string y.c.cA, .int .i64 y.c.e]] w fun r w' => r = .returned (.int .i64 (Ez x y)) ∧ Below w.heap.size w w' := by
 have hh := Hp.start w;refine al (N := 17) (l := [.agg #[.string x.m, .bool x.c.neg, .string x.c.cA, .int .i64 x.c.e], .agg #[.string y.m, .bool y.c.neg, .string y.c.cA, .int .i64 y.c.e]]) Tryz.func104 rfl rfl (by simp) ?_;refine sr ?_;refine db hh [_,_,_,_] ?_;intro b2 w2 hh;refine db hh [_,_,_,_] ?_;intro b3 w3 hh;refine aI (aa (ah (aj (sr (bP ?_)))));refine bR hh 1 ?_;refine bP ?_;refine bR hh 0 ?_;refine BF rfl rfl Kz ?_;refine aB (aa ?_);rw [nj];unfold Ez
 cases h1 : iV x.m y.m with
 | true =>
  refine cT (sr (aI (aa (ao (bD (aG ?_))))));refine cq ?_;exact ⟨rfl, hh.below⟩
 | false =>
  refine cF (sr (bP ?_));refine bR hh 1 ?_;refine bP ?_;refine bR hh 0 ?_;refine Bd rfl rfl Kz ?_;refine aB (aa ?_);rw [Gm]
  cases h2 : iV y.m x.m with
  | true =>
   refine cT (sr (aI (aa (ao (bD (aG ?_))))));refine cq ?_;exact ⟨rfl, hh.below⟩
  | false =>
   refine cF (ak (aP (ai (sr (aI (aa (ao ?_)))))));refine cq ?_;exact ⟨rfl, hh.below⟩
theorem B9 (x y : TR) (k : Nat) (w : World) (hT : eP w) (hx : x.c.ok ∧ Sz k x.c.d) (hy : y.c.ok ∧ Sz k y.c.d) (hk : k ≤ 3999980) : Calls Tryz.prog 105 #[.agg #[.string x.m, .bool x.c.neg, .string x.c.cA, .int .i64 x.c.e], .agg #[.string y.m, .bool y.c.neg, .string y.c.cA, .int .i64 y.c.e]] w fun r w' => r = .returned (.agg #[.string x.m, .bool (nR (x.c.d + y.c.d)).neg, .string (nR (x.c.d + y.c.d)).cA, .int .i64 (nR (x.c.d + y.c.d)).e]) ∧ Below w.heap.size w w' := by
 have hh := Hp.start w;have hsum := fun A cc w1 hT1 hS1 => iK A 2 cc [x.c, y.c] w1 hT1 hS1 (by simpa using ⟨hx.1, hy.1⟩) k (by simpa using ⟨hx.2, hy.2⟩) Ky;rw [show lv ([x.c, y.c].map NR.d) = x.c.d + y.c.d by simp only [List.map_cons, List.map_nil, kn]] at hsum;refine al (N := 14) (l := [.agg #[.string x.m, .bool x.c.neg, .string x.c.cA, .int .i64 x.c.e], .agg #[.string y.m, .bool y.c.neg, .string y.c.cA, .int .i64 y.c.e]]) Tryz.func105 rfl rfl (by simp) ?_;refine sr ?_;refine db hh [_,_,_,_] ?_;intro b2 w2 hh;refine db hh [_,_,_,_] ?_;intro b3 w3 hh;refine cB hh ?_;intro b4 w4 hh;refine aa (ah ?_);refine a8 8 [[(2, none)], [(5, some 0)], [(2, none)], [(7, some 2)], [(3, none)], [(9, some 4)], [(8, some 3), (10, some 5)], [(11, some 6)]] [(7, 12), (6, 11), (5, 10), (4, 9), (3, 8), (2, 7), (1, 6), (0, 5)] hh mixed KA ?_;refine eA ?_;refine fQ 2 ?_;refine eA ?_;refine gY 2 [_,_,_] ?_;refine eA ?_;refine gY 1 [_,_,_] ?_;refine xw [_,_,_,_,_,_] ?_;refine cH (i := 7) (Is (.agg #[.bool (nR (x.c.d + y.c.d)).neg, .string (nR (x.c.d + y.c.d)).cA, .int .i64 (nR (x.c.d + y.c.d)).e])) Is.ext ?_ ?_
 ·intro ρ1 w1 hj hR;obtain ⟨A11, c11, h11, s11⟩ := hR.1;exact du rfl (bX aw.out (a7 h11 bQ)) (hsum A11 c11 _ (hT.hp hj.hp) s11) (fun _ _ hq => ⟨_, hq.1, hq.2, rfl⟩)
 refine bA ?_;intro f W hJ hV;have hb_1 := hJ.bl;obtain ⟨v12, v11, v10, v9, v8, v7, v6, v5, _⟩ := hV;obtain ⟨A11, c11, e11, f11⟩ : Rows _ _ _ (f 6) W := v11;replace hh := hJ.hp;refine bj (bC (ae v12 (ae e11 (ae v10 (ae v9 (ae v8 (ae v7 (ae v6 (ae v5 bh))))))))) ?_;dsimp only [cP];clear e11 hJ;refine e9 [_,_,_,_] ?_;refine bK hh 0 [_,_,_,_] ?_;intro ws hh;replace hh : Hp _ (.blk _ _ [_, _, _, _] _ :: _) _ := hh;refine aa (ao ?_);refine iZ (aT rfl (aU (vs := [_, _, _, _]) aF.out (hh.aC (i := 0) (n := 4) rfl rfl) rfl) bq) ?_;exact ⟨rfl, hh.below⟩
end Go.Proofs.YtaapkaefelhfcaaGreatDoor
/- A pure operation, of several that are ready, may as well come first. Plain lemma, no program in sight. -/
namespace Go.Proofs.YtaapkaefelhfcaaGreatDoor
open Go.RowKit
theorem dn {P : Program} {N : Nat} {Q : Kq} {ops : Array Oper} {fuel : Nat} {L : Array Bool} {i d : Nat} {op : Op} {ty : TypeId} {pos : String} {af : Array Edge} {v : Value} {ρ : Rf} {w : World} (hq : NP Q) (hi : ops[i]? = some ⟨some d, op, ty, pos, af, none⟩) (hs : Region.noSelect ops = true) (hf : Region.free .any ops L i = true) (hr : (Region.ready .any ops L).contains i = true)
  (hv : ∀ w, (execOp (ev ρ) ⟨some d, op, ty, pos, af, none⟩).run P w = .ok (.value v) w) (hN : d < N) (h : WA P N ops Q fuel (L.setIfInBounds i true) (de ρ d v) w) : WA P N ops Q (fuel + 1) L ρ w :=
 ⟨fun a hfit => wpAny_first hi (Region.noSelect_spec hs) (fun c a w ⟨ρ', _, hq'⟩ => (hq c ρ' w hq').elim) fuel L a w (Region.free_spec hi hf) (by simpa using hr) (.inl ⟨by simp [Region.wanted], fun w => by rw [hfit.eval]; exact hv w⟩) (h.out _ (hfit.put hN v))⟩
end Go.Proofs.YtaapkaefelhfcaaGreatDoor
/- The walk through poly.merged. -/
namespace Go.Proofs.YtaapkaefelhfcaaGreatDoor
open Go.RowKit
theorem Sl.tail {w : World} {A : Option Addr} {n c : Nat} {x : TR} {X : List TR} (h : Sl w A n 4 (aY TR.cells (x :: X))) (h0 : 0 < n) (hc : n ≤ c) : Sl w (if c = 1 then A else A.map (·.add (1 * 4))) (n - 1) 4 (aY TR.cells X) := by
 have := h.back (l := 1) Ky hc;rw [show (aY TR.cells (x :: X)).drop (1 * 4) = aY TR.cells X from km TR.len (x :: X) 1] at this;exact this
theorem nu (A : Option Addr) (n c : Nat) (xs : List TR) (B : Option Addr) (m c2 : Nat) (ys : List TR) (k : Nat) (w : World) (hT : eP w) (hS : Sl w A n 4 (aY TR.cells xs)) (hS2 : Sl w B m 4 (aY TR.cells ys)) (hc : n ≤ c) (hc2 : m ≤ c2) (hn : n ≤ 1000000) (hm : m ≤ 1000000) (hk : k ≤ 3999980)
  (rx : qY xs) (ry : qY ys) (ox : jq k xs) (oy : jq k ys) :
  Calls Tryz.prog 103 #[.slice A n c, .slice B m c2, .func (.func 104) #[] #[], .func (.func 105) #[] #[]] w fun r w' => ∃ (L : List TR) (A' : Option Addr) (c' : Nat), MD (k + 1) (xs ++ ys) L ∧ r = .returned (.slice A' L.length c') ∧ Hp w [.row A' L.length c' 55 4 (aY TR.cells L)] w' := by
 have hh := Hp.start w;have hlx := hS.bM TR.len Kz;have hly := hS2.bM TR.len Kz;have hnx : xs.length ≤ 1000000 := Ky;have hny : ys.length ≤ 1000000 := Ky;refine al (N := 75) (l := [.slice A n c, .slice B m c2, .func (.func 104) #[] #[], .func (.func 105) #[] #[]]) Tryz.func103 rfl rfl (by simp) ?_;refine sr (aL (aa (sr (mL (aW (mL (aW ?_)))))));refine bB ?_;refine F3 (n := (n + m)) hh rfl rfl Ky Ky aQ.out aF.out Ky Ky Kz ?_;intro b16 w16 hh;refine aL (aa (ah (aj ?_)));refine wm [0, 1, 9, 10, 17, 18, 19, 20, 21, 22, 23, 24, 25, 26, 27, 28, 29, 30, 31, 32, 33, 34, 35, 36, 37, 38, 39, 40, 41, 42, 43, 44, 45, 46, 47, 48, 49, 50, 51, 52, 53, 54, 55, 56, 57, 58, 59, 60, 61, 62, 63, 64, 65, 66, 67, 68, 69] 0 1 9
  (fun va vb vo w' => ∃ (A : Option Addr) (n c : Nat) (X : List TR) (B : Option Addr) (m c2 : Nat) (Y : List TR) (O : List TR) (C : Option Addr) (co : Nat), va = .slice A n c ∧ vb = .slice B m c2 ∧ vo = .slice C O.length co ∧ n ≤ c ∧ m ≤ c2 ∧ Sl w A n 4 (aY TR.cells X) ∧ Sl w B m 4 (aY TR.cells Y) ∧ Mg k xs ys O X Y ∧ Hp w [.row C O.length co 55 4 (aY TR.cells O)] w')
  (fun va vb _ _ => lenOf va + lenOf vb) ?_ ?_
 ·exact ⟨A, n, c, xs, B, m, c2, ys, [], some ⟨b16, 0, none⟩, n + m, rfl, rfl, rfl, hc, hc2, hS, hS2, Mg.start rx ry ox oy, hh⟩
 ·clear hh hS hS2 hlx hly hc hc2 hn hm;rintro ρ' va vb vo w' ⟨A, n, c, X, B, m, c2, Y, O, C, co, rfl, rfl, rfl, hc, hc2, hS, hS2, hmg, hh⟩;have hX := hS.bM TR.len Kz;have hY := hS2.bM TR.len Kz;have hlen := hmg.len;have oX := bO TR.one X;have oY := bO TR.one Y;by_cases hn : n = 0
  ·refine ah (sr (mL (aW ?_)));refine ct (mB ?_);refine gS (gS (gS ?_));refine eX ?_;refine aa (cF (aJ (az (az (aX (ai (sr (mL (mL ?_)))))))));refine cz hh (i := 0) rfl rfl rfl (hS.ext hh.below) aQ.out aF.out rfl Kz ?one4 Ky Ky Kz ?kk4
   case one4 => first | rfl | assumption | exact bH _ | exact oneCells_u8s _
   intro A72 c72 w72 hh;simp only [List.set_cons_zero] at hh;refine mL ?_;refine cz hh (i := 0) rfl rfl rfl (hS2.ext hh.below) aQ.out aF.out rfl Kz ?one5 Ky Ky Kz ?kk5
   case one5 => first | rfl | assumption | exact bH _ | exact oneCells_u8s _
   intro A74 c74 w74 hh;simp only [List.set_cons_zero] at hh;refine aL (aa (ao ?_));refine cq ?_;have hd := hmg.done (.inl (List.eq_nil_of_length_eq_zero Ky));have e1 : (O ++ X ++ Y).length = O.length + n + m := by rw [List.length_append, List.length_append]; omega
   exact ⟨O ++ X ++ Y, A74, c74, hd, by rw [e1], by rw [e1, cK, cK]; exact hh⟩
  ·by_cases hm : m = 0
   ·refine ah (sr (mL (aW ?_)));refine ct (mB (gT (mL (gT (aW (gT ?_))))));refine ct ?_;refine e7 ?_;refine aa (cF (aJ (az (az (aX (ai (sr (mL (mL ?_)))))))));refine cz hh (i := 0) rfl rfl rfl (hS.ext hh.below) aQ.out aF.out rfl Kz ?one6 Ky Ky Kz ?kk6
    case one6 => first | rfl | assumption | exact bH _ | exact oneCells_u8s _
    intro A72 c72 w72 hh;simp only [List.set_cons_zero] at hh;refine mL ?_;refine cz hh (i := 0) rfl rfl rfl (hS2.ext hh.below) aQ.out aF.out rfl Kz ?one7 Ky Ky Kz ?kk7
    case one7 => first | rfl | assumption | exact bH _ | exact oneCells_u8s _
    intro A74 c74 w74 hh;simp only [List.set_cons_zero] at hh;refine aL (aa (ao ?_));refine cq ?_;have hd := hmg.done (.inr (List.eq_nil_of_length_eq_zero Ky));have e1 : (O ++ X ++ Y).length = O.length + n + m := by rw [List.length_append, List.length_append]; omega
    exact ⟨O ++ X ++ Y, A74, c74, hd, by rw [e1], by rw [e1, cK, cK]; exact hh⟩
   ·obtain ⟨x, X, rfl⟩ : ∃ x X', X = x :: X' := by cases X with
     | nil => exact absurd hX.symm hn
     | cons x X' => exact ⟨x, X', rfl⟩
    obtain ⟨y, Y, rfl⟩ : ∃ y Y', Y = y :: Y' := by cases Y with
     | nil => exact absurd hY.symm hm
     | cons y Y' => exact ⟨y, Y', rfl⟩
    obtain ⟨ad, rfl, hr⟩ := hS.at_ Ky;obtain ⟨ad2, rfl, hr2⟩ := hS2.at_ Ky;have hxx : (x :: X)[0]? = some x := rfl;have hyy : (y :: Y)[0]? = some y := rfl;have hSt := hS.tail Ky hc;have hSt2 := hS2.tail Ky hc2;have hsd := fun w1 => yq x y w1;unfold Ez at hsd
    cases h1 : iV x.m y.m with
    | true =>
     rw [h1, if_pos rfl] at hsd;refine ah (sr (mL (aW ?_)));refine ct (mB (gT (mL (gT (aW (gT ?_))))));refine ct ?_;refine e7 ?_;refine aa (cT (ak (ai (aj (ah ?_)))));refine a8 7 [[(2, none)], [(0, none)], [(26, some 1)], [(27, some 2)], [(1, none)], [(29, some 4)], [(30, some 5)]] [(6, 31), (5, 30), (4, 29), (3, 28), (2, 27), (1, 26), (0, 25)] hh mixed KA ?_;refine Fq ?_;refine jt ?_;refine mH (0) ?_;refine x6 [_,_,_,_] (fun _ hj => (hr.ext hj.hp.below).recAt TR.len hxx) ?_;refine jt ?_;refine mH (0) ?_;refine x6 [_,_,_,_] (fun _ hj => (hr2.ext hj.hp.below).recAt TR.len hyy) ?_;refine bA ?_;intro f W hJ hV;have hb_3 := hJ.bl;obtain ⟨v31, v30, v29, v28, v27, v26, v25, _⟩ := hV;replace hh := hJ.hp;refine bj (bC (ae v31 (ae v30 (ae v29 (ae v28 (ae v27 (ae v26 (ae v25 bh)))))))) ?_;dsimp only [cP];clear hJ;refine eb (hsd _) aw.out rfl rfl Kz ?_;rintro e_ w32 ⟨rfl, hb_⟩;refine ⟨_, rfl, ?_⟩;replace hh := hh.ext hb_;refine aI (aa (aj (sr (mI ?_))));refine aK (aB (aa (cT ?_)));refine ma hh mixed fun w_ hj_ => ?_;replace hh := hj_.hp;clear hj_;refine dn (i := 6) (by repeat (first | exact cZ | refine cG ?_ | refine cY ?_ | refine np_scope ?_)) rfl KA KA KA (fun _ => eS rfl) Kz ?_
     refine dn (i := 7) (by repeat (first | exact cZ | refine cG ?_ | refine cY ?_ | refine np_scope ?_)) rfl KA KA KA (fun _ => iS (l := 1) aQ.out aF.size rfl rfl Ky Ky Ky) Kz ?_;refine dn (i := 0) (by repeat (first | exact cZ | refine cG ?_ | refine cY ?_ | refine np_scope ?_)) rfl KA KA KA (fun _ => eS rfl) Kz ?_;refine dn (i := 1) (by repeat (first | exact cZ | refine cG ?_ | refine cY ?_ | refine np_scope ?_)) rfl KA KA KA (fun _ => eS rfl) Kz ?_;refine dn (i := 2) (by repeat (first | exact cZ | refine cG ?_ | refine cY ?_ | refine np_scope ?_)) rfl KA KA KA (fun _ => jA (k := 0) aQ.out aF.size rfl rfl Ky Ky) Kz ?_;refine ea (i := 3) KA rfl ?_;refine bJ (vs := [_, _, _, _]) aF.out rfl ((hr.ext hh.below).recAt TR.len hxx) rfl Kz ?_;refine dt ?_;refine ea (i := 4) KA rfl ?_;refine aO hh (cs := [_, _, _, _]) aQ.out aF.out (aR (cJ rfl) bI) rfl rfl Kz Kz Kz rfl Kz ?_;intro b55 w55 hh;refine dt ?_;refine ea (i := 5) KA rfl ?_;refine cz hh (i := 1) rfl rfl rfl (hh.aM (i := 0) rfl) aQ.out aF.out rfl Kz (by first | rfl | exact cD _ | exact cm _ | exact bH _ | exact bO NR.one _) Ky Ky Kz ?_;intro A56 c56 w56 hh;simp only [List.set_cons_zero, List.set_cons_succ] at hh
     replace hh := hh.sub (List.sublist_cons_self _ _);refine dt ?_;refine eW 8 Kz KA Kz KA KA ?_;refine aL (aL (aE (aP (aP (ai ?_)))));replace hh := hh.sub (List.Sublist.cons_cons _ List.Sublist.slnil);refine ⟨⟨_, n - 1, c - 1, X, some ad2, m, c2, y :: Y, O ++ [x], A56, c56, rfl, rfl, ?_, Ky, hc2, hSt, hS2, hmg.left h1, ?_⟩, by show (n - 1) + m < n + m; omega, ?_⟩
     ·show Value.slice _ (O.length + 1) _ = Value.slice _ (O ++ [x]).length _;rw [List.length_append]
      rfl
     ·rw [List.length_append, cK];exact hh
     ·exact KB
    | false =>
     cases h2 : iV y.m x.m with
     | true =>
      rw [h1, h2, if_neg Kz, if_pos rfl] at hsd;refine ah (sr (mL (aW ?_)));refine ct (mB (gT (mL (gT (aW (gT ?_))))));refine ct ?_;refine e7 ?_;refine aa (cT (ak (ai (aj (ah ?_)))));refine a8 7 [[(2, none)], [(0, none)], [(26, some 1)], [(27, some 2)], [(1, none)], [(29, some 4)], [(30, some 5)]] [(6, 31), (5, 30), (4, 29), (3, 28), (2, 27), (1, 26), (0, 25)] hh mixed KA ?_;refine Fq ?_;refine jt ?_;refine mH (0) ?_;refine x6 [_,_,_,_] (fun _ hj => (hr.ext hj.hp.below).recAt TR.len hxx) ?_;refine jt ?_;refine mH (0) ?_;refine x6 [_,_,_,_] (fun _ hj => (hr2.ext hj.hp.below).recAt TR.len hyy) ?_;refine bA ?_;intro f W hJ hV;have hb_3 := hJ.bl;obtain ⟨v31, v30, v29, v28, v27, v26, v25, _⟩ := hV;replace hh := hJ.hp;refine bj (bC (ae v31 (ae v30 (ae v29 (ae v28 (ae v27 (ae v26 (ae v25 bh)))))))) ?_;dsimp only [cP];clear hJ;refine eb (hsd _) aw.out rfl rfl Kz ?_;rintro e_ w32 ⟨rfl, hb_⟩;refine ⟨_, rfl, ?_⟩;replace hh := hh.ext hb_;refine aI (aa (aj (sr (mI ?_))));refine aK (aB (aa (cF (sr (mI ?_)))));refine ct (aB (aa (cT ?_)));refine ma hh mixed fun w_ hj_ => ?_;replace hh := hj_.hp;clear hj_
      refine dn (i := 6) (by repeat (first | exact cZ | refine cG ?_ | refine cY ?_ | refine np_scope ?_)) rfl KA KA KA (fun _ => eS rfl) Kz ?_;refine dn (i := 7) (by repeat (first | exact cZ | refine cG ?_ | refine cY ?_ | refine np_scope ?_)) rfl KA KA KA (fun _ => iS (l := 1) aQ.out aF.size rfl rfl Ky Ky Ky) Kz ?_;refine dn (i := 0) (by repeat (first | exact cZ | refine cG ?_ | refine cY ?_ | refine np_scope ?_)) rfl KA KA KA (fun _ => eS rfl) Kz ?_;refine dn (i := 1) (by repeat (first | exact cZ | refine cG ?_ | refine cY ?_ | refine np_scope ?_)) rfl KA KA KA (fun _ => eS rfl) Kz ?_;refine dn (i := 2) (by repeat (first | exact cZ | refine cG ?_ | refine cY ?_ | refine np_scope ?_)) rfl KA KA KA (fun _ => jA (k := 0) aQ.out aF.size rfl rfl Ky Ky) Kz ?_;refine ea (i := 3) KA rfl ?_;refine bJ (vs := [_, _, _, _]) aF.out rfl ((hr2.ext hh.below).recAt TR.len hyy) rfl Kz ?_;refine dt ?_;refine ea (i := 4) KA rfl ?_;refine aO hh (cs := [_, _, _, _]) aQ.out aF.out (aR (cJ rfl) bI) rfl rfl Kz Kz Kz rfl Kz ?_;intro b66 w66 hh;refine dt ?_;refine ea (i := 5) KA rfl ?_
      refine cz hh (i := 1) rfl rfl rfl (hh.aM (i := 0) rfl) aQ.out aF.out rfl Kz (by first | rfl | exact cD _ | exact cm _ | exact bH _ | exact bO NR.one _) Ky Ky Kz ?_;intro A67 c67 w67 hh;simp only [List.set_cons_zero, List.set_cons_succ] at hh;replace hh := hh.sub (List.sublist_cons_self _ _);refine dt ?_;refine eW 8 Kz KA Kz KA KA ?_;refine aL (aL (aE (aP (aP (ai ?_)))));replace hh := hh.sub (List.Sublist.cons_cons _ List.Sublist.slnil);refine ⟨⟨some ad, n, c, x :: X, _, m - 1, c2 - 1, Y, O ++ [y], A67, c67, rfl, rfl, ?_, hc, Ky, hS, hSt2, hmg.right h2, ?_⟩, by show n + (m - 1) < n + m; omega, ?_⟩
      ·show Value.slice _ (O.length + 1) _ = Value.slice _ (O ++ [y]).length _;rw [List.length_append]
       rfl
      ·rw [List.length_append, cK];exact hh
      ·exact KB
     | false =>
      rw [h1, h2, if_neg Kz, if_neg Kz] at hsd;have hsm := fun w1 hT1 => B9 x y k w1 hT1 (hmg.ox x List.mem_cons_self) (hmg.oy y List.mem_cons_self) hk;refine ah (sr (mL (aW ?_)));refine ct (mB (gT (mL (gT (aW (gT ?_))))));refine ct ?_;refine e7 ?_;refine aa (cT (ak (ai (aj (ah ?_)))));refine a8 7 [[(2, none)], [(0, none)], [(26, some 1)], [(27, some 2)], [(1, none)], [(29, some 4)], [(30, some 5)]] [(6, 31), (5, 30), (4, 29), (3, 28), (2, 27), (1, 26), (0, 25)] hh mixed KA ?_;refine Fq ?_;refine jt ?_;refine mH (0) ?_;refine x6 [_,_,_,_] (fun _ hj => (hr.ext hj.hp.below).recAt TR.len hxx) ?_;refine jt ?_;refine mH (0) ?_;refine x6 [_,_,_,_] (fun _ hj => (hr2.ext hj.hp.below).recAt TR.len hyy) ?_;refine bA ?_;intro f W hJ hV;have hb_3 := hJ.bl;obtain ⟨v31, v30, v29, v28, v27, v26, v25, _⟩ := hV;replace hh := hJ.hp;refine bj (bC (ae v31 (ae v30 (ae v29 (ae v28 (ae v27 (ae v26 (ae v25 bh)))))))) ?_;dsimp only [cP];clear hJ;refine eb (hsd _) aw.out rfl rfl Kz ?_;rintro e_ w32 ⟨rfl, hb_⟩;refine ⟨_, rfl, ?_⟩;replace hh := hh.ext hb_;refine aI (aa (aj (sr (mI ?_))));refine aK (aB (aa (cF (sr (mI ?_)))));refine ct (aB (aa (cF ?_)));refine ma hh mixed fun w_ hj_ => ?_;replace hh := hj_.hp
      clear hj_;refine dn (i := 11) (by repeat (first | exact cZ | refine cG ?_ | refine cY ?_ | refine np_scope ?_)) rfl KA KA KA (fun _ => eS rfl) Kz ?_;refine dn (i := 12) (by repeat (first | exact cZ | refine cG ?_ | refine cY ?_ | refine np_scope ?_)) rfl KA KA KA (fun _ => iS (l := 1) aQ.out aF.size rfl rfl Ky Ky Ky) Kz ?_;refine dn (i := 13) (by repeat (first | exact cZ | refine cG ?_ | refine cY ?_ | refine np_scope ?_)) rfl KA KA KA (fun _ => eS rfl) Kz ?_;refine dn (i := 14) (by repeat (first | exact cZ | refine cG ?_ | refine cY ?_ | refine np_scope ?_)) rfl KA KA KA (fun _ => iS (l := 1) aQ.out aF.size rfl rfl Ky Ky Ky) Kz ?_;refine dn (i := 0) (by repeat (first | exact cZ | refine cG ?_ | refine cY ?_ | refine np_scope ?_)) rfl KA KA KA (fun _ => eS rfl) Kz ?_;refine dn (i := 1) (by repeat (first | exact cZ | refine cG ?_ | refine cY ?_ | refine np_scope ?_)) rfl KA KA KA (fun _ => eS rfl) Kz ?_;refine dn (i := 2) (by repeat (first | exact cZ | refine cG ?_ | refine cY ?_ | refine np_scope ?_)) rfl KA KA KA (fun _ => eS rfl) Kz ?_
      refine dn (i := 3) (by repeat (first | exact cZ | refine cG ?_ | refine cY ?_ | refine np_scope ?_)) rfl KA KA KA (fun _ => jA (k := 0) aQ.out aF.size rfl rfl Ky Ky) Kz ?_;refine dn (i := 5) (by repeat (first | exact cZ | refine cG ?_ | refine cY ?_ | refine np_scope ?_)) rfl KA KA KA (fun _ => eS rfl) Kz ?_;refine dn (i := 6) (by repeat (first | exact cZ | refine cG ?_ | refine cY ?_ | refine np_scope ?_)) rfl KA KA KA (fun _ => jA (k := 0) aQ.out aF.size rfl rfl Ky Ky) Kz ?_;refine mO (i := 4) (i2 := 7) KA rfl rfl ?_ ?_
      ·refine bJ (vs := [_, _, _, _]) aF.out rfl ((hr.ext hh.below).recAt TR.len hxx) rfl Kz ?_;refine dt ?_;refine ea (i := 7) KA rfl ?_;refine bJ (vs := [_, _, _, _]) aF.out rfl ((hr2.ext hh.below).recAt TR.len hyy) rfl Kz ?_;refine dt ?_;refine ea (i := 8) KA rfl ?_;refine eb (hsm _ (hT.hp hh)) aw.out rfl rfl Kz ?_; rintro e_ w41 ⟨rfl, hb_⟩; refine ⟨_, rfl, ?_⟩; replace hh := hh.ext hb_;refine dt ?_;refine ea (i := 9) KA rfl ?_;refine aO hh (cs := [_, _, _, _]) aQ.out aF.out (aR (cJ rfl) bI) rfl rfl Kz Kz Kz rfl Kz ?_;intro b42 w42 hh;refine dt ?_;refine ea (i := 10) KA rfl ?_;refine cz hh (i := 1) rfl rfl rfl (hh.aM (i := 0) rfl) aQ.out aF.out rfl Kz (by first | rfl | exact cD _ | exact cm _ | exact bH _ | exact bO NR.one _) Ky Ky Kz ?_;intro A43 c43 w43 hh;simp only [List.set_cons_zero, List.set_cons_succ] at hh;replace hh := hh.sub (List.sublist_cons_self _ _);refine dt ?_;refine eW 15 Kz KA Kz KA KA ?_;refine aL (aL (aL (aE (aP (aP (ai ?_))))));replace hh := hh.sub (List.Sublist.cons_cons _ List.Sublist.slnil)
       refine ⟨⟨_, n - 1, c - 1, X, _, m - 1, c2 - 1, Y, O ++ [⟨x.m, nR (x.c.d + y.c.d)⟩], A43, c43, rfl, rfl, ?_, Ky, Ky, hSt, hSt2, hmg.both h1 h2 hk, ?_⟩, by show (n - 1) + (m - 1) < n + m; omega, ?_⟩
       ·show Value.slice _ (O.length + 1) _ = Value.slice _ (O ++ [(⟨x.m, nR (x.c.d + y.c.d)⟩ : TR)]).length _;rw [List.length_append]
        rfl
       ·rw [List.length_append, cK];exact hh
       ·exact KB
      ·refine bJ (vs := [_, _, _, _]) aF.out rfl ((hr2.ext hh.below).recAt TR.len hyy) rfl Kz ?_;refine dt ?_;refine ea (i := 4) KA rfl ?_;refine bJ (vs := [_, _, _, _]) aF.out rfl ((hr.ext hh.below).recAt TR.len hxx) rfl Kz ?_;refine dt ?_;refine ea (i := 8) KA rfl ?_;refine eb (hsm _ (hT.hp hh)) aw.out rfl rfl Kz ?_; rintro e_ w41 ⟨rfl, hb_⟩; refine ⟨_, rfl, ?_⟩; replace hh := hh.ext hb_;refine dt ?_;refine ea (i := 9) KA rfl ?_;refine aO hh (cs := [_, _, _, _]) aQ.out aF.out (aR (cJ rfl) bI) rfl rfl Kz Kz Kz rfl Kz ?_;intro b42 w42 hh;refine dt ?_;refine ea (i := 10) KA rfl ?_;refine cz hh (i := 1) rfl rfl rfl (hh.aM (i := 0) rfl) aQ.out aF.out rfl Kz (by first | rfl | exact cD _ | exact cm _ | exact bH _ | exact bO NR.one _) Ky Ky Kz ?_;intro A43 c43 w43 hh;simp only [List.set_cons_zero, List.set_cons_succ] at hh;replace hh := hh.sub (List.sublist_cons_self _ _);refine dt ?_;refine eW 15 Kz KA Kz KA KA ?_;refine aL (aL (aL (aE (aP (aP (ai ?_))))));replace hh := hh.sub (List.Sublist.cons_cons _ List.Sublist.slnil)
       refine ⟨⟨_, n - 1, c - 1, X, _, m - 1, c2 - 1, Y, O ++ [⟨x.m, nR (x.c.d + y.c.d)⟩], A43, c43, rfl, rfl, ?_, Ky, Ky, hSt, hSt2, hmg.both h1 h2 hk, ?_⟩, by show (n - 1) + (m - 1) < n + m; omega, ?_⟩
       ·show Value.slice _ (O.length + 1) _ = Value.slice _ (O ++ [(⟨x.m, nR (x.c.d + y.c.d)⟩ : TR)]).length _;rw [List.length_append]
        rfl
       ·rw [List.length_append, cK];exact hh
       ·exact KB
end Go.Proofs.YtaapkaefelhfcaaGreatDoor
/- The built-in clear, on a slice that one owns. Plain lemmas, no program in sight. -/
namespace Go.Proofs.YtaapkaefelhfcaaGreatDoor
open Go.RowKit
variable {ro : Mode}
theorem rn {w : World} {b b' : Nat} {t : TypeId} {sz n c : Nat} {A : Option Addr} {xs : List Value} (h : w.ownsRow b t sz (.slice A n c) n xs) (hb : b' ≤ b) : w.ownsRow b' t sz (.slice A n c) n xs :=
 ⟨h.1, h.2.imp id fun ⟨g, cap, cur, h1, h2, h3⟩ => ⟨g, cap, cur, h1, Nat.le_trans hb h2, h3⟩⟩
theorem lO {w : World} {b b' : Nat} {x : HE} (h : x.holds b w) (hb : b' ≤ b) : x.holds b' w := by
 cases x with
 | blk b t cs fz => exact ⟨Nat.le_trans hb h.1, h.2⟩
 | row A n c t sz xs => exact rn h hb
 | ob b o => exact ⟨Nat.le_trans hb h.1, h.2⟩
theorem Hp.perm {w0 w : World} {H H' : List HE} (h : Hp w0 H w) (hp : H.Perm H') : Hp w0 H' w :=
 ⟨h.below, fun x hx => h.own x (hp.mem_iff.2 hx), (hp.filterMap _).nodup_iff.1 h.nd⟩
theorem Hp.iw {w0 w : World} {H : List HE} (h : Hp w0 H w) {i n c sz : Nat} {A : Option Addr} {t : TypeId} {xs : List Value} (hi : H[i]? = some (.row A n c t sz xs)) : n ≤ c := by
 have h1 : w.ownsRow w0.heap.size t sz (.slice A n c) n xs := h.at_ hi
 rcases h1.2 with ⟨_, h3⟩ | ⟨g, cap, cur, h2, _, _, h5, _⟩
 ·omega
 ·injection h2 with _ _ e3
  omega
theorem Hp.join {w0 w w' : World} {H H2 : List HE} (h : Hp w0 H w) (h2 : Hp w H2 w') : Hp w0 (H2 ++ H) w' := by
 have h' := h.ext h2.below;refine ⟨h'.below, fun x hx => ?_, ?_⟩
 ·rcases List.mem_append.1 hx with hx | hx
  ·exact lO (h2.own x hx) h.size
  ·exact h'.own x hx
 ·rw [List.filterMap_append, List.nodup_append];refine ⟨h2.nd, h.nd, fun a ha b hb hab => ?_⟩;subst hab;obtain ⟨x, hx, hxa⟩ := List.mem_filterMap.1 ha;obtain ⟨y, hy, hya⟩ := List.mem_filterMap.1 hb;have h3 := fw (h2.own x hx) hxa;have h4 := fw (h.own y hy) hya;omega
section
variable {P : Program} {N : Nat} {ops : Array Oper} {Q : Kq} {ρ : Rf} {w w0 : World} {rest : List Oper} {H : List HE} {ty : TypeId} {pos : String} {af : Array Edge}
theorem Fb {o : Oper} {v : Value} {w' : World} (hg : o.guard = none) (hd : o.dst = none)
  (hr : (execOp (ev ρ) o).run P w = .ok (.value v) w') (k : WL ro P N ops Q rest ρ w') : WL ro P N ops Q (o :: rest) ρ w :=
 ⟨fun hm a hf => wpList_plain hg fun K hK => by
  unfold Oper.wp;rw [hf.eval, hr];show K (a.put o.dst v) w';rw [hd];exact hK _ _ (k.ld hm _ hf),
 fun a hf n => wpListIn_plain hg fun K hK => by
  refine ⟨fun _ _ => trivial, ?_⟩;rw [hf.eval, l9 _ hr (fun _ h => by cases h)];show K (a.put o.dst v) w';rw [hd];exact hK _ _ (k.mr _ hf n)⟩
theorem D3 {α : Type} {l : List α} {i : Nat} {x : α} (h : l[i]? = some x) : l.set i x = l := by
 obtain ⟨h1, rfl⟩ := List.getElem?_eq_some_iff.1 h;exact List.set_getElem_self h1
end
abbrev Hp.sz {w0 w : World} {H : List HE} (_ : Hp w0 H w) : Nat := w.heap.size
theorem Hs {base : Nat} {W : World} {A : Option Addr} {n c sz b : Nat} {t' t : TypeId} {xs : List Value} {cs : Array Value} {fz : Nat × Nat} (h : HE.holds base W (.row A n c t' sz xs)) (h3 : W.heap[b]? = some (.cells cs t fz)) (hne : t' ≠ t) : (HE.row A n c t' sz xs).id ≠ some b := by
 intro hid
 rcases h.2 with ⟨h1, _⟩ | ⟨g, cap, cur, h1, _, h4, _⟩
 ·injection h1 with e1
  subst e1
  cases hid
 ·injection h1 with e1
  subst e1;obtain rfl : g = b := Option.some.inj hid;rw [h3] at h4;injection h4 with h4
  injection h4 with _ h5
  exact hne h5.symm
theorem JJ.tP {w0 w W w1 : World} {H L : List HE} {t : TypeId} {cs : List Value} {b : Nat} (hJ : JJ w0 H w W) (hs : Hp w0 H w) (h2 : w.heap.size ≤ b) (h3 : W.heap[b]? = some (.cells cs.toArray t (0, 0))) (hb : w.heap.size ≤ w1.heap.size) (hL : Hp w1 L W) (hne : ∀ x ∈ L, x.id ≠ some b) : Hp w0 (.blk b t cs (0, 0) :: (L ++ H)) W := by
 have h1 := hs.join (⟨hJ.bl, fun x hx => lO (hL.own x hx) hb, hL.nd⟩ : Hp w L W);refine ⟨h1.below, fun x hx => ?_, ?_⟩
 ·rcases List.mem_cons.1 hx with rfl | hx
  ·exact ⟨Nat.le_trans hs.size h2, h3, .inr (Nat.le_refl _)⟩
  ·exact h1.own x hx
 ·rw [List.filterMap_cons];show (b :: (L ++ H).filterMap HE.id).Nodup;refine List.nodup_cons.2 ⟨fun hm => ?_, h1.nd⟩;obtain ⟨y, hy, hyb⟩ := List.mem_filterMap.1 hm
  rcases List.mem_append.1 hy with hy | hy
  ·exact hne y hy hyb
  ·have := (fw (hs.own y hy) hyb).2;omega
def JM (base : Nat) (t : TypeId) (n sz : Nat) (cs : List Value) : VP := fun v W => ∃ A c, v = .slice A n c ∧ W.ownsRow base t sz (.slice A n c) n cs
def Jz (base : Nat) (t1 t2 : TypeId) (n1 s1 n2 s2 : Nat) (xs1 xs2 : List Value) : VP := fun v W => ∃ A c B k, v = .agg #[.slice A n1 c, .slice B n2 k] ∧ W.ownsRow base t1 s1 (.slice A n1 c) n1 xs1 ∧ W.ownsRow base t2 s2 (.slice B n2 k) n2 xs2
end Go.Proofs.YtaapkaefelhfcaaGreatDoor
/- The walk through poly.sorted. -/
namespace Go.Proofs.YtaapkaefelhfcaaGreatDoor
open Go.RowKit
structure RX where
 A : Option Addr
 n : Nat
 c : Nat
 ts : List TR
def kg (k : Nat) (l : List TR) : VP := fun v W => ∃ g : RX, v = .slice g.A g.n g.c ∧ (g.n ≤ g.c ∧ g.ts.length = g.n ∧ MD k l g.ts ∧ Sl W g.A g.n 4 (aY TR.cells g.ts))
theorem kg.ext {k : Nat} {l : List TR} (v : Value) (w w' : World) (h : kg k l v w) (hb : Below w.heap.size w w') : kg k l v w' := let ⟨g, h1, h2, h3, h4, h5⟩ := h; ⟨g, h1, h2, h3, h4, h5.ext hb⟩
theorem MD.Dl {k k1 k2 j : Nat} {l1 l2 L1 L2 L : List TR} (h1 : MD k1 l1 L1) (h2 : MD k2 l2 L2) (h : MD k (L1 ++ L2) L) (hk : k ≤ j) : MD j (l1 ++ l2) L :=
 ⟨h.pS, fun m => by rw [h.co, ff, h1.co, h2.co, ff], by have a := h.len; have b := h1.len; have c := h2.len; rw [List.length_append] at a ⊢; omega, h.ok.mono hk, fun t ht => by
  obtain ⟨s, hs, e⟩ := h.mem t ht
  rcases List.mem_append.1 hs with hs | hs
  ·obtain ⟨u, hu, e2⟩ := h1.mem s hs;exact ⟨u, List.mem_append_left _ hu, e2.trans e⟩
  ·obtain ⟨u, hu, e2⟩ := h2.mem s hs;exact ⟨u, List.mem_append_right _ hu, e2.trans e⟩⟩
theorem lL (k : Nat) : ∀ (N : Nat) (A : Option Addr) (n c : Nat) (l : List TR) (w : World), n ≤ N → eP w → Sl w A n 4 (aY TR.cells l) → n ≤ c → n ≤ 1000000 → k + n ≤ 3999980 → jq k l →
  Calls Tryz.prog 196 #[.slice A n c, .func (.func 104) #[] #[], .func (.func 105) #[] #[]] w fun r w' => (n < 2 ∧ r = .returned (.slice A n c) ∧ Below w.heap.size w w') ∨ (2 ≤ n ∧ ∃ (L : List TR) (A' : Option Addr) (c' : Nat), MD (k + n) l L ∧ r = .returned (.slice A' L.length c') ∧ Hp w [.row A' L.length c' 55 4 (aY TR.cells L)] w')
 | 0, A, n, c, l, w, hN, hT, hS, hc, hn, hk, hok => by
  have hh := Hp.start w;obtain rfl : n = 0 := Ky;refine al (N := 30) (l := [.slice A 0 c, .func (.func 104) #[] #[], .func (.func 105) #[] #[]]) Tryz.func196 rfl rfl (by simp) ?_;refine sr (aL (aa (ah (sr (mL (aW ?_))))));refine aK (aa (cT (sr (mL (aL (aa (ao (aG ?_))))))));refine cq ?_;exact .inl ⟨Ky, rfl, hh.below⟩
 | N + 1, A, n, c, l, w, hN, hT, hS, hc, hn, hk, hok => by
  have hh := Hp.start w;have hl := hS.bM TR.len Kz;by_cases h2 : n < 2
  ·refine al (N := 30) (l := [.slice A n c, .func (.func 104) #[] #[], .func (.func 105) #[] #[]]) Tryz.func196 rfl rfl (by simp) ?_;refine sr (aL (aa (ah (sr (mL (aW ?_))))));refine aK (aa (cT (sr (mL (aL (aa (ao (aG ?_))))))));refine cq ?_;exact .inl ⟨h2, rfl, hh.below⟩
  ·obtain ⟨h, hhalf⟩ : ∃ h, h = n / 2 := ⟨_, rfl⟩;have hh1 : 1 ≤ h := Ky;have hh2 : h + h ≤ n := Ky;have hh3 : n ≤ h + h + 1 := Ky;have hq : ((n : Int)) / 2 = (h : Int) := Ky;have hS1 := hS.front (m := h) Ky;rw [show (aY TR.cells l).take (h * 4) = aY TR.cells (l.take h) from l8 TR.len l h] at hS1;have hS2 := hS.back (l := h) Ky hc;rw [show (aY TR.cells l).drop (h * 4) = aY TR.cells (l.drop h) from km TR.len l h] at hS2;have o1 : jq k (l.take h) := fun t ht => hok t (List.mem_of_mem_take ht);have o2 : jq k (l.drop h) := fun t ht => hok t (List.mem_of_mem_drop ht);have rd : ∀ {A' : Option Addr} {n' c' : Nat} {l' : List TR} {r : Ending} {w1 w' : World}, Sl w1 A' n' 4 (aY TR.cells l') → n' ≤ c' → jq k l' → ((n' < 2 ∧ r = .returned (.slice A' n' c') ∧ Below w1.heap.size w1 w') ∨ (2 ≤ n' ∧ ∃ (L : List TR) (B : Option Addr) (b : Nat), MD (k + n') l' L ∧ r = .returned (.slice B L.length b) ∧ Hp w1 [.row B L.length b 55 4 (aY TR.cells L)] w')) → ∃ v, r = .returned v ∧ Below w1.heap.size w1 w' ∧ kg (k + n') l' v w' := by
    rintro A' n' c' l' r w1 w' hs hc' ho (⟨h1, rfl, hb⟩ | ⟨h1, L, B, b, hm, rfl, h3⟩)
    ·have e := hs.bM TR.len Kz;exact ⟨_, rfl, hb, ⟨A', n', c', l'⟩, rfl, hc', e, (MD.self (tU Ky) ho).mono Ky, hs.ext hb⟩
    ·exact ⟨_, rfl, h3.below, ⟨B, L.length, b, L⟩, rfl, h3.iw (i := 0) rfl, rfl, hm, h3.aM (i := 0) rfl⟩
   have ih1 := fun w1 (hT1 : eP w1) (hb : Below w.heap.size w w1) => lL k N A h c (l.take h) w1 Ky hT1 (hS1.ext hb) Ky Ky Ky o1;have ih2 := fun w1 (hT1 : eP w1) (hb : Below w.heap.size w w1) => lL k N _ (n - h) (c - h) (l.drop h) w1 Ky hT1 (hS2.ext hb) Ky Ky Ky o2;refine al (N := 30) (l := [.slice A n c, .func (.func 104) #[] #[], .func (.func 105) #[] #[]]) Tryz.func196 rfl rfl (by simp) ?_;refine sr (aL (aa (ah (sr (mL (aW ?_))))));refine aK (aa (cF (ak (ai (sr (mL (aW ?_)))))));refine jr rfl rfl Ky Ky Ky Kz ?_;refine aI (aa (ah ?_));rw [hq];refine a8 14 [[(0, none)], [(7, none)], [(15, some 0), (16, some 1)], [(1, none)], [(2, none)], [(17, some 2), (18, some 3), (19, some 4)], [(0, none)], [(7, none)], [(21, some 6), (22, some 7)], [(1, none)], [(2, none)], [(23, some 8), (24, some 9), (25, some 10)], [(1, none)], [(2, none)]] [(13, 28), (12, 27), (11, 26), (10, 25), (9, 24), (8, 23), (7, 22), (6, 21), (5, 20), (4, 19), (3, 18), (2, 17), (1, 16), (0, 15)] hh mixed KA ?_;refine jt ?_;refine fJ ?_;refine bF (i := 2) (fun ρ1 w1 hj hR => vR (h := h) aQ.out aF.size (show ρ1 15 = Value.slice _ _ _ from hR.1) (show ρ1 16 = Value.int _ _ from hR.2.1) Ky Ky) ?_;refine Fq ?_;refine Fq ?_
   refine cH (i := 5) (kg (k + h) (l.take h)) (kg.ext) ?_ ?_
   ·intro ρ1 w1 hj hR;exact du rfl (bX aw.out (a7 (show ρ1 17 = Value.slice _ _ _ from hR.1) (a7 (show ρ1 18 = Value.func _ _ _ from hR.2.1) (a7 (show ρ1 19 = Value.func _ _ _ from hR.2.2.1) bQ)))) (ih1 w1 (hT.hp hj.hp) hj.hp.below) (fun _ _ hq => rd (hS1.ext hj.hp.below) Ky o1 hq)
   refine jt ?_;refine fJ ?_;refine bF (i := 8) (fun ρ1 w1 hj hR => iS (l := h) aQ.out aF.size (show ρ1 21 = Value.slice _ _ _ from hR.1) (show ρ1 22 = Value.int _ _ from hR.2.1) Ky Ky Ky) ?_;refine Fq ?_;refine Fq ?_;refine cH (i := 11) (kg (k + (n - h)) (l.drop h)) (kg.ext) ?_ ?_
   ·intro ρ1 w1 hj hR;exact du rfl (bX aw.out (a7 (show ρ1 23 = Value.slice _ _ _ from hR.1) (a7 (show ρ1 24 = Value.func _ _ _ from hR.2.1) (a7 (show ρ1 25 = Value.func _ _ _ from hR.2.2.1) bQ)))) (ih2 w1 (hT.hp hj.hp) hj.hp.below) (fun _ _ hq => rd (hS2.ext hj.hp.below) Ky o2 hq)
   refine Fq ?_;refine Fq ?_;refine bA ?_;intro f W hJ hV;have hb_4 := hJ.bl;obtain ⟨v28, v27, v26, v25, v24, v23, v22, v21, v20, v19, v18, v17, v16, v15, _⟩ := hV;obtain ⟨g20, e20, o20⟩ : kg (k + h) (l.take h) (f 5) W := v20;obtain ⟨g26, e26, o26⟩ : kg (k + (n - h)) (l.drop h) (f 11) W := v26;replace hh := hJ.hp;refine bj (bC (ae v28 (ae v27 (ae e26 (ae v25 (ae v24 (ae v23 (ae v22 (ae v21 (ae e20 (ae v19 (ae v18 (ae v17 (ae v16 (ae v15 bh))))))))))))))) ?_;dsimp only [cP];clear e20 e26 hJ;obtain ⟨p1, p2, p3, p4⟩ := o20;obtain ⟨q1, q2, q3, q4⟩ := o26;have l1 := p3.len;have l2 := q3.len;rw [List.length_take] at l1;rw [List.length_drop] at l2;refine aN (nu g20.A g20.n g20.c g20.ts g26.A g26.n g26.c g26.ts (k + (n - h)) _ (hT.hp hh) p4 q4 p1 q1 Ky Ky Ky p3.pS q3.pS (p3.ok.mono Ky) (q3.ok.mono Ky)) aw.out rfl Kz ?_;rintro e_ w29 ⟨L, A', c', hm, rfl, h3⟩;refine ⟨_, rfl, ?_⟩;replace hh := hh.join h3;refine aL (aa (ao ?_));refine cq ?_;refine .inr ⟨Ky, L, A', c', ?_, rfl, hh⟩;have := p3.Dl q3 hm (j := k + n) Ky;rwa [List.take_append_drop] at this
end Go.Proofs.YtaapkaefelhfcaaGreatDoor
/- A part of a row of one's own: append in place, clear of the tail. Plain lemmas, no program in sight. -/
namespace Go.Proofs.YtaapkaefelhfcaaGreatDoor
open Go.RowKit
variable {ro : Mode}
section
variable {P : Program} {N : Nat} {ops : Array Oper} {Q : Kq} {ρ : Rf} {w w0 : World} {rest : List Oper} {H : List HE} {ty d : Nat} {pos : String} {af : Array Edge}
theorem uO (hh : Hp w0 H w) {t e : TypeId} {x : Operand} {i p c m c' o sz by' g : Nat} {ag : Bool} {zc xs : List Value} (hi : H[i]? = some (.row (some ⟨g, 0, none⟩) p c e sz xs)) (hx : ev ρ x = .slice (some ⟨g, o, none⟩) m c') (ho : p * sz ≤ o) (hom : o + m * sz ≤ c * sz) (hm : 0 < m)
  (ht : P.underlying t = some (.slice e)) (hte : dP P e = some (sz, ag, by', zc)) (hzl : zc.length = sz) (h1 : (zc.all Value.oneCell') = true)
  (k : ∀ w', Hp w0 H w' → WL ro P N ops Q rest ρ w') : WL ro P N ops Q (⟨none, .call ⟨.builtin .clear, #[x], #[t]⟩, ty, pos, af, none⟩ :: rest) ρ w := by
 obtain ⟨z, hz, hzc⟩ := eE (w := w) hte;obtain ⟨hlen, h2⟩ := hh.at_ hi
 rcases h2 with ⟨h2, _⟩ | ⟨g', cap, cur, hv, hg, hheap, hmc, hcm, hcur, htake⟩
 ·cases h2
 ·injection hv with hA hn hcap
  injection hA with hA
  injection hA with hA
  subst hA; subst hcap;have hcl : cur.size = cur.toList.length := by simp
  have hzr : (gh m zc).length = m * sz := by rw [lP, hzl]
  have hall : ∀ v ∈ gh m zc, v.oneCell' = true := fun v hv => by
   obtain ⟨j, hj⟩ := List.mem_iff_getElem?.1 hv;have hj2 := (List.getElem?_eq_some_iff.1 hj).1;rw [lP] at hj2;rw [uT m zc j hj2] at hj;exact List.all_eq_true.1 h1 v (List.mem_of_getElem? hj)
  obtain ⟨w', hr, hb', hgr, hs⟩ := gJ (P := P) (b := g) (t := e) (fz := (0, 0)) o (gh m zc) 0 cur.toList w (by simpa using hheap) (.inr (Nat.le_refl _)) (by rw [← hcl, hzr]; omega) hall;have hset := D3 hi;refine Fb rfl rfl (w' := w') (v := .tuple #[]) ?_ (k w' (hset ▸ hh.grown hi hgr (.inl rfl) ⟨hlen, .inr ⟨g, c, (cI cur.toList (o + 0) (gh m zc)).toArray, rfl, hg, by simpa using hb', hmc, hcm, ?_, ?_⟩⟩))
  ·simp only [execOp, resolve, invoke, hx, List.map_toArray, List.map_cons, List.map_nil];have hzz : Builtin.zeroCells z.cells m = (gh m zc).toArray := by
    rw [Builtin.zeroCells, hzc, List.size_toArray]; exact lz m zc
   obtain ⟨q, rfl⟩ : ∃ q, m = q + 1 := ⟨m - 1, Ky⟩;simp [builtin, Builtin.clear_, run_underlying ht, hz, hzz, hr]
  ·simp only [List.size_toArray];rw [fD (by rw [← hcl, hzr]; omega), ← hcl, hcur]
  ·simp only [cI];rw [List.append_assoc, List.take_append_of_le_length (by rw [List.length_take, ← hcl]; omega), List.take_take, Nat.min_eq_left Ky];exact htake
end
end Go.Proofs.YtaapkaefelhfcaaGreatDoor
/- Append to a slice without room, whose memory nobody needs. Plain lemmas, no program in sight. -/
namespace Go.Proofs.YtaapkaefelhfcaaGreatDoor
open Go.RowKit
variable {ro : Mode}
section
variable {P : Program} {N : Nat} {ops : Array Oper} {Q : Kq} {ρ : Rf} {w w0 : World} {rest : List Oper} {d : Nat} {ty : TypeId} {pos : String} {af : Array Edge}
theorem mg {t e u : TypeId} {x y : Operand} {A : Option Addr} {n c n' c' : Nat} (ht : P.underlying t = some (.slice e)) (hx : ev ρ x = .slice A n c) (hy : ev ρ y = .slice none n' c') (hN : d < N)
  (kk : WL ro P N ops Q rest (de ρ d (.bool A.isNone)) w) : WL ro P N ops Q (⟨some d, .binOp .eql t x y u, ty, pos, af, none⟩ :: rest) ρ w :=
 bp rfl rfl hN (by
  have h1 := Go.Lib.run_eql_slice_nil (P := P) w t e A n c n' c' ht;simp only [execOp, hx, hy];simp [eqGuard, h1]) kk
end
end Go.Proofs.YtaapkaefelhfcaaGreatDoor
/- The walks through slices.IndexFunc, ContainsFunc, DeleteFunc, Clone of terms. -/
namespace Go.Proofs.YtaapkaefelhfcaaGreatDoor
open Go.RowKit
theorem rM (A : Option Addr) (n c : Nat) (l : List TR) (g : FuncId) (cap : List Value) (p : TR → Bool) (w : World) (hS : Sl w A n 4 (aY TR.cells l)) (hn : n ≤ 1000000) [aw Tryz.prog g]
  (hg : ∀ (z : TR) (w1 : World), z ∈ l → Below w.heap.size w w1 → Calls Tryz.prog g (.agg #[.string z.m, .bool z.c.neg, .string z.c.cA, .int .i64 z.c.e] :: cap).toArray w1 fun r w' => r = .returned (.bool (p z)) ∧ Below w1.heap.size w1 w') :
  Calls Tryz.prog 239 #[.slice A n c, .func (.func g) #[] cap.toArray] w fun r w' => ∃ v, r = .returned (.int .i64 v) ∧ ((l.any p = false ∧ v = -1) ∨ ∃ (i : Nat) (z : TR), i < n ∧ v = i ∧ (l.take i).any p = false ∧ l[i]? = some z ∧ p z = true) ∧ Below w.heap.size w w' := by
 have hh := Hp.start w;have hln := hS.bM TR.len Kz;refine al (N := 19) (l := [.slice A n c, .func (.func g) #[] cap.toArray]) Tryz.func239 rfl rfl (by simp) ?_;refine sr (aI (aa (ah (sr (mL (aW (mI (aa (aj ?_)))))))));refine bm [4, 5, 8, 9, 10, 11, 12, 13, 14, 15, 16, 17, 18] 8
  (fun v w' => ∃ i : Nat, i ≤ n ∧ v = .int .i64 i ∧ (l.take i).any p = false ∧ Hp w [] w')
  (fun v _ => n - (intOf v).toNat) ?_ ?_
 ·exact ⟨0, Nat.zero_le _, rfl, rfl, hh⟩
 ·clear hh;rintro ρ' v w' ⟨i, hi, rfl, hall, hh⟩;by_cases hlt : i < n
  ·obtain ⟨z, hz⟩ := ay (l := l) (k := i) Ky;obtain ⟨ad, rfl, hr⟩ := hS.at_ Ky;have hc := fun w1 => hg z w1 (List.mem_of_getElem? hz)
   cases gz : p z with
   | true =>
    rw [gz] at hc;refine sr ?_;refine aK (aa (ah (cT (ak (ai (ah (aj (sr (mI (aI (aa (sr ?_))))))))))));refine eh (by first | exact eg rfl | exact ev_nilf rfl) Kz ?_;refine mL (mI ?_);refine aD (k := i) aQ.out aF.size rfl rfl Ky Ky Kz ?_;refine bJ (vs := [_, _, _, _]) aF.out rfl ((hr.ext hh.below).recAt TR.len hz) rfl Kz ?_;refine eb (hc _ hh.below) aw.out rfl rfl Kz ?_;rintro e_ w16 ⟨rfl, hb_⟩;refine ⟨_, rfl, ?_⟩;replace hh := hh.ext hb_;refine aa (cT (sr (mI (aI (aa (ao (bD (aG (aG (bD (aG ?_)))))))))));refine cq ?_;exact ⟨_, rfl, .inr ⟨i, z, hlt, rfl, hall, hz, gz⟩, hh.below⟩
   | false =>
    rw [gz] at hc;refine sr ?_;refine aK (aa (ah (cT (ak (ai (ah (aj (sr (mI (aI (aa (sr ?_))))))))))));refine eh (by first | exact eg rfl | exact ev_nilf rfl) Kz ?_;refine mL (mI ?_);refine aD (k := i) aQ.out aF.size rfl rfl Ky Ky Kz ?_;refine bJ (vs := [_, _, _, _]) aF.out rfl ((hr.ext hh.below).recAt TR.len hz) rfl Kz ?_;refine eb (hc _ hh.below) aw.out rfl rfl Kz ?_;rintro e_ w16 ⟨rfl, hb_⟩;refine ⟨_, rfl, ?_⟩;replace hh := hh.ext hb_;refine aa (cF (ak (aP (ai (aq ?_)))));refine bB (mI (aE (ai ?_)));refine ⟨⟨i + 1, Ky, rfl, by rw [aH hz, List.any_append, hall, List.any_cons, List.any_nil, gz]; rfl, hh⟩, by show n - (i + 1) < n - i; omega, ?_⟩;exact KB
  ·rw [List.take_of_length_le Ky] at hall;refine sr ?_;refine aK (aa (ah (cF (aJ (az (az (aX (ai (sr (aI (aa (ao ?_))))))))))));refine cq ?_;exact ⟨_, rfl, .inl ⟨hall, rfl⟩, hh.below⟩
theorem yG (A : Option Addr) (n c : Nat) (l : List TR) (g : FuncId) (cap : List Value) (p : TR → Bool) (w : World) (hS : Sl w A n 4 (aY TR.cells l)) (hn : n ≤ 1000000) [aw Tryz.prog g]
  (hg : ∀ (z : TR) (w1 : World), z ∈ l → Below w.heap.size w w1 → Calls Tryz.prog g (.agg #[.string z.m, .bool z.c.neg, .string z.c.cA, .int .i64 z.c.e] :: cap).toArray w1 fun r w' => r = .returned (.bool (p z)) ∧ Below w1.heap.size w1 w') :
  Calls Tryz.prog 187 #[.slice A n c, .func (.func g) #[] cap.toArray] w fun r w' => r = .returned (.bool (l.any p)) ∧ Below w.heap.size w w' := by
 have hh := Hp.start w;refine al (N := 9) (l := [.slice A n c, .func (.func g) #[] cap.toArray]) Tryz.func187 rfl rfl (by simp) ?_;refine sr (aB (aa (sr (mL ?_))));refine eh (by first | exact eg rfl | exact ev_nilf rfl) Kz ?_;refine aN (rM A n c l g cap p _ (hS.ext hh.below) hn hg) aw.out rfl Kz ?_;rintro e_ w7 ⟨v_, rfl, hv_, hb_⟩;refine ⟨_, rfl, ?_⟩;replace hh := hh.ext hb_
 rcases hv_ with ⟨ha, rfl⟩ | ⟨i, z, hi, rfl, ht, hz, hp⟩
 ·rw [ha];refine dv (aB (aa (ao ?_)));refine cq ?_;exact ⟨rfl, hh.below⟩
 ·rw [show l.any p = true from List.any_eq_true.2 ⟨z, List.mem_of_getElem? hz, hp⟩];refine dv (aB (aa (ao ?_)));refine cq ?_;exact ⟨rfl, hh.below⟩
theorem kF (A : Option Addr) (n c : Nat) (l : List TR) (w : World) (hS : Sl w A n 4 (aY TR.cells l)) (hn : n ≤ 1000000) :
  Calls Tryz.prog 107 #[.slice A n c] w fun r w' => ∃ A' c', r = .returned (.slice A' n c') ∧ w'.ownsRow w.heap.size 55 4 (.slice A' n c') n (aY TR.cells l) ∧ Below w.heap.size w w' := by
 have hh := Hp.start w;have oX := bO TR.one l
 rcases A with _ | ad
 ·have hn0 : n = 0 := by
   rcases Nat.eq_zero_or_pos n with h | h
   ·exact h
   ·obtain ⟨_, h1, _⟩ := hS.2 h; cases h1
  subst hn0;have hl : l = [] := List.eq_nil_of_length_eq_zero (by have := hS.bM TR.len Kz; omega);subst hl;refine al (N := 8) (l := [.slice none 0 c]) Tryz.func107 rfl rfl (by simp) ?_;refine sr (aL (aa (ah (sr (mL ?_)))));refine mg aQ.out rfl rfl Kz ?_;refine aa (cT (sr (aL (aa (ao (aG ?_))))));refine cq ?_;exact ⟨_, _, rfl, World.ownsRow_nil _ _ _ _, hh.below⟩
 ·refine al (N := 8) (l := [.slice (some ad) n c]) Tryz.func107 rfl rfl (by simp) ?_;refine sr (aL (aa (ah (sr (mL ?_)))));refine mg aQ.out rfl rfl Kz ?_;refine aa (cF (ak (ai (sr ?_))));refine jN hh aQ.out aF.out Kz ?_;intro b5 w5 hh;refine mL ?_;refine cz hh (i := 0) rfl rfl rfl (hS.ext hh.below) aQ.out aF.out rfl Kz ?one8 Ky Ky Kz ?kk8
  case one8 => first | rfl | assumption | exact bH _ | exact oneCells_u8s _
  intro A7 c7 w7 hh;simp only [List.set_cons_zero] at hh;rw [Nat.zero_add] at hh ⊢;rw [List.nil_append] at hh;refine aL (aa (ao ?_));refine cq ?_;exact ⟨_, _, rfl, hh.at_ (i := 0) rfl, hh.below⟩
theorem xn {α : Type} {l : List α} {i j : Nat} (h : i < j) (x : α) : (l.set i x).drop j = l.drop j := by
 refine List.ext_getElem? fun k => ?_;rw [List.getElem?_drop, List.getElem?_drop, List.getElem?_set, if_neg Ky]
theorem sB {α : Type} {l : List α} {i : Nat} (h : i < l.length) (x : α) : (l.set i x).take (i + 1) = l.take i ++ [x] := by
 rw [aH (show (l.set i x)[i]? = some x by rw [List.getElem?_set, if_pos rfl, if_pos h]), List.take_set_of_le (Nat.le_refl _)]
theorem yX {w0 : World} {Hr : List HE} (A : Option Addr) (n c : Nat) (l : List TR) (g : FuncId) (p : TR → Bool) (w : World) (hh : Hp w0 (.row A n c 55 4 (aY TR.cells l) :: Hr) w) (hl : l.length = n) (hn : n ≤ 1000000) [aw Tryz.prog g]
  (hg : ∀ (z : TR) (w1 : World), z ∈ l → Calls Tryz.prog g (.agg #[.string z.m, .bool z.c.neg, .string z.c.cA, .int .i64 z.c.e] :: []).toArray w1 fun r w' => r = .returned (.bool (p z)) ∧ Below w1.heap.size w1 w') :
  Calls Tryz.prog 195 #[.slice A n c, .func (.func g) #[] #[]] w fun r w' => r = .returned (.slice A (l.filter fun z => !p z).length c) ∧ Hp w0 (.row A (l.filter fun z => !p z).length c 55 4 (aY TR.cells (l.filter fun z => !p z)) :: Hr) w' := by
 have hc := hh.iw (i := 0) rfl;have hsl := hh.aM (i := 0) rfl;refine al (N := 42) (l := [.slice A n c, .func (.func g) #[] #[]]) Tryz.func195 rfl rfl (by simp) ?_;refine sr (aL (aa (sr (mL ?_))));refine eh (by first | exact eg rfl | exact ev_nilf rfl) Kz ?_;refine aN (rM A n c l g [] p _ hsl hn (fun z w1 hz _ => hg z w1 hz)) aw.out rfl Kz ?_;rintro e_ w10 ⟨v_, rfl, hv_, hb_⟩;refine ⟨_, rfl, ?_⟩;replace hh := hh.ext hb_
 rcases hv_ with ⟨ha, rfl⟩ | ⟨i0, z0, hi0, rfl, ht0, hz0, hp0⟩
 ·have hf : (l.filter fun z => !p z) = l := List.filter_eq_self.2 fun z hz => by
   have := List.any_eq_false.1 ha z hz;simpa using this
  rw [hf, hl];refine aI (aa (ah (sr (mI ?_))));refine dh (aa (cT (sr (mL (aL (aa (ao (aG ?_))))))));refine cq ?_;exact ⟨rfl, hh⟩
 ·have hf0 : ((l.take (i0 + 1)).filter fun z => !p z) = l.take i0 := by
   rw [aH hz0, List.filter_append, List.filter_cons_of_neg (by rw [hp0]; decide), List.filter_nil, List.append_nil];exact List.filter_eq_self.2 fun z hz => by
    have := List.any_eq_false.1 ht0 z hz;simpa using this
  obtain ⟨g0, rfl⟩ := hh.dq (i := 0) rfl Ky;refine aI (aa (ah (sr (mI ?_))));refine dh (aa (cF (ak (ai (ah (sr (mI ?_)))))));refine bB (aI (aa (aj ?_)));refine cv [5, 6, 7, 16, 17, 18, 19, 20, 21, 22, 23, 24, 25, 26, 27, 28, 29, 30, 31, 32, 33, 34, 35] 5 6
   (fun v5 v6 w' => ∃ (i j : Nat) (X : List TR), i < j ∧ j ≤ n ∧ v5 = .int .i64 i ∧ v6 = .int .i64 j ∧ X.length = n ∧ i = ((l.take j).filter fun z => !p z).length ∧ X.take i = ((l.take j).filter fun z => !p z) ∧ X.drop j = l.drop j ∧ Hp w0 (.row (some ⟨g0, 0, none⟩) n c 55 4 (aY TR.cells X) :: Hr) w')
   (fun _ v _ => n - (intOf v).toNat) ?_ ?_
  ·exact ⟨i0, i0 + 1, l, Ky, Ky, rfl, rfl, hl, by rw [hf0, List.length_take]; omega, hf0.symm, rfl, hh⟩
  ·clear hh;rintro ρ' v5 v6 w' ⟨i, j, X, hij, hj, rfl, rfl, hX, hi, htk, hdr, hh⟩;by_cases hlt : j < n
   ·obtain ⟨z, hz⟩ := ay (l := l) (k := j) Ky;have hXj : X[j]? = some z := by
     have h1 : (X.drop j)[0]? = (l.drop j)[0]? := by rw [hdr]
     rw [List.getElem?_drop, List.getElem?_drop, Nat.add_zero] at h1;rw [h1, hz]
    have hgz := fun w1 => hg z w1 (List.mem_of_getElem? hz);have hdr2 : X.drop (j + 1) = l.drop (j + 1) := by rw [← List.drop_drop, ← List.drop_drop, hdr]
    have hrl := eY TR.len X;refine ah (sr (mI (mL (aW ?_))));refine aK (aa (cT (ak (ai (ah (aj (sr (mL (mI ?_)))))))));refine bf (k := j) aQ.out aF.size rfl rfl Ky Ky Kz ?_;refine bJ (vs := [_, _, _, _]) aF.out rfl (hh.gO (f := TR.cells) (x := z) (l := X) (i := 0) rfl TR.len Kz hXj) rfl Kz ?_;refine cB hh ?_;intro b7 w7 hh;refine bK hh 0 [_,_,_,_] ?_;intro ws hh;replace hh : Hp _ (.blk _ _ [_, _, _, _] _ :: _) _ := hh;refine aa (sr ?_);refine eh (by first | exact eg rfl | exact ev_nilf rfl) Kz ?_;refine cR hh 0 [_,_,_,_] ?_
    cases hpz : p z with
    | true =>
     rw [hpz] at hgz;have hfl : ((l.take (j + 1)).filter fun z => !p z) = ((l.take j).filter fun z => !p z) := by rw [aH hz, List.filter_append, List.filter_cons_of_neg (by rw [hpz]; decide), List.filter_nil, List.append_nil]
     refine eb (hgz _) aw.out rfl rfl Kz ?_;rintro e_ w28 ⟨rfl, hb_⟩;refine ⟨_, rfl, ?_⟩;replace hh := hh.ext hb_;refine g9 ?_;refine aa (cF (ak (aP (ai (aq (mI ?_))))));refine bB (aI (aE (ai ?_)));replace hh := hh.sub (List.Sublist.cons _ (List.Sublist.cons_cons _ (List.Sublist.refl _)));refine ⟨⟨i, j + 1, X, Ky, Ky, rfl, rfl, hX, by rw [hfl]; exact hi, by rw [hfl]; exact htk, hdr2, hh⟩, by show n - (j + 1) < n - j; omega, ?_⟩;exact KB
    | false =>
     rw [hpz] at hgz;have hfl : ((l.take (j + 1)).filter fun z => !p z) = ((l.take j).filter fun z => !p z) ++ [z] := by rw [aH hz, List.filter_append, List.filter_cons_of_pos (by rw [hpz]; decide), List.filter_nil]
     refine eb (hgz _) aw.out rfl rfl Kz ?_;rintro e_ w28 ⟨rfl, hb_⟩;refine ⟨_, rfl, ?_⟩;replace hh := hh.ext hb_;refine g9 ?_;refine aa (cT (sr (mL (mI ?_))));refine cR hh 0 [_,_,_,_] ?_;refine bf (k := i) aQ.out aF.size rfl rfl Ky Ky Kz ?_;refine bs hh (i := 1) (vs := [_, _, _, _]) rfl rfl (cJ rfl) rfl aF.out rfl Ky rfl ?_;intro ws hh;simp only [List.set_cons_zero, List.set_cons_succ] at hh;rw [show cI (aY TR.cells X) (i * 4) [.string z.m, .bool z.c.neg, .string z.c.cA, .int .i64 z.c.e] = aY TR.cells (X.set i z) from fZ TR.len Ky] at hh;refine aa (aq (mI ?_));refine bB (aI (aE (aP (ai (aq (mI ?_))))));refine bB (aI (aE (ai ?_)));replace hh := hh.sub (List.Sublist.cons _ (List.Sublist.cons_cons _ (List.Sublist.refl _)));refine ⟨⟨i + 1, j + 1, X.set i z, Ky, Ky, rfl, rfl, by rw [List.length_set]; exact hX, by rw [hfl, List.length_append, ← hi]; rfl, by rw [hfl, sB Ky, htk], by rw [xn Ky]; exact hdr2, hh⟩, by show n - (j + 1) < n - j; omega, ?_⟩;exact KB
   ·obtain rfl : j = n := Ky;rw [show l.take j = l from List.take_of_length_le Ky] at hi htk;have hcap := hh.iw (i := 0) rfl;have hp31 : (if c = i then some (⟨g0, 0, none⟩ : Addr) else (some (⟨g0, 0, none⟩ : Addr)).map (·.add (i * 4))) = some ⟨g0, i * 4, none⟩ := by
     rw [if_neg Ky];show some ((⟨g0, 0, none⟩ : Addr).add (i * 4)) = _;rw [fy, Nat.zero_add]
    have htt : (aY TR.cells X).take (i * 4) = aY TR.cells (l.filter fun z => !p z) := by rw [l8 TR.len, htk]
    refine ah (sr (mI (mL (aW ?_))));refine aK (aa (cF (aJ (az (az (aX (ai (sr (mL (mI ?_))))))))));refine bp rfl rfl Kz (iI (l := i) (h := j) aQ.out aF.size rfl ⟨_, _, rfl, rfl⟩ rfl Ky Ky) ?_;rw [hp31];replace hh := hh.zh (k := i) Ky;rw [htt] at hh;refine uO hh (i := 0) (o := i * 4) (m := j - i) rfl rfl Ky Ky Ky aQ.out aF.out rfl rfl ?_;intro w38 hh;refine aa (sr (mL (mI ?_)));refine nI (h := i) aQ.out aF.size rfl rfl Ky Ky Kz ?_;refine aL (aa (ao ?_));refine cq ?_;rw [← hi];exact ⟨rfl, hh⟩
end Go.Proofs.YtaapkaefelhfcaaGreatDoor
/- The walk through poly.clean. -/
namespace Go.Proofs.YtaapkaefelhfcaaGreatDoor
open Go.RowKit
structure PX where
 v : Int
 A : Option Addr
 n : Nat
 c : Nat
 ts : List TR
def PX.row (g : PX) : HE := .row g.A g.n g.c 55 4 (aY TR.cells g.ts)
def PX.at_ (g : PX) (w : World) : Prop := Sl w g.A g.n 4 (aY TR.cells g.ts)
theorem PX.at_.ext {g : PX} {w w' : World} (h : g.at_ w) (hb : Below w.heap.size w w') : g.at_ w' := Sl.ext h hb
theorem PX.at_.ln {g : PX} {w : World} (h : g.at_ w) : g.ts.length = g.n := Sl.bM h TR.len Kz
structure eD (E v : Int) (ts : List TR) (g : PX) : Prop where
 v : g.v = if E = 0 then v else 0
 ts : g.ts = if E = 0 then ts else []
def PX.nil : PX := ⟨0, none, 0, 0, []⟩
theorem eD.err {E v : Int} {ts : List TR} (h : E ≠ 0) : eD E v ts PX.nil := ⟨by rw [if_neg h]; rfl, by rw [if_neg h]; rfl⟩
theorem Hp.kj {w0 w : World} {H : List HE} (h : Hp w0 H w) : Hp w0 (PX.nil.row :: H) w := h.ef 55 4
theorem sv {w0 : World} {Hr : List HE} (A : Option Addr) (n c : Nat) (l : List TR) (k : Nat) (w : World) (hT : eP w) (hh : Hp w0 (.row A n c 55 4 (aY TR.cells l) :: Hr) w) (hl : l.length = n) (hn : n ≤ 1000000) (hk : k + n ≤ 3999980) (ho : jq k l) :
  Calls Tryz.prog 196 #[.slice A n c, .func (.func 104) #[] #[], .func (.func 105) #[] #[]] w fun r w' => ∃ (L : List TR) (A' : Option Addr) (c' : Nat), MD (k + n) l L ∧ r = .returned (.slice A' L.length c') ∧ Hp w0 (.row A' L.length c' 55 4 (aY TR.cells L) :: Hr) w' := by
 refine (lL k n A n c l w (Nat.le_refl _) hT (hh.aM (i := 0) rfl) (hh.iw (i := 0) rfl) hn hk ho).mono fun r w' h => ?_
 rcases h with ⟨h1, rfl, hb⟩ | ⟨h1, L, A', c', hm, rfl, h3⟩
 ·exact ⟨l, A, c, (MD.self (tU Ky) ho).mono Ky, by rw [hl], by rw [hl]; exact hh.ext hb⟩
 ·refine ⟨L, A', c', hm, rfl, ?_⟩;exact (hh.join h3).sub (List.Sublist.cons_cons _ (List.Sublist.cons _ (List.Sublist.refl _)))
def IM (t : TR) : Bool := decide (t.c.d = 0)
theorem xZ (l : List TR) : (l.filter fun z => !IM z) = l.filter vl := rfl
theorem tX (z : TR) (w : World) : Calls Tryz.prog 197 #[.agg #[.string z.m, .bool z.c.neg, .string z.c.cA, .int .i64 z.c.e]] w fun r w' => r = .returned (.bool (IM z)) ∧ Below w.heap.size w w' := by
 have hh := Hp.start w;refine al (N := 7) (l := [.agg #[.string z.m, .bool z.c.neg, .string z.c.cA, .int .i64 z.c.e]]) Tryz.func197 rfl rfl (by simp) ?_;refine sr ?_;refine db hh [_,_,_,_] ?_;intro b1 w1 hh;refine aB (aa (sr (bP ?_)));refine cR hh 0 [_,_,_] ?_;refine bE hh (fS z.c _) rfl ?_;intro w5 hh;have hz : z.c.i.sign = 0 ↔ z.c.d = 0 := by
  rw [Int.sign_eq_zero_iff_zero];exact ⟨fun h => by unfold NR.d; rw [h]; rfl, pk⟩
 unfold IM;by_cases h0 : z.c.d = 0
 ·have hs := hz.2 h0;rw [decide_eq_true h0];refine dh (aB (aa (ao ?_)));refine cq ?_;exact ⟨rfl, hh.below⟩
 ·have hs : ¬ z.c.i.sign = 0 := fun h => h0 (hz.1 h);rw [decide_eq_false h0];refine dh (aB (aa (ao ?_)));refine cq ?_;exact ⟨rfl, hh.below⟩
def gP (l : List TR) : Int := if 4096 < (a6 l).length then 3 else 0
theorem vU {xs ys : List Value} {o : Nat} {v : Value} (h : xs[o]? = some v) : cI xs o (v :: ys) = cI xs (o + 1) ys := by
 unfold cI;rw [aH h, List.length_cons, show o + (ys.length + 1) = o + 1 + ys.length by omega];simp
def Jy (t : TR) : TR := ⟨t.m, nR t.c.d⟩
theorem tT {X : List TR} {i : Nat} {z : TR} (h : X[i]? = some z) (y : NR) : cI (aY TR.cells X) (i * 4 + 1) [.bool y.neg, .string y.cA, .int .i64 y.e] = aY TR.cells (X.set i ⟨z.m, y⟩) := by
 have h0 : (aY TR.cells X)[i * 4]? = some (.string z.m) := by
  have h1 := oa TR.len h;have h2 : (((aY TR.cells X).drop (i * 4)).take 4)[0]? = some (.string z.m) := by rw [h1]; rfl
  rwa [List.getElem?_take_of_lt Kz, List.getElem?_drop, Nat.add_zero] at h2
 rw [← vU h0];exact fZ TR.len (y := ⟨z.m, y⟩) (List.getElem?_eq_some_iff.1 h).1
theorem jX {w0 : World} {Hr : List HE} (v : Int) (A : Option Addr) (n c : Nat) (l : List TR) (k : Nat) (w : World) (hT : eP w0) (hh : Hp w0 (.row A n c 55 4 (aY TR.cells l) :: Hr) w) (hl : l.length = n) (hn : n ≤ 1000000) (hk : k + n ≤ 3999980) (ho : jq k l) :
  Calls Tryz.prog 106 #[.int .i64 v, .slice A n c] w fun r w' => ∃ g : PX, eD (gP l) v (a6 l) g ∧ r = .returned (.tuple #[.agg #[.int .i64 g.v, .slice g.A g.n g.c], .int .i64 (gP l)]) ∧ Hp w0 (g.row :: Hr) w' := by
 refine al (N := 33) (l := [.int .i64 v, .slice A n c]) Tryz.func106 rfl rfl (by simp) ?_;refine sr ?_;refine cB hh ?_;intro b4 w4 hh;refine aI (aa (sr (mL ?_)));replace hh := hh.perm (List.perm_middle (l₁ := [_]));simp only [List.cons_append, List.nil_append] at hh;refine aN (sv A n c l k _ (hT.hp hh) hh hl hn hk ho) aw.out rfl Kz ?_;rintro e_ w8 ⟨L, A1, c1, hmd, rfl, hh⟩;refine ⟨_, rfl, ?_⟩;have hlen := hmd.len;refine aN (yX A1 L.length c1 L _ IM _ hh rfl Ky (fun z w1 _ => tX z w1)) aw.out rfl Kz ?_;rintro e_ w9 ⟨rfl, hh⟩;refine ⟨_, rfl, ?_⟩;rw [xZ] at hh ⊢;have hML : (L.filter vl).length ≤ L.length := List.length_filter_le _ _;have hgl : (a6 l).length = (L.filter vl).length := by rw [← hmd.a6, List.length_map]
 have hgm := hmd.a6;have hok : jq (k + n) (L.filter vl) := fun t ht => hmd.ok t (List.mem_filter.1 ht).1;generalize hM : L.filter vl = M at *;by_cases h4 : 4096 < M.length
 ·rw [show gP l = 3 by unfold gP; rw [if_pos Ky]];refine aL (aa (ah (sr (mL (aW ?_)))));refine ct (aa (cT (sr ?_)));refine e9 [_,_] ?_;refine bK hh 1 [_,_] ?_;intro ws hh;replace hh : Hp _ (_ :: .blk _ _ [_, _] _ :: _) _ := hh;refine aI (aa (ao (aG ?_)));replace hh := hh.sub (List.Sublist.cons _ (List.Sublist.cons_cons _ (List.Sublist.refl _)));refine jG (aT rfl (aU (vs := [_, _]) aF.out (hh.aC (i := 0) (n := 2) rfl rfl) rfl) (cw (cM rfl) bq)) ?_;exact ⟨PX.nil, eD.err Kz, rfl, (hh.sub (List.sublist_cons_self _ _)).kj⟩
 ·rw [show gP l = 0 by unfold gP; rw [if_neg Ky]];refine aL (aa (ah (sr (mL (aW ?_)))));refine ct (aa (cF (ak (ai (ah (sr (mL (aW (mI (aa (aj ?_)))))))))));refine bm [6, 16, 17, 18, 19, 20, 21, 22, 23, 24, 25, 26, 27, 28, 29] 16
   (fun v w' => ∃ (i : Nat) (X : List TR), i ≤ M.length ∧ v = .int .i64 i ∧ X.length = M.length ∧ X = (M.take i).map Jy ++ M.drop i ∧ Hp w0 (.row A1 M.length c1 55 4 (aY TR.cells X) :: .blk b4 24 [.int .i64 0, .slice none 0 0] (0, 0) :: Hr) w')
   (fun v _ => M.length - (intOf v).toNat) ?_ ?_
  ·exact ⟨0, M, Nat.zero_le _, rfl, rfl, rfl, hh⟩
  ·clear hh;rintro ρ' v w' ⟨i, X, hi, rfl, hX, hXe, hh⟩;by_cases hlt : i < M.length
   ·obtain ⟨z, hz⟩ := ay (l := M) (k := i) Ky;have hXz : X[i]? = some z := by
     rw [hXe, List.getElem?_append_right (by rw [List.length_map, List.length_take]; omega), List.length_map, List.length_take, Nat.min_eq_left Ky, Nat.sub_self, List.getElem?_drop];exact hz
    have hzo := hok z (List.mem_of_getElem? hz);have hXn : X.set i ⟨z.m, nR z.c.d⟩ = (M.take (i + 1)).map Jy ++ M.drop (i + 1) := by
     rw [aH hz, List.map_append, hXe, List.set_append_right _ _ (by rw [List.length_map, List.length_take]; omega), List.length_map, List.length_take, Nat.min_eq_left Ky, Nat.sub_self, List.append_assoc];congr 1;obtain ⟨h1, h2⟩ := List.getElem?_eq_some_iff.1 hz;rw [List.drop_eq_getElem_cons h1, h2]
     rfl
    have hrl := eY TR.len X;obtain ⟨g0, rfl⟩ := hh.dq (i := 0) rfl Ky;refine sr ?_;refine aK (aa (ah (cT (ak (ai (ah (aj (sr (mI (aI (aa (aq (mL (mI (mL (mI ?_))))))))))))))));refine bf (k := i) aQ.out aF.size rfl rfl Ky Ky Kz ?_;refine bP ?_;refine bJ (vs := [_, _, _]) aF.out rfl ((hh.gO (f := TR.cells) (x := z) (l := X) (i := 0) rfl TR.len Kz hXz).drop 1) rfl Kz ?_;refine bE hh (eB z.c _ (hT.hp hh) (by have := hzo.1.1; omega) (by have := hzo.1.2.1; omega) (by have := hzo.1.2.2; omega)) rfl ?_;intro w26 hh;refine bf (k := i) aQ.out aF.size rfl rfl Ky Ky Kz ?_;refine bP ?_;refine bs hh (i := 0) (vs := [_, _, _]) rfl rfl (cJ rfl) rfl aF.out rfl Ky rfl ?_;intro ws hh;simp only [List.set_cons_zero] at hh;rw [tT hXz, hXn] at hh;refine aE (aP (ai (aq ?_)));refine bB (mI (aE (ai ?_)));refine ⟨⟨i + 1, _, Ky, rfl, ?_, rfl, hh⟩, by show M.length - (i + 1) < M.length - i; omega, ?_⟩
    ·rw [← hXn, List.length_set, hX]
    ·exact KB
   ·obtain rfl : i = M.length := Ky;rw [List.take_of_length_le (Nat.le_refl _), List.drop_of_length_le (Nat.le_refl _), List.append_nil] at hXe;have hXg : X = a6 l := by rw [hXe]; exact hgm
    rw [hXg] at hh;refine sr ?_;refine aK (aa (ah (cF (aJ (az (az (aX (ai (sr (mI (mL ?_)))))))))));refine e9 [_,_] ?_;refine bK hh 1 [_,_] ?_;intro ws hh;replace hh : Hp _ (_ :: .blk _ _ [_, _] _ :: _) _ := hh;refine aI (aa (ao ?_));refine jG (aT rfl (aU (vs := [_, _]) aF.out (hh.aC (i := 1) (n := 2) rfl rfl) rfl) (cw (cM rfl) bq)) ?_;exact ⟨⟨v, A1, M.length, c1, a6 l⟩, ⟨rfl, rfl⟩, rfl, hh.sub (List.Sublist.cons_cons _ (List.Sublist.cons _ (List.Sublist.refl _)))⟩
end Go.Proofs.YtaapkaefelhfcaaGreatDoor
/- The walks through the program's package of products of powers (mono), and through the document's answer's. -/
namespace Go.Proofs.YtaapkaefelhfcaaGreatDoor
open Go.RowKit
theorem ky (s : ByteArray) (n : Int) (w : World) (hs : s.size ≤ 9223372036854775807) :
  Calls Tryz.prog 179 #[.string s, .int .i64 n] w fun e w' => e = .returned (.bool (e8 s.data.toList && decide ((s.size : Int) = n))) ∧ Below w.heap.size w w' := by
 refine al (N := 20) (l := [.string s, .int .i64 n]) Tryz.func179 rfl rfl (by simp) ?_;refine sr (aB (aa (ah (sr (mS ?_)))));refine bW aQ.out rfl Kz ?_;refine mI (aa (aj ?_));refine bm [4, 5, 8, 9, 10, 11, 12, 13, 14, 15] 8
  (fun v w' => ∃ k : Nat, k ≤ s.size ∧ v = .int .i64 k ∧ e8 (s.data.toList.take k) = true ∧ w' = w)
  (fun v _ => s.size - (intOf v).toNat) ?_ ?_
 ·exact ⟨0, Nat.zero_le _, rfl, rfl, rfl⟩
 ·rintro ρ' v w' ⟨k, hk, rfl, hm, rfl⟩;by_cases hlt : k < s.size
  ·obtain ⟨c, hc⟩ := ay (l := s.data.toList) (k := k) (by rw [← eF]; exact hlt);have hb := c.toNat_lt;by_cases h8 : c.toNat < 128
   ·refine sr ?_;refine aK (aa (ah (cT (ak (ai (ah (aj (sr (mI (aI (aa (sr (mS (mI ?_))))))))))))));refine bY aQ.out rfl rfl Ky (by assumption) Kz ?_;refine ct (aa (cF (ak (aP (ai (aq ?_))))));refine bB (mI (aE (ai ?_)));refine ⟨⟨k + 1, Ky, rfl, by rw [aH hc, B8, hm]; simpa using h8, rfl⟩, by show s.size - (k + 1) < s.size - k; omega, ?_⟩;exact KB
   ·refine sr ?_;refine aK (aa (ah (cT (ak (ai (ah (aj (sr (mI (aI (aa (sr (mS (mI ?_))))))))))))));refine bY aQ.out rfl rfl Ky (by assumption) Kz ?_;refine ct (aa (cT (sr (aB (aa (ao (bD (aG (aG (bD (aG ?_)))))))))));refine cq ?_;rw [DV hc h8];exact ⟨rfl, Below.refl _ _⟩
  ·refine sr ?_;refine aK (aa (ah (cF (aJ (az (az (aX (ai (sr (mS ?_))))))))));refine bW aQ.out rfl Kz ?_;refine mI ?_;refine At rfl rfl Kz ?_;refine aB (aa (ao ?_));refine cq ?_;rw [List.take_of_length_le (by rw [← eF]; omega)] at hm;rw [hm];exact ⟨rfl, Below.refl _ _⟩
theorem lG (s : ByteArray) (w : World) (hs : s.size ≤ 9223372036854775807) :
  Calls Tryz.prog 179 #[.string s, .int .i64 s.size] w fun e w' => e = .returned (.bool (e8 s.data.toList)) ∧ Below w.heap.size w w' := by
 have h := ky s s.size w hs;simpa using h
theorem De (A : Option Addr) (n c : Nat) (xs : List Int) (w : World) (hsl : Sl w A n 1 (bG xs)) (hn : n ≤ 100000) :
  Calls Tryz.prog 216 #[.slice A n c] w fun e w' => e = .returned (.tuple #[.string (str (EK xs)), .int .i64 (F0 xs)]) ∧ Below w.heap.size w w' := by
 have hlen : xs.length = n := by have := hsl.1; rw [bT] at this; omega
 have hh := Hp.start w;refine al (N := 27) (l := [.slice A n c]) Tryz.func216 rfl rfl (by simp) ?_;refine sr (aS (aI (aa (sr (aL (aa (ah (sr (mL (aW (mI (aa (aj ?_)))))))))))));refine cv [2, 3, 4, 6, 9, 10, 11, 12, 13, 14, 15, 16, 17, 18, 19, 20, 21, 22, 23, 24] 4 9
  (fun b i w' => ∃ (k c' : Nat) (A' : Option Addr), k ≤ n ∧ i = .int .i64 k ∧ b = .slice A' k c' ∧ (xs.take k).all dk = true ∧ Hp w [.row A' k c' 5 1 (mR ((xs.take k).map xL))] w')
  (fun _ v _ => n - (intOf v).toNat) ?_ ?_
 ·exact ⟨0, 0, none, Nat.zero_le _, rfl, rfl, rfl, hh.ef _ _⟩
 ·clear hh;rintro ρ' b i w' ⟨k, c', A', hk, rfl, rfl, hall, hh⟩;by_cases hlt : k < n
  ·obtain ⟨x, hx⟩ := ay (l := xs) (k := k) Ky;obtain ⟨ad, rfl, hr⟩ := (hsl.ext hh.below).at_ Ky;by_cases h0 : x < 0
   ·refine sr ?_;refine aK (aa (ah (cT (ak (ai (ah (aj (sr ?_))))))));refine jV aQ.out aF.size rfl rfl Ky Ky Kz ?_;refine aZ aF.out rfl (jO hr (cx hx) rfl) Kz ?_;refine aI (aa (ah (sr (mI ?_))));refine aK (mB ?_);refine gS (gS ?_);refine e7 ?_;refine aa (cT (sr (aS (aI (aa (ao (aG (bD (aG (aG (bD (aG ?_))))))))))));refine xK ?_;obtain ⟨e1, e2⟩ := DQ hx (by simp [dk]; omega);rw [e1, e2];exact ⟨rfl, hh.below⟩
   ·by_cases h1 : 127 < x
    ·refine sr ?_;refine aK (aa (ah (cT (ak (ai (ah (aj (sr ?_))))))));refine jV aQ.out aF.size rfl rfl Ky Ky Kz ?_;refine aZ aF.out rfl (jO hr (cx hx) rfl) Kz ?_;refine aI (aa (ah (sr (mI ?_))));refine aK (mB (gT (mI (gT ?_))));refine ct ?_;refine eX ?_;refine aa (cT (sr (aS (aI (aa (ao (aG (bD (aG (aG (bD (aG ?_))))))))))));refine xK ?_;obtain ⟨e1, e2⟩ := DQ hx (by simp [dk]; omega);rw [e1, e2];exact ⟨rfl, hh.below⟩
    ·have hok : dk x = true := by simp [dk]; omega
     refine sr ?_;refine aK (aa (ah (cT (ak (ai (ah (aj (sr ?_))))))));refine jV aQ.out aF.size rfl rfl Ky Ky Kz ?_;refine aZ aF.out rfl (jO hr (cx hx) rfl) Kz ?_;refine aI (aa (ah (sr (mI ?_))));refine aK (mB (gT (mI (gT ?_))));refine ct ?_;refine eX ?_;refine aa (cF (ak (ai (aq (mL (mI ?_))))));refine rL aQ.out aQ.out rfl Kz ?_;refine aO hh (cs := [_]) aQ.out aF.out (aR (cd rfl) bI) rfl rfl Kz Kz Kz rfl Kz ?_;intro b22 w22 hh;refine cz hh (i := 1) rfl rfl rfl (hh.aM (i := 0) rfl) aQ.out aF.out rfl Kz rfl Ky Ky Kz ?_;intro A23 c23 w23 hh;simp only [List.set_cons_zero, List.set_cons_succ] at hh;replace hh := hh.sub (List.sublist_cons_self _ _);refine aL (aE (aP (ai (aq ?_))));refine bB (mI (aE (ai ?_)));refine ⟨⟨k + 1, c23, A23, Ky, rfl, rfl, CH hx hall hok, ?_⟩, by show n - (k + 1) < n - k; omega, ?_⟩
     ·rw [E6 Ky Ky, Ef hx hok] at hh;exact hh
     ·exact KB
  ·obtain rfl : k = n := Ky;rw [List.take_of_length_le Ky] at hall hh;obtain ⟨e1, e2⟩ := qq hall;refine sr ?_;refine aK (aa (ah (cF (aJ (az (az (aX (ai (sr (mL ?_))))))))));refine lR aQ.out aQ.out aQ.out rfl (hh.aM (i := 0) rfl) Kz ?_;refine aS (aI (aa (ao ?_)));refine xK ?_;rw [e1, e2];exact ⟨rfl, hh.below⟩
theorem iD (s : ByteArray) (w : World) (hs : s.size ≤ 100000) :
  Calls Tryz.prog 113 #[.string s] w fun e w' => ∃ A c, e = .returned (.slice A (jd s.data.toList).length c) ∧ w'.ownsRow w.heap.size 3 1 (.slice A (jd s.data.toList).length c) (jd s.data.toList).length (bG (jd s.data.toList)) ∧ Below w.heap.size w w' := by
 have hh := Hp.start w;have hsz := eF s
 cases hm : e8 s.data.toList with
 | false =>
  refine al (N := 22) (l := [.string s]) Tryz.func113 rfl rfl (by simp) ?_;refine sr (aL (aa (ah (sr (mS (mS ?_))))));refine bW aQ.out rfl Kz ?_;refine bE hh (lG s _ Ky) rfl ?_;intro w9 hh;rw [hm];refine g9 ?_;refine aa (cT (sr (aL (aa (ao (aG ?_))))));refine cq ?_;rw [EE hm];exact ⟨none, 0, rfl, World.ownsRow_nil _ _ _ _, hh.below⟩
 | true =>
  refine al (N := 22) (l := [.string s]) Tryz.func113 rfl rfl (by simp) ?_;refine sr (aL (aa (ah (sr (mS (mS ?_))))));refine bW aQ.out rfl Kz ?_;refine bE hh (lG s _ Ky) rfl ?_;intro w9 hh;rw [hm];refine g9 ?_;refine aa (cF (ak (ai (sr (aL (aa (ah (sr (mS ?_)))))))));refine vh hh aQ.out rfl Kz ?_;intro b12 w12 hh;skip;refine aa (aj ?_);refine bm [3, 5, 13, 14, 15, 16, 17, 18, 19, 20] 3
   (fun v w' => ∃ (k c' : Nat) (A' : Option Addr), k ≤ s.size ∧ v = .slice A' k c' ∧ Hp w [.row A' k c' 3 1 (bG (ints (s.data.toList.take k))), .it b12 s k] w')
   (fun v _ => s.size - lenOf v) ?_ ?_
  ·exact ⟨0, 0, none, Nat.zero_le _, rfl, hh.ef _ _⟩
  ·clear hh;rintro ρ' v w' ⟨k, c', A', hk, rfl, hh⟩;by_cases hlt : k < s.size
   ·obtain ⟨c, hc⟩ := ay (l := s.data.toList) (k := k) Ky;have h8 := qg hm hc;refine sr ?_;refine uQ hh (i := 1) rfl rfl hc h8 Kz ?_;intro w13 hh;simp only [List.set_cons_zero, List.set_cons_succ] at hh;skip;refine dI ?_;refine aa (ah (cT (ak (ai (aj (sr ?_))))));refine dI ?_;refine aI (aa (aq (mL (mI ?_))));refine ek aQ.out aQ.out rfl Ky Ky Kz ?_;refine aO hh (cs := [_]) aQ.out aF.out (aR (cd rfl) bI) rfl rfl Kz Kz Kz rfl Kz ?_;intro b19 w19 hh;refine cz hh (i := 1) rfl rfl rfl (hh.aM (i := 0) rfl) aQ.out aF.out rfl Kz rfl Ky Ky Kz ?_;intro A20 c20 w20 hh;simp only [List.set_cons_zero, List.set_cons_succ] at hh;replace hh := hh.sub (List.sublist_cons_self _ _);refine aL (aE (aP (ai ?_)));rw [qB hc] at hh;refine ⟨⟨k + 1, c20, A20, Ky, rfl, hh⟩, by show s.size - (k + 1) < s.size - k; omega, ?_⟩;exact KB
   ·refine sr ?_;refine uD hh (i := 1) rfl rfl hlt Kz ?_;skip;refine dI ?_;refine aa (ah (cF (aJ (az (az (aX (ai (sr (mL (aL (aa (ao ?_))))))))))));refine cq ?_;obtain rfl : k = s.size := Ky;rw [List.take_of_length_le Ky] at hh;have h1 := hh.at_ (i := 0) rfl;rw [kv hm, dm, ← hsz];exact ⟨A', c', rfl, h1, hh.below⟩
theorem rD (a b : ByteArray) (g : FuncId) (f : Int → Int → Int) (w : World) (ha : a.size ≤ 100000) (hb : b.size ≤ 100000) [aw Tryz.prog g]
  (hg : ∀ (x y : Int) (w : World), 0 ≤ x → x ≤ 127 → 0 ≤ y → y ≤ 127 → Calls Tryz.prog g #[.int .i64 x, .int .i64 y] w fun e w' => e = .returned (.int .i64 (f x y)) ∧ Below w.heap.size w w') :
  Calls Tryz.prog 242 #[.string a, .string b, .func (.func g) #[] #[]] w fun e w' =>
   (iX f a.data.toList b.data.toList = none ∧ e = .returned (.tuple #[.slice none 0 0, .bool false]) ∧ Below w.heap.size w w') ∨
   ∃ l, iX f a.data.toList b.data.toList = some l ∧ l.length = b.size ∧ ∃ A c, e = .returned (.tuple #[.slice A l.length c, .bool true]) ∧ w'.ownsRow w.heap.size 3 1 (.slice A l.length c) l.length (bG l) ∧ Below w.heap.size w w' := by
 have hh := Hp.start w;have hsa := eF a;have hsb := eF b
 cases hma : e8 a.data.toList with
 | false =>
  refine al (N := 45) (l := [.string a, .string b, .func (.func g) #[] #[]]) Tryz.func242 rfl rfl (by simp) ?_;refine sr (aL (aB (aa (sr (mS ?_)))));refine aN (iD b _ hb) aw.out rfl Kz ?_;rintro e_ w12 ⟨A12, c12, rfl, hown_, hb_⟩;refine ⟨_, rfl, ?_⟩;replace hh := hh.bz (x := .row _ _ _ _ _ _) hb_ hown_;refine aL (aa (ah (sr (mS (mS ?_)))));refine bW aQ.out rfl Kz ?_;refine bE hh (lG a _ Ky) rfl ?_;intro w16 hh;rw [hma];refine g9 ?_;refine mB ?_;refine gS (gS (gS ?_));refine cn Kz rfl rfl Kz ?_;refine gS ?_;refine e7 ?_;refine aa (cT (sr (aL (aB (aa (ao (aG ?_)))))));refine xK ?_;exact .inl ⟨by simp [iX, hma], rfl, hh.below⟩
 | true =>
  cases hmb : (e8 b.data.toList && decide ((b.size : Int) = a.size)) with
  | false =>
   refine al (N := 45) (l := [.string a, .string b, .func (.func g) #[] #[]]) Tryz.func242 rfl rfl (by simp) ?_;refine sr (aL (aB (aa (sr (mS ?_)))));refine aN (iD b _ hb) aw.out rfl Kz ?_;rintro e_ w12 ⟨A12, c12, rfl, hown_, hb_⟩;refine ⟨_, rfl, ?_⟩;replace hh := hh.bz (x := .row _ _ _ _ _ _) hb_ hown_;refine aL (aa (ah (sr (mS (mS ?_)))));refine bW aQ.out rfl Kz ?_;refine bE hh (lG a _ Ky) rfl ?_;intro w16 hh;rw [hma];refine g9 ?_;refine mB (gT (mS (gT (mS (gT ?_)))));refine bW aQ.out rfl Kz ?_;refine aV rfl rfl ?_;refine bE hh (ky b _ _ Ky) rfl ?_;intro w22 hh;rw [hmb];refine gT ?_;refine g9 ?_;refine eX ?_;refine aa (cT (sr (aL (aB (aa (ao (aG ?_)))))));refine xK ?_;have : (e8 b.data.toList && decide ((b.data.toList.length : Int) = a.data.toList.length)) = false := by rw [← hsa, ← hsb]; exact hmb
   exact .inl ⟨by simp only [iX, hma, this]; rfl, rfl, hh.below⟩
  | true =>
   have hmb2 := hmb;simp only [Bool.and_eq_true, decide_eq_true_eq] at hmb2;have hbl : iX f a.data.toList b.data.toList = some (List.zipWith f (ints a.data.toList) (ints b.data.toList)) := by
    have : (e8 b.data.toList && decide ((b.data.toList.length : Int) = a.data.toList.length)) = true := by rw [← hsa, ← hsb]; exact hmb
    simp only [iX, hma, this]; rfl
   have hea := kv hma;have heb := kv hmb2.1;have hlab : (ints a.data.toList).length = (ints b.data.toList).length := by rw [dm, dm]; omega
   have hlb := dm b.data.toList;have hla := dm a.data.toList;have hA := iD a;have hB := iD b;rw [hea] at hA;rw [heb] at hB;generalize hia : ints a.data.toList = ia at *;generalize hib : ints b.data.toList = ib at *;have bda : ∀ (k : Nat) (x : Int), ia[k]? = some x → 0 ≤ x ∧ x ≤ 127 := fun k x h => Ap (l := a.data.toList) (by rw [hea]; exact h);have bdb : ∀ (k : Nat) (x : Int), ib[k]? = some x → 0 ≤ x ∧ x ≤ 127 := fun k x h => Ap (l := b.data.toList) (by rw [heb]; exact h);clear hea heb;refine al (N := 45) (l := [.string a, .string b, .func (.func g) #[] #[]]) Tryz.func242 rfl rfl (by simp) ?_;refine sr (aL (aB (aa (sr (mS ?_)))));refine aN (hB _ hb) aw.out rfl Kz ?_;rintro e_ w12 ⟨A12, c12, rfl, hown_, hb_⟩;refine ⟨_, rfl, ?_⟩;replace hh := hh.bz (x := .row _ _ _ _ _ _) hb_ hown_;refine aL (aa (ah (sr (mS (mS ?_)))));refine bW aQ.out rfl Kz ?_;refine bE hh (lG a _ Ky) rfl ?_;intro w16 hh;rw [hma];refine g9 ?_;refine mB (gT (mS (gT (mS (gT ?_)))));refine bW aQ.out rfl Kz ?_;refine aV rfl rfl ?_;refine bE hh (ky b _ _ Ky) rfl ?_;intro w22 hh;rw [hmb];refine gT ?_;refine g9 ?_;refine eX ?_;refine aa (cF (ak (ai (ah (sr (mS ?_))))));refine aN (hA _ ha) aw.out rfl Kz ?_
   rintro e_ w26 ⟨A26, c26, rfl, hown_, hb_⟩;refine ⟨_, rfl, ?_⟩;replace hh := hh.bz (x := .row _ _ _ _ _ _) hb_ hown_;refine aW (mI (aa (aj ?_)));refine bm [9, 10, 28, 29, 30, 31, 32, 33, 34, 35, 36, 37, 38, 39, 40, 41, 42, 43] 28
    (fun i w' => ∃ k : Nat, k ≤ ib.length ∧ i = .int .i64 k ∧ Hp w [.row A26 ia.length c26 3 1 (bG ia), .row A12 ib.length c12 3 1 (bG (lQ f ia ib k))] w')
    (fun i _ => ib.length - (intOf i).toNat) ?_ ?_
   ·exact ⟨0, Nat.zero_le _, rfl, by rw [CU]; exact hh⟩
   ·clear hh hown_ hb_;rintro ρ' i w' ⟨k, hk, rfl, hh⟩;by_cases hlt : k < ib.length
    ·obtain ⟨x, hx⟩ := ay (l := ia) (k := k) Ky;obtain ⟨y, hy⟩ := ay hlt;have bx := bda k x hx;have byy := bdb k y hy;have hx2 := cx hx;have hy2 := cx (HJ (f := f) hlab hy);have hml := E4 (f := f) hlab hk;have hml2 := bT (lQ f ia ib k);obtain ⟨ga, rfl⟩ := hh.dq (i := 0) rfl Ky;obtain ⟨gb, rfl⟩ := hh.dq (i := 1) rfl Ky;refine sr ?_;refine aK (aa (ah (cT (ak (ai (ah (aj (sr (mI ?_)))))))));refine bf aQ.out aF.size rfl rfl rfl Ky Kz ?_;refine aZ aF.out rfl (hh.cN (i := 0) rfl (by first | assumption | (simp only [Nat.mul_one]; assumption))) Kz ?_;refine aI (aI (aa (aq (mL (mI ?_)))));refine eh (by first | exact eg rfl | exact ev_nilf rfl) Kz ?_;refine mI (mL (mI ?_));refine bf aQ.out aF.size rfl rfl rfl Ky Kz ?_;refine aZ aF.out rfl (hh.cN (i := 1) rfl (by first | assumption | (simp only [Nat.mul_one]; assumption))) Kz ?_;refine eb (hg x y _ bx.1 bx.2 byy.1 byy.2) aw.out rfl rfl Kz ?_;rintro e_ w41 ⟨rfl, hb_⟩;refine ⟨_, rfl, ?_⟩;replace hh := hh.ext hb_;refine bf aQ.out aF.size rfl rfl rfl Ky Kz ?_;refine bs hh (i := 1) (vs := [_]) rfl rfl (cd rfl) rfl aF.out rfl Ky rfl ?_;intro ws hh;simp only [List.set_cons_zero, List.set_cons_succ] at hh;refine aE (aP (ai (aq ?_)))
     refine bB (mI (aE (ai ?_)));rw [Nat.mul_one, FO hlab hx hy] at hh;refine ⟨⟨k + 1, Ky, rfl, hh⟩, by show _ - (k + 1) < _ - k; omega, ?_⟩;exact KB
    ·refine sr ?_;refine aK (aa (ah (cF (aJ (az (az (aX (ai (sr (mL (aL (aB (aa (ao ?_))))))))))))));refine xK ?_;obtain rfl : k = ib.length := Ky;rw [Da hlab] at hh;have h1 := hh.at_ (i := 1) rfl;have hzl : (List.zipWith f ia ib).length = ib.length := by simp [hlab]
     refine .inr ⟨_, hbl, Ky, A12, c12, ?_⟩;rw [hzl];exact ⟨rfl, h1, hh.below⟩
theorem B3 (a b : ByteArray) (g : FuncId) (f : Int → Int → Int) (w : World) (ha : a.size ≤ 100000) (hb : b.size ≤ 100000) [aw Tryz.prog g]
  (hg : ∀ (x y : Int) (w : World), 0 ≤ x → x ≤ 127 → 0 ≤ y → y ≤ 127 → Calls Tryz.prog g #[.int .i64 x, .int .i64 y] w fun e w' => e = .returned (.int .i64 (f x y)) ∧ Below w.heap.size w w')
  (h : iX f a.data.toList b.data.toList = none) :
  Calls Tryz.prog 242 #[.string a, .string b, .func (.func g) #[] #[]] w fun e w' => e = .returned (.tuple #[.slice none 0 0, .bool false]) ∧ Below w.heap.size w w' :=
 (rD a b g f w ha hb hg).mono fun e w' hq => by
  rcases hq with hq | ⟨l, hl, _⟩
  ·exact hq.2
  ·rw [h] at hl; cases hl
theorem Bk (a b : ByteArray) (g : FuncId) (f : Int → Int → Int) (w : World) (ha : a.size ≤ 100000) (hb : b.size ≤ 100000) [aw Tryz.prog g]
  (hg : ∀ (x y : Int) (w : World), 0 ≤ x → x ≤ 127 → 0 ≤ y → y ≤ 127 → Calls Tryz.prog g #[.int .i64 x, .int .i64 y] w fun e w' => e = .returned (.int .i64 (f x y)) ∧ Below w.heap.size w w')
  {l : List Int} (h : iX f a.data.toList b.data.toList = some l) :
  Calls Tryz.prog 242 #[.string a, .string b, .func (.func g) #[] #[]] w fun e w' => ∃ A c, e = .returned (.tuple #[.slice A l.length c, .bool true]) ∧ w'.ownsRow w.heap.size 3 1 (.slice A l.length c) l.length (bG l) ∧ Below w.heap.size w w' :=
 (rD a b g f w ha hb hg).mono fun e w' hq => by
  rcases hq with ⟨hn, _⟩ | ⟨l', hl, _, hq⟩
  ·rw [h] at hn; cases hn
  ·rw [h] at hl; injection hl with hl; subst hl; exact hq
theorem BT {f : Int → Int → Int} {a b : List UInt8} {l : List Int} (h : iX f a b = some l) : l.length ≤ b.length := by
 unfold iX at h;split at h
 ·injection h with h; subst h; simp [ints]; omega
 ·cases h
theorem qR (x y : Int) (w : World) (h1 : 0 ≤ x) (h2 : x ≤ 127) (h3 : 0 ≤ y) (h4 : y ≤ 127) :
  Calls Tryz.prog 243 #[.int .i64 x, .int .i64 y] w fun e w' => e = .returned (.int .i64 (x + y)) ∧ Below w.heap.size w w' := by
 refine al (N := 8) (l := [.int .i64 x, .int .i64 y]) Tryz.func243 rfl rfl (by simp) ?_;refine sr (aI (aa (sr (mI (mI ?_)))));refine bB (aI (aa (ao ?_)));refine cq ?_;exact ⟨rfl, Below.refl _ _⟩
theorem Cj (a b : ByteArray) (w : World) (ha : a.size ≤ 100000) (hb : b.size ≤ 100000) :
  Calls Tryz.prog 198 #[.string a, .string b] w fun e w' => e = .returned (.tuple #[.string (str (mulL a.data.toList b.data.toList).1), .int .i64 (mulL a.data.toList b.data.toList).2]) ∧ Below w.heap.size w w' := by
 have hh := Hp.start w;have hsb := eF b
 cases hbo : iX (· + ·) a.data.toList b.data.toList with
 | none =>
  refine al (N := 20) (l := [.string a, .string b]) Tryz.func198 rfl rfl (by simp) ?_;refine sr (aS (aI (aa (sr (mS (mS ?_))))));refine bE hh (B3 a b _ _ _ ha hb qR hbo) rfl ?_;intro w11 hh;refine mT ?_;refine dI ?_;refine dI ?_;refine aL (aB (aa (ah (sr (mB ?_)))));refine g9 ?_;refine aa (cT (sr (aS (aI (aa (ao (aG ?_)))))));refine xK ?_;simp only [mulL, hbo];exact ⟨rfl, hh.below⟩
 | some l =>
  have hl := BT hbo;refine al (N := 20) (l := [.string a, .string b]) Tryz.func198 rfl rfl (by simp) ?_;refine sr (aS (aI (aa (sr (mS (mS ?_))))));refine aN (Bk a b _ _ _ ha hb qR hbo) aw.out rfl Kz ?_;rintro e_ w11 ⟨A11, c11, rfl, hown_, hb_⟩;refine ⟨_, rfl, ?_⟩;replace hh := hh.bz (x := .row _ _ _ _ _ _) hb_ hown_;refine mT ?_;refine dI ?_;refine dI ?_;refine aL (aB (aa (ah (sr (mB ?_)))));refine g9 ?_;refine aa (cF (ak (ai (sr (mL ?_)))));refine bE hh (De _ _ _ _ _ (hh.aM (i := 0) rfl) Ky) rfl ?_;intro w17 hh;refine dI ?_;refine dI ?_;refine aS (aI (aa (ao ?_)));refine xK ?_;simp only [mulL, hbo];exact ⟨trivial, hh.below⟩
end Go.Proofs.YtaapkaefelhfcaaGreatDoor
