/- Lemmas for bernSums, part 4. -/
import Derived.LaidMore
import Derived.Lay
import Derived.Deep.Slices
import Derived.Stop.Joined
import Derived.Deep.Strs
import Derived.Laws.OwnMore
import Derived.Lib.SliceRun
import Derived.Test.YteeckcbbnegmcaaGreatDoorZ3
namespace Go.Proofs.YteeckcbbnegmcaaGreatDoor
open Go.RowKit
theorem Sl.QJ {w : World} {A : Option Addr} {n : Nat} {xs : List Nat} (h : Sl w A n 1 (gl xs)) {k : Nat} (hk : k ≤ n) : Sl w A k 1 (gl (xs.take k)) := by
 have hl := h.1;rw [cN] at hl;refine ⟨by rw [cN, List.length_take]; omega, fun h0 => ?_⟩;obtain ⟨ad, he, hr⟩ := h.2 Tx;exact ⟨ad, he, by rw [Bt]; exact hr.take k⟩
theorem Sl.QE {w : World} {A : Option Addr} {n : Nat} {xs : List Nat} (h : Sl w A n 1 (gl xs)) : Sl w A (dD xs).length 1 (gl (dD xs)) := by
 have hl := h.1;rw [cN] at hl;have := e7 xs;have h2 := h.QJ (k := (dD xs).length) Tx;rwa [← jz] at h2
theorem Hp.PK {w0 w : World} {H : List HE} {A : Option Addr} {n c : Nat} {t : TypeId} {xs : List Nat} (h : Hp w0 (.row A n c t 1 (gl xs) :: H) w) (hl : xs.length = n) : Hp w0 (.row A (dD xs).length c t 1 (gl (dD xs)) :: H) w := by
 have h1 := e7 xs;have h2 := h.CS (k := (dD xs).length) Tx;rw [Nat.mul_one, ← Bt, ← jz] at h2;exact h2
theorem lJ (A : Option Addr) (n c : Nat) (xs : List Nat) (w : World) (hx : Sl w A n 1 (gl xs)) (hc : n ≤ c) (hn : n ≤ 1000000000000) :
  Calls Tryz.prog 243 #[.slice A n c] w fun e w' => e = .returned (.slice A (dD xs).length c) ∧ Below w.heap.size w w' := by
 have hlen : xs.length = n := by have := hx.1; rw [cN] at this; omega
 have hh := Hp.start w;refine aj (N := 21) (l := [.slice A n c]) Tryz.func243 rfl rfl (by simp) ?_;refine sr (aL (aa (sr (mL (aJ (aI (aa (ah (aq ?_)))))))));refine aP [3, 6, 7, 8, 9, 10, 11, 12, 13, 14, 15, 16, 17] 3
  (fun v w' => ∃ k : Nat, k ≤ n ∧ v = .int .i64 k ∧ dD (xs.take k) = dD xs ∧ w' = w)
  (fun v _ => (intOf v).toNat) ?_ ?_
 ·exact ⟨n, Nat.le_refl _, rfl, by rw [List.take_of_length_le Tx], rfl⟩
 ·rintro ρ' v w' ⟨k, hk, rfl, hcut, rfl⟩;by_cases h0 : k = 0
  ·subst h0;refine ah (sr (mI ?_));refine bM (mB ?_);refine gS (gS (gS (gS ?_)));refine iJ ?_;refine gS ?_;refine dK ?_;refine aa (cF (aZ (aD (aD (bq (ai (sr (mL (mI ?_)))))))));refine pO (h := 0) bg.out aN.size rfl rfl Tx Tx Ty ?_;refine aL (aa (av ?_));refine cX ?_;rw [← hcut];exact ⟨rfl, hh.below⟩
  ·obtain ⟨j, rfl⟩ : ∃ j, k = j + 1 := ⟨k - 1, Tx⟩;obtain ⟨d, hd⟩ := ao (l := xs) (k := j) Tx;obtain ⟨ad, rfl, hr⟩ := hx.at_ Tx;have hd2 := qp hd;rw [ay hd] at hcut;by_cases hz : d = 0
   ·subst hz;rw [te] at hcut;refine ah (sr (mI ?_));refine bM (mB (gT (mL (gT (mI (gT ?_))))));refine dT (gT ?_);refine kg ?_;refine gT ?_;refine gu ?_;refine gT ?_;refine cW ?_;refine fu ?_;refine aa (cT (ar (ai (aq (al (mI ?_))))));refine dT (aI (aA (bA (ai ?_))));refine ⟨⟨j, Tx, by show Value.int _ _ = Value.int _ _; congr 1; omega, hcut, rfl⟩, by show (((j + 1 : Nat) : Int) - 1).toNat < (((j + 1 : Nat) : Int)).toNat; omega, ?_⟩;exact dL
   ·rw [wB hz] at hcut;refine ah (sr (mI ?_));refine bM (mB (gT (mL (gT (mI (gT ?_))))));refine dT (gT ?_);refine kg ?_;refine gT ?_;refine gu ?_;refine gT ?_;refine cW ?_;refine fu ?_;refine aa (cF (aZ (aD (aD (bq (ai (sr (mL (mI ?_)))))))));refine pO (h := j + 1) bg.out aN.size rfl rfl Tx Tx Ty ?_;refine aL (aa (av ?_));exact Q3
theorem Fz {s : List UInt8} {j k : Nat} {c : UInt8} (hc : (Bj s)[j]? = some c.toNat) (hk : k < 8) : c.toNat / 2 ^ k % 2 = bn s / 2 ^ (8 * j + k) % 2 := by
 have h1 := sE (xg s) hc;rw [← h1, ← bn, Nat.pow_add, Nat.pow_mul, show (2 ^ 8 : Nat) = 256 from rfl, ← Nat.div_div_eq_div_mul];generalize bn s / 256 ^ j = m;have e : (256 : Nat) = 2 ^ k * 2 ^ (8 - k) := by rw [← Nat.pow_add, show k + (8 - k) = 8 by omega]
 have e2 : 2 ^ (8 - k) = 2 * 2 ^ (7 - k) := by rw [← Nat.pow_succ']; congr 1; omega
 rw [e, Nat.mod_mul_right_div_self, e2, Nat.mod_mul_right_mod]
theorem eM (a : ByteArray) (w : World) (ha : a.size ≤ 1000000000) :
  Calls Tryz.prog 218 #[.string a] w fun e w' => ∃ A c, e = .returned (.slice A (aU 2 (bN a)).length c) ∧ w'.ownsRow w.heap.size 5 1 (.slice A (aU 2 (bN a)).length c) (aU 2 (bN a)).length (gl (aU 2 (bN a))) ∧ Below w.heap.size w w' := by
 have hsz := dA a;have hh := Hp.start w;refine aj (N := 28) (l := [.string a]) Tryz.func218 rfl rfl (by simp) ?_;refine sr (aL (aa (sr (aL (aa (ah (sr (mS ?_))))))));refine bG bg.out rfl Ty ?_;refine dT (aI (aa (aq ?_)));replace hh := hh.db 5 1;refine bJ [3, 4, 5, 9, 10, 11, 12, 13, 14, 15, 16, 17, 18, 19, 20, 21, 22, 23, 24, 25] 3 4
  (fun o v w' => ∃ (j : Nat) (A : Option Addr) (c : Nat), j ≤ a.size ∧ v = .int .i64 ((a.size : Int) - 1 - j) ∧ o = .slice A (8 * j) c ∧ Hp w [.row A (8 * j) c 5 1 (gl (bK 2 (8 * j) (bN a)))] w')
  (fun _ v _ => (intOf v + 1).toNat) ?_ ?_
 ·exact ⟨0, none, 0, Nat.zero_le _, by show Value.int _ _ = Value.int _ _; congr 1; omega, rfl, hh⟩
 ·clear hh;rintro ρ' o v w' ⟨j, A, c, hj, rfl, rfl, hh⟩;by_cases hlt : j < a.size
  ·obtain ⟨ch, hc⟩ := ao (l := a.data.toList) (k := ((a.size : Int) - 1 - j).toNat) Tx;have hlo := Hv (s := a.data.toList) (i := j) (c := ch) Tx (by rw [← hc]; congr 1; omega);have hc8 := ch.toNat_lt;refine ah (sr (mI ?_));refine dR (aa (cT (ar (ai (ah (aq (sr (aI (aa (aq ?_))))))))));refine bJ [3, 5, 13, 14, 15, 16, 17, 18, 19, 20, 21, 22, 23, 24, 25] 3 5
    (fun o v w' => ∃ (k : Nat) (A : Option Addr) (c : Nat), k ≤ 8 ∧ v = .int .i64 (k : Int) ∧ o = .slice A (8 * j + k) c ∧ Hp w [.row A (8 * j + k) c 5 1 (gl (bK 2 (8 * j + k) (bN a)))] w')
    (fun _ v _ => 8 - (intOf v).toNat) ?_ ?_
   ·exact ⟨0, A, c, Nat.zero_le _, rfl, rfl, hh⟩
   ·clear hh;rintro ρ2 o v w2 ⟨k, A2, c2, hk, rfl, rfl, hh⟩;by_cases hk8 : k < 8
    ·have hst := Fz hlo hk8;have hand : ∀ z : Nat, z &&& 1 = z % 2 := fun z => Nat.and_one_is_mod z;have hcl : ch.toNat / 2 ^ (k : Int).toNat < 256 := Nat.lt_of_le_of_lt (Nat.div_le_self _ _) hc8;refine ah (sr (mI ?_));refine bf (aa (cT (ar (ai (ah (aq (al (mL (mS (mI ?_))))))))));refine jG ?_;refine mI ?_;refine CM rfl rfl Tx Ty ?_;refine J3 ?_;refine vP ?_;intro b24 w24 hh;refine o7 ?_;intro A25 c25 w25 hh;simp only [List.set_cons_zero, List.set_cons_succ] at hh;replace hh := hh.sub (List.sublist_cons_self _ _);refine wR ?_;refine bh (aI (aA (ai ?_)));have e1 : gl (bK 2 (8 * j + k) (bN a)) ++ [Value.int .u8 ((ch.toNat / 2 ^ (k : Int).toNat &&& 1 : Nat) : Int)] = gl (bK 2 (8 * j + (k + 1)) (bN a)) := by
      rw [hand, Int.toNat_natCast, hst, ← Nat.add_assoc, kL, th]; rfl
     rw [e1] at hh;refine ⟨⟨k + 1, A25, c25, Tx, rfl, rfl, hh⟩, by show 8 - (k + 1) < 8 - k; omega, ?_⟩;exact dL
    ·obtain rfl : k = 8 := Tx;refine ah (sr (mI ?_));refine bf (aa (cF (aZ (aD (aD (bq (bA (ai (al (mI ?_))))))))));refine dT (aI (aA (ai ?_)));refine ⟨⟨j + 1, A2, c2, Tx, by show Value.int _ _ = Value.int _ _; congr 1; omega, rfl, hh⟩, by show ((a.size : Int) - 1 - j - 1 + 1).toNat < ((a.size : Int) - 1 - j + 1).toNat; omega, ?_⟩;exact dL
  ·obtain rfl : j = a.size := Tx;refine ah (sr (mI ?_));refine dR (aa (cF (aZ (aD (aD (bq (ai (sr (mL ?_)))))))));refine bz hh (lJ _ _ _ (bK 2 (8 * a.size) (bN a)) _ (hh.aC (i := 0) rfl) (hh.fF (i := 0) rfl) Tx) rfl ?_;intro w27 hh;refine aL (aa (av ?_));refine cX ?_;have hb := vG a;rw [show (256 : Nat) = 2 ^ 8 from rfl, ← Nat.pow_mul] at hb;have hd : dD (bK 2 (8 * a.size) (bN a)) = aU 2 (bN a) := by
    rw [ie Tx (fV Tx _ _), dh hb]
   have h1 := (Hp.PK (xs := bK 2 (8 * a.size) (bN a)) hh (aO _ _)).at_ (i := 0) rfl;exact LD
theorem Lw {l : List Nat} {j v : Nat} (h : j < l.length) : l.reverse.set (l.length - 1 - j) v = (l.set j v).reverse := by
 apply List.ext_getElem?;intro i
 rcases Nat.lt_or_ge i l.length with hi | hi
 ·rw [List.getElem?_reverse (by rw [List.length_set]; exact hi), List.length_set, List.getElem?_set, List.getElem?_set, List.getElem?_reverse hi, List.length_reverse];by_cases he : l.length - 1 - j = i
  ·rw [if_pos he, if_pos Tx, if_pos Tx, if_pos h]
  ·rw [if_neg he, if_neg Tx]
 ·rw [List.getElem?_eq_none (by simp; omega), List.getElem?_eq_none (by simp; omega)]
theorem Df {i b k : Nat} (P : Nat) (hP : P < 2 ^ i) (hb : b < 2) (hk : i / 8 < k) : P / 256 ^ (i / 8) % 256 + b * 2 ^ (i % 8) < 256 ∧ (bK 256 k P).set (i / 8) (P / 256 ^ (i / 8) % 256 + b * 2 ^ (i % 8)) = bK 256 k (P + 2 ^ i * b) := by
 have hp : 2 ^ i = 256 ^ (i / 8) * 2 ^ (i % 8) := by
  rw [show (256 : Nat) = 2 ^ 8 from rfl, ← Nat.pow_mul, ← Nat.pow_add]; congr 1; omega
 have h1 : P / 256 ^ (i / 8) < 2 ^ (i % 8) := by
  rw [Nat.div_lt_iff_lt_mul (Nat.pow_pos Tx), Nat.mul_comm, ← hp]; exact hP
 have h2 : 2 ^ (i % 8) ≤ 128 := by
  have := Nat.pow_le_pow_right (show 0 < 2 by omega) (show i % 8 ≤ 7 by omega);omega
 have h3 : P / 256 ^ (i / 8) % 256 < 2 ^ (i % 8) := Nat.lt_of_le_of_lt (Nat.mod_le _ _) h1;have h4 : b * 2 ^ (i % 8) ≤ 1 * 2 ^ (i % 8) := Nat.mul_le_mul_right _ Tx;have h5 : 2 ^ i * b = 256 ^ (i / 8) * (b * 2 ^ (i % 8)) := by rw [hp, Nat.mul_assoc, Nat.mul_comm b]
 refine ⟨Tx, ?_⟩;rw [h5];refine oP Tx hk ?_ Tx;rw [← h5];have h6 : 2 ^ i * b ≤ 2 ^ i * 1 := Nat.mul_le_mul_left _ Tx;have h7 : 2 ^ (i + 1) ≤ 256 ^ k := by
  rw [show (256 : Nat) = 2 ^ 8 from rfl, ← Nat.pow_mul];exact Nat.pow_le_pow_right Tx Tx
 rw [Nat.pow_succ] at h7;omega
theorem gY (A : Option Addr) (n c : Nat) (xs : List Nat) (w : World) (hx : Sl w A n 1 (gl xs)) (hd : Dg 2 xs) (hc : n ≤ c) (hn : n ≤ 100000000000) :
  Calls Tryz.prog 237 #[.slice A n c] w fun e w' => e = .returned (.string (sN (bu 2 xs))) ∧ Below w.heap.size w w' := by
 have hl := hx.1;rw [cN] at hl;have hcl := e7 xs;have hcx := hx.QE;have hcan := ie Tx hd;have hlen := Cx (bu 2 xs);rw [hcan] at hcl hcx;have hcd := (dI (B := 2) Tx (bu 2 xs)).1;have hcv := dF (B := 2) Tx (bu 2 xs);have hbl : (aU 2 (bu 2 xs)).length = bC (bu 2 xs) := rfl;have hh := Hp.start w;refine aj (N := 38) (l := [.slice A n c]) Tryz.func237 rfl rfl (by simp) ?_;refine sr (aS (aa (sr (mL ?_))));refine bz hh (lJ _ _ _ xs _ hx hc Tx) rfl ?_;intro w6 hh;rw [hcan];generalize bu 2 xs = M at *;generalize aU 2 M = xs' at *;refine aL (aa (sr (mL (aJ ?_))));refine bh ?_;refine nP ?_;refine fU (n := (xs'.length + 7) / 8) hh rfl rfl Tx Tx bg.out aN.out rfl Tx Tx Ty ?_;intro b11 w11 hh;refine aL (aa (ah (sr (aI (aa (aq ?_))))));rw [pg] at hh;refine aP [4, 12, 13, 14, 15, 16, 17, 18, 19, 20, 21, 22, 23, 24, 25, 26, 27, 28, 29, 30, 31, 32, 33, 34, 35] 4
  (fun v w' => ∃ i : Nat, i ≤ xs'.length ∧ v = .int .i64 i ∧ Hp w [.row (some ⟨b11, 0, none⟩) ((xs'.length + 7) / 8) ((xs'.length + 7) / 8) 5 1 (gl (bK 256 ((xs'.length + 7) / 8) (bu 2 (xs'.take i))).reverse)] w')
  (fun v _ => xs'.length - (intOf v).toNat) ?_ ?_
 ·exact ⟨0, Nat.zero_le _, rfl, by rw [List.take_zero, bu, qu, List.reverse_replicate]; exact hh⟩
 ·clear hh;rintro ρ' v w' ⟨i, hi, rfl, hh⟩;by_cases hlt : i < xs'.length
  ·obtain ⟨d, hdi⟩ := ao (l := xs') (k := i) Tx;obtain ⟨ad, rfl, hr⟩ := hcx.at_ Tx;have hd2 := qp hdi;have hdw := hcd.at_ hdi;have hP := iB (hcd.take i);rw [List.length_take, Nat.min_eq_left Tx] at hP;obtain ⟨s1, s2⟩ := Df (k := (xs'.length + 7) / 8) (bu 2 (xs'.take i)) hP hdw Tx;have hg : (bK 256 ((xs'.length + 7) / 8) (bu 2 (xs'.take i))).reverse[(xs'.length + 7) / 8 - 1 - i / 8]? = some (bu 2 (xs'.take i) / 256 ^ (i / 8) % 256) := by
    rw [List.getElem?_reverse (by rw [aO]; omega), aO, show (xs'.length + 7) / 8 - 1 - ((xs'.length + 7) / 8 - 1 - i / 8) = i / 8 by omega];exact iz _ _ _ Tx
   have hg2 := qp hg;have e1 : ((i : Int) % 8).toNat = i % 8 := Tx;have hset := Lw (l := bK 256 ((xs'.length + 7) / 8) (bu 2 (xs'.take i))) (j := i / 8) (v := bu 2 (xs'.take i) / 256 ^ (i / 8) % 256 + d * 2 ^ (i % 8)) (by rw [aO]; omega);rw [aO, s2] at hset;refine ah (sr (mI (mL (aJ ?_))));refine bf (aa (cT (ar (ai (ah (aq ?_))))));refine aY 16 [[(3, none)], [(3, none)], [(19, some 1)], [(20, some 2)], [(4, none)], [(22, some 4)], [(21, some 3), (23, some 5)], [(18, some 0), (24, some 6)], [(25, some 7)], [(0, none)], [(4, none)], [(27, some 9), (28, some 10)], [(29, some 11)], [(4, none)], [(31, some 13)], [(30, some 12), (32, some 14)]] [(15, 33), (14, 32), (13, 31), (12, 30), (11, 29), (10, 28), (9, 27), (8, 26), (7, 25), (6, 24), (5, 23), (4, 22), (3, 21), (2, 20), (1, 19), (0, 18)] hh mixed Tz ?_;refine gk ?_;refine gk ?_;refine CP ?_;refine uX ?_;refine dE ?_;refine bp (i := 5) (fun ρ1 w1 hj hR => qE (show ρ1 22 = Value.int _ _ from hR.1) rfl Tx Tx Tx) ?_;refine uX ?_;refine BQ ((xs'.length + 7) / 8 - 1 - i / 8) ?_;refine bp (i := 8) (fun ρ1 w1 hj hR => jv aN.out (show ρ1 25 = Value.pointer _ from hR.1) (hj.hp.fR (i := 0) rfl (by rw [Nat.mul_one]; exact hg2))) ?_;refine gk ?_
   refine dE ?_;refine nT (i) ?_;refine rX (fun _ hj => (hr.ext hj.hp.below).xo hd2) ?_;refine dE ?_;refine bp (i := 14) (fun ρ1 w1 hj hR => nW (show ρ1 31 = Value.int _ _ from hR.1) rfl Tx Tx) ?_;refine bp (i := 15) (fun ρ1 w1 hj hR => xZ (show ρ1 30 = Value.int _ _ from hR.1) (show ρ1 32 = Value.int _ _ from hR.2.1) Tx) ?_;refine aT ?_;intro f W hJ hV;have hb_6 := hJ.bl;obtain ⟨v33, v32, v31, v30, v29, v28, v27, v26, v25, v24, v23, v22, v21, v20, v19, v18, _⟩ := hV;replace hh := hJ.hp;refine a6 (bm (ae v33 (ae v32 (ae v31 (ae v30 (ae v29 (ae v28 (ae v27 (ae v26 (ae v25 (ae v24 (ae v23 (ae v22 (ae v21 (ae v20 (ae v19 (ae v18 a0))))))))))))))))) ?_;dsimp only [cg];clear hJ;refine ix rfl rfl Ty ?_;refine cS (k := (xs'.length + 7) / 8 - 1 - i / 8) bg.out aN.size rfl rfl Tx Tx Ty ?_;refine bL hh (i := 0) (vs := [_]) rfl rfl (cH rfl) rfl aN.out rfl (by rw [cN, List.length_reverse, aO]; omega) rfl ?_;intro ws hh;simp only [List.set_cons_zero] at hh;rw [e1, Nat.mod_eq_of_lt (show d * 2 ^ (i % 8) < 256 by omega), Nat.mod_eq_of_lt s1, Nat.mul_one, cM (by rw [cN, List.length_reverse, aO]; omega), pj, hset, ← fh hdi] at hh;refine aA (bA (ai (al (mI ?_))));refine bh (aI (aA (ai ?_)))
   refine ⟨⟨i + 1, Tx, rfl, hh⟩, by show xs'.length - (i + 1) < xs'.length - i; omega, ?_⟩;exact dL
  ·obtain rfl : i = xs'.length := Tx;rw [List.take_length, hcv, hbl] at hh;have hfin : gl (bK 256 ((bC M + 7) / 8) M).reverse = nC (sb M) := by
    rw [← hlen];exact Q7
   rw [hfin, ← hbl] at hh;refine ah (sr (mI (mL (aJ ?_))));refine bf (aa (cF (aZ (aD (aD (bq (ai (sr (mL ?_)))))))));exact NQ
theorem K5 {xs : List Nat} (h : Dg 2 xs) (i : Nat) : bu 2 xs / 2 ^ i % 2 = (xs[i]?).getD 0 := by
 cases hi : xs[i]? with
 | some d => exact sE h hi
 | none =>
  rw [tj h (List.getElem?_eq_none_iff.1 hi) Tx]; rfl
theorem iK (A : Option Addr) (n c i : Nat) (xs : List Nat) (w : World) (hx : Sl w A n 1 (gl xs)) (hd : Dg 2 xs) (hn : n ≤ 1000000000000) (hi : i ≤ 1000000000000) :
  Calls Tryz.prog 259 #[.slice A n c, .int .i64 (i : Int)] w fun e w' => e = .returned (.int .u8 ((bu 2 xs / 2 ^ i % 2 : Nat) : Int)) ∧ Below w.heap.size w w' := by
 have hl := hx.1;rw [cN] at hl;have hh := Hp.start w;rw [K5 hd];by_cases hlt : i < n
 ·obtain ⟨d, hdi⟩ := ao (l := xs) (k := i) Tx;obtain ⟨ad, rfl, hr⟩ := hx.at_ Tx;have hd2 := qp hdi;rw [hdi];refine aj (N := 13) (l := [.slice (some ad) n c, .int .i64 (i : Int)]) Tryz.func259 rfl rfl (by simp) ?_;refine sr (aI (aa (ah (sr (mI (mL (aJ ?_)))))));refine bf (aa (cT (sr (mL (mI ?_)))));refine cn ?_;refine gu ?_;refine aI (aa (av (aG ?_)));refine cX ?_;exact ⟨rfl, hh.below⟩
 ·rw [List.getElem?_eq_none Tx];refine aj (N := 13) (l := [.slice A n c, .int .i64 (i : Int)]) Tryz.func259 rfl rfl (by simp) ?_;refine sr (aI (aa (ah (sr (mI (mL (aJ ?_)))))));refine bf (aa (cF (ar (ai (sr (aI (aa (av ?_))))))));refine cX ?_;exact ⟨rfl, hh.below⟩
theorem lR (X i : Nat) : X / 2 ^ i = 2 * (X / 2 ^ (i + 1)) + X / 2 ^ i % 2 := by
 rw [Nat.pow_succ, ← Nat.div_div_eq_div_mul]; omega
theorem vC {X Y k : Nat} (h : X / 2 ^ k < Y / 2 ^ k) : X < Y := by
 refine Nat.lt_of_not_le fun h2 => ?_;have := Nat.div_le_div_right (c := 2 ^ k) h2;omega
theorem mw (A B : Option Addr) (n c m c' : Nat) (xs ys : List Nat) (w : World) (hx : Sl w A n 1 (gl xs)) (hy : Sl w B m 1 (gl ys)) (hdx : Dg 2 xs) (hdy : Dg 2 ys) (hn : n ≤ 100000000000) (hm : m ≤ 100000000000) :
  Calls Tryz.prog 258 #[.slice A n c, .slice B m c'] w fun e w' => e = .returned (.int .i64 (kH (bu 2 xs) (bu 2 ys))) ∧ Below w.heap.size w w' := by
 have hlx := hx.1;have hly := hy.1;rw [cN] at hlx hly;have hh := Hp.start w;have e1 : (if (m : Int) > (n : Int) then (m : Int) else (n : Int)) - 1 = ((max n m : Nat) : Int) - 1 := by split <;> omega
 refine aj (N := 30) (l := [.slice A n c, .slice B m c']) Tryz.func258 rfl rfl (by simp) ?_;refine sr (aI (aa (ah (sr (mL (aJ (mL (aJ ?_))))))));refine kK rfl rfl Ty ?_;refine dT (aI (aa (aq ?_)));rw [e1];refine aP [4, 5, 12, 13, 14, 15, 16, 17, 18, 19, 20, 21, 22, 23, 24, 25, 26, 27, 28, 29] 5
  (fun v w' => ∃ k : Nat, k ≤ max n m ∧ v = .int .i64 ((k : Int) - 1) ∧ bu 2 xs / 2 ^ k = bu 2 ys / 2 ^ k ∧ Hp w [] w')
  (fun v _ => (intOf v + 1).toNat) ?_ ?_
 ·exact ⟨max n m, Nat.le_refl _, rfl, by rw [tj hdx Tx Tx, tj hdy Tx Tx], hh⟩
 ·clear hh;rintro ρ' v w' ⟨k, hk, rfl, heq, hh⟩;by_cases h0 : k = 0
  ·subst h0;refine ah (sr (mI ?_));refine dR (aa (cF (aZ (aD (aD (bq (ai (sr (aI (aa (av ?_)))))))))));refine cX ?_;rw [Nat.pow_zero, Nat.div_one, Nat.div_one] at heq;exact ⟨by rw [E5 heq], hh.below⟩
  ·obtain ⟨j, rfl⟩ : ∃ j, k = j + 1 := ⟨k - 1, Tx⟩;have hj : ((j + 1 : Nat) : Int) - 1 = (j : Int) := Tx;have hXb := lR (bu 2 xs) j;have hYb := lR (bu 2 ys) j;by_cases hlt : bu 2 xs / 2 ^ j % 2 < bu 2 ys / 2 ^ j % 2
   ·have hf : bu 2 xs < bu 2 ys := vC (k := j) Tx;rw [hj];refine ah (sr (mI ?_));refine I2 ?_;refine z8 ?_;intro w18 hh;refine mL (mI ?_);refine Am ?_;intro w21 hh;refine bf (aa (cT (sr (aI (aa (av (aG (bY (aG (aG (bY (aG ?_))))))))))));refine cX ?_;exact ⟨by rw [lN hf], hh.below⟩
   ·by_cases hgt : bu 2 ys / 2 ^ j % 2 < bu 2 xs / 2 ^ j % 2
    ·have hf : bu 2 ys < bu 2 xs := vC (k := j) Tx;rw [hj];refine ah (sr (mI ?_));refine I2 ?_;refine z8 ?_;intro w18 hh;refine mL (mI ?_);refine Am ?_;intro w21 hh;refine bf (aa (cF (ar (ai (sr (mL (mI ?_)))))));refine z8 ?_;intro w25 hh;refine mL (mI ?_);refine Am ?_;intro w28 hh;refine bM (aa (cT (sr (aI (aa (av (bY (aG (aG (bY (aG ?_)))))))))));refine cX ?_;exact ⟨by rw [xU hf], hh.below⟩
    ·rw [hj];refine ah (sr (mI ?_));refine I2 ?_;refine z8 ?_;intro w18 hh;refine mL (mI ?_);refine Am ?_;intro w21 hh;refine bf (aa (cF (ar (ai (sr (mL (mI ?_)))))));refine z8 ?_;intro w25 hh;refine mL (mI ?_);refine Am ?_;intro w28 hh;refine bM (aa (cF (ar (bA (ai (al (mI ?_)))))));refine dT (aI (aA (ai ?_)));refine ⟨⟨j, Tx, rfl, Tx, hh⟩, by show ((j : Int) - 1 + 1).toNat < ((j : Int) + 1).toNat; omega, ?_⟩;exact dL
theorem Kn (S T i : Nat) : (S + T) / 2 ^ i % 2 = (S / 2 ^ i % 2 + (S % 2 ^ i + T % 2 ^ i) / 2 ^ i + T / 2 ^ i % 2) % 2 ∧ (S % 2 ^ (i + 1) + T % 2 ^ (i + 1)) / 2 ^ (i + 1) = (S / 2 ^ i % 2 + (S % 2 ^ i + T % 2 ^ i) / 2 ^ i + T / 2 ^ i % 2) / 2 ∧ (S % 2 ^ i + T % 2 ^ i) / 2 ^ i ≤ 1 := by
 have hS := Nat.div_add_mod S (2 ^ i);have hT := Nat.div_add_mod T (2 ^ i);have hp : 0 < 2 ^ i := Nat.pow_pos Tx;have hS2 : S % 2 ^ (i + 1) = S % 2 ^ i + 2 ^ i * (S / 2 ^ i % 2) := by rw [Nat.pow_succ, Nat.mod_mul]
 have hT2 : T % 2 ^ (i + 1) = T % 2 ^ i + 2 ^ i * (T / 2 ^ i % 2) := by rw [Nat.pow_succ, Nat.mod_mul]
 have hSl := Nat.mod_lt S hp;have hTl := Nat.mod_lt T hp;have hc := Nat.div_add_mod (S % 2 ^ i + T % 2 ^ i) (2 ^ i);have hcl := Nat.mod_lt (S % 2 ^ i + T % 2 ^ i) hp;have hc1 : (S % 2 ^ i + T % 2 ^ i) / 2 ^ i ≤ 1 := by
  have : (S % 2 ^ i + T % 2 ^ i) / 2 ^ i < 2 := by rw [Nat.div_lt_iff_lt_mul hp]; omega
  omega
 have e1 : (S + T) / 2 ^ i = S / 2 ^ i + T / 2 ^ i + (S % 2 ^ i + T % 2 ^ i) / 2 ^ i := by
  have : S + T = (S % 2 ^ i + T % 2 ^ i) % 2 ^ i + 2 ^ i * (S / 2 ^ i + T / 2 ^ i + (S % 2 ^ i + T % 2 ^ i) / 2 ^ i) := by
   rw [Nat.mul_add, Nat.mul_add]; omega
  conv => lhs; rw [this]
  rw [Nat.add_mul_div_left _ _ hp, Nat.div_eq_of_lt hcl, Nat.zero_add]
 refine ⟨by rw [e1]; omega, ?_, hc1⟩;rw [hS2, hT2];have e2 : S % 2 ^ i + 2 ^ i * (S / 2 ^ i % 2) + (T % 2 ^ i + 2 ^ i * (T / 2 ^ i % 2)) = (S % 2 ^ i + T % 2 ^ i) % 2 ^ i + 2 ^ i * (S / 2 ^ i % 2 + (S % 2 ^ i + T % 2 ^ i) / 2 ^ i + T / 2 ^ i % 2) := by
  rw [Nat.mul_add, Nat.mul_add]; omega
 rw [e2, Nat.pow_succ, ← Nat.div_div_eq_div_mul, Nat.add_mul_div_left _ _ hp, Nat.div_eq_of_lt hcl, Nat.zero_add]
theorem PW (Y up i : Nat) : Y * 2 ^ up / 2 ^ i % 2 = if up ≤ i then Y / 2 ^ (i - up) % 2 else 0 := by
 split
 ·rename_i h;have e : 2 ^ i = 2 ^ up * 2 ^ (i - up) := by rw [← Nat.pow_add]; congr 1; omega
  rw [e, ← Nat.div_div_eq_div_mul, Nat.mul_div_cancel _ (Nat.pow_pos Tx)]
 ·rename_i h;have e : 2 ^ up = 2 ^ i * 2 * 2 ^ (up - i - 1) := by rw [← Nat.pow_succ, ← Nat.pow_add]; congr 1; omega
  have e2 : Y * 2 ^ up = 2 ^ i * (2 * (Y * 2 ^ (up - i - 1))) := by rw [e]; simp only [Nat.mul_assoc, Nat.mul_left_comm]
  rw [e2, Nat.mul_div_cancel_left _ (Nat.pow_pos Tx)];omega
theorem MS {K i N : Nat} (h : i < K) : (bK 2 i N ++ List.replicate (K - i) 0).set i (N / 2 ^ i % 2) = bK 2 (i + 1) N ++ List.replicate (K - (i + 1)) 0 := by
 rw [show K - i = (K - (i + 1)) + 1 by omega, List.replicate_succ, List.set_append_right _ _ (by rw [aO]; omega), aO, Nat.sub_self, List.set_cons_zero, kL];simp
theorem Bo (A B : Option Addr) (n c m c' up : Nat) (xs ys : List Nat) (w : World) (hx : Sl w A n 1 (gl xs)) (hy : Sl w B m 1 (gl ys)) (hdx : Dg 2 xs) (hdy : Dg 2 ys) (hn : n ≤ 100000000000) (hm : m ≤ 100000000000) (hup : up ≤ 100000000000) :
  Calls Tryz.prog 240 #[.slice A n c, .slice B m c', .int .i64 (up : Int)] w fun e w' => ∃ b, e = .returned (.slice (some ⟨b, 0, none⟩) (max n (m + up) + 1) (max n (m + up) + 1)) ∧ w'.ownsRow w.heap.size 5 1 (.slice (some ⟨b, 0, none⟩) (max n (m + up) + 1) (max n (m + up) + 1)) (max n (m + up) + 1) (gl (bK 2 (max n (m + up) + 1) (bu 2 xs + bu 2 ys * 2 ^ up))) ∧ Below w.heap.size w w' := by
 have hlx := hx.1;have hly := hy.1;rw [cN] at hlx hly;have hh := Hp.start w;have e1 : (if ((m : Int) + (up : Int)) > (n : Int) then ((m : Int) + (up : Int)) else (n : Int)) + 1 = ((max n (m + up) + 1 : Nat) : Int) := by split <;> omega
 have hand : ∀ z : Nat, z &&& 1 = z % 2 := fun z => Nat.and_one_is_mod z;refine aj (N := 49) (l := [.slice A n c, .slice B m c', .int .i64 (up : Int)]) Tryz.func240 rfl rfl (by simp) ?_;refine sr (aL (aa (sr (mL (aJ (mL (aJ (mI ?_))))))));refine bh ?_;refine kK rfl rfl Ty ?_;refine bh ?_;rw [e1];generalize hK : max n (m + up) + 1 = K at *;refine fU (n := K) hh rfl rfl Tx Tx bg.out aN.out rfl Tx Tx Ty ?_;intro b19 w19 hh;refine aL (aa (sr (aI (aa (ah (sr (aI (aa (aq ?_)))))))));rw [pg] at hh;refine bJ [8, 9, 10, 20, 21, 22, 23, 24, 25, 26, 27, 28, 29, 30, 31, 32, 33, 34, 35, 36, 37, 38, 39, 40, 41, 42, 43, 44, 45, 46, 47] 8 9
  (fun cr v w' => ∃ i : Nat, i ≤ K ∧ v = .int .i64 (i : Int) ∧ cr = .int .u8 (((bu 2 xs % 2 ^ i + bu 2 ys * 2 ^ up % 2 ^ i) / 2 ^ i : Nat) : Int) ∧ Hp w [.row (some ⟨b19, 0, none⟩) K K 5 1 (gl (bK 2 i (bu 2 xs + bu 2 ys * 2 ^ up) ++ List.replicate (K - i) 0))] w')
  (fun _ v _ => K - (intOf v).toNat) ?_ ?_
 ·exact ⟨0, Nat.zero_le _, rfl, by simp [Nat.mod_one]; rfl, hh⟩
 ·clear hh;rintro ρ' cr v w' ⟨i, hi, rfl, rfl, hh⟩;by_cases hlt : i < K
  ·obtain ⟨b1, b2, b3⟩ := Kn (bu 2 xs) (bu 2 ys * 2 ^ up) i;have hbu := PW (bu 2 ys) up i;have hxb : bu 2 xs / 2 ^ i % 2 < 2 := Nat.mod_lt _ Tx;have hyb : bu 2 ys / 2 ^ (i - up) % 2 < 2 := Nat.mod_lt _ Tx;have hll : (gl (bK 2 i (bu 2 xs + bu 2 ys * 2 ^ up) ++ List.replicate (K - i) 0)).length = K := by rw [cN, List.length_append, aO, List.length_replicate]; omega
   have hfk := MS (N := bu 2 xs + bu 2 ys * 2 ^ up) hlt;generalize hC : (bu 2 xs % 2 ^ i + bu 2 ys * 2 ^ up % 2 ^ i) / 2 ^ i = C at *;generalize hX : bu 2 xs / 2 ^ i % 2 = X at *;refine ah (sr (mI (mL (aJ ?_))));refine mD ?_;refine bz hh (iK A n c i xs _ (hx.ext hh.below) hdx Tx Tx) rfl ?_;intro w28 hh;rw [hX];by_cases hiu : up ≤ i
   ·rw [if_pos hiu] at hbu;rw [hbu] at b1 b2;generalize hY : bu 2 ys / 2 ^ (i - up) % 2 = Y at *;have es : ((X + C) % 256 + Y) % 256 = X + C + Y := Tx;have ei : (i : Int) - (up : Int) = ((i - up : Nat) : Int) := Tx;refine mI ?_;refine ix rfl rfl Ty ?_;refine aI (aa (ah (sr (mI (mI ?_)))));refine dR (aa (cT (al (mI (mL (mI (mI ?_)))))));refine dT ?_;rw [ei];refine bz hh (iK B m c' (i - up) ys _ (hy.ext hh.below) hdy Tx Tx) rfl ?_;intro w39 hh;rw [hY];refine ix rfl rfl Ty ?_;refine aI (aa (sr (mL (mI (mI ?_)))));exact Nj
   ·rw [if_neg hiu] at hbu;rw [hbu] at b1 b2;have es : (X + C) % 256 = X + C + 0 := Tx;refine mI ?_;refine ix rfl rfl Ty ?_;refine aI (aa (ah (sr (mI (mI ?_)))));refine dR (aa (cF (ar (ai (sr (mL (mI (mI ?_))))))));exact Nj
  ·obtain rfl : i = K := Tx;exact Rw
theorem K4 {X Y : Nat} (h : Y ≤ X) (i : Nat) : ((2 + X / 2 ^ i % 2 + 256 - Y / 2 ^ i % 2) % 256 + 256 - (if X % 2 ^ i < Y % 2 ^ i then 1 else 0)) % 256 % 2 = (X - Y) / 2 ^ i % 2 ∧
  (1 + 256 - ((2 + X / 2 ^ i % 2 + 256 - Y / 2 ^ i % 2) % 256 + 256 - (if X % 2 ^ i < Y % 2 ^ i then 1 else 0)) % 256 / 2) % 256 = (if X % 2 ^ (i + 1) < Y % 2 ^ (i + 1) then 1 else 0) := by
 have hX := Nat.div_add_mod X (2 ^ i);have hY := Nat.div_add_mod Y (2 ^ i);have hp : 0 < 2 ^ i := Nat.pow_pos Tx;have hX2 : X % 2 ^ (i + 1) = X % 2 ^ i + 2 ^ i * (X / 2 ^ i % 2) := by rw [Nat.pow_succ, Nat.mod_mul]
 have hY2 : Y % 2 ^ (i + 1) = Y % 2 ^ i + 2 ^ i * (Y / 2 ^ i % 2) := by rw [Nat.pow_succ, Nat.mod_mul]
 have hXl := Nat.mod_lt X hp;have hYl := Nat.mod_lt Y hp;rw [hX2, hY2];generalize hx1 : X / 2 ^ i = x1 at *;generalize hy1 : Y / 2 ^ i = y1 at *;generalize hx0 : X % 2 ^ i = x0 at *;generalize hy0 : Y % 2 ^ i = y0 at *;have key : ∀ b : Nat, b = (if x0 < y0 then 1 else 0) → (X - Y) / 2 ^ i = x1 - y1 - b ∧ y1 + b ≤ x1 := by
  intro b hb;have hle : y1 + b ≤ x1 := by
   refine Nat.le_of_not_lt fun hlt => ?_;have h1 : 2 ^ i * (x1 + 1) ≤ 2 ^ i * (y1 + b) := Nat.mul_le_mul_left _ hlt;rw [Nat.mul_add, Nat.mul_add] at h1;split at hb
   ·subst hb; omega
   ·subst hb; omega
  refine ⟨?_, hle⟩;have e : X - Y = (x0 + 2 ^ i * b - y0) + 2 ^ i * (x1 - y1 - b) := by
   have h2 : 2 ^ i * (x1 - y1 - b) = 2 ^ i * x1 - 2 ^ i * y1 - 2 ^ i * b := by rw [Nat.mul_sub, Nat.mul_sub]
   have h3 : 2 ^ i * (y1 + b) ≤ 2 ^ i * x1 := Nat.mul_le_mul_left _ hle;rw [Nat.mul_add] at h3;split at hb
   ·subst hb; omega
   ·subst hb; omega
  rw [e, Nat.add_mul_div_left _ _ hp, Nat.div_eq_of_lt, Nat.zero_add];split at hb
  ·subst hb; omega
  ·subst hb; omega
 obtain ⟨k1, k2⟩ := key _ rfl;rw [k1];have hlt : (x0 + 2 ^ i * (x1 % 2) < y0 + 2 ^ i * (y1 % 2)) ↔ (x1 % 2 < y1 % 2 ∨ x1 % 2 = y1 % 2 ∧ x0 < y0) := by
  rcases Nat.mod_two_eq_zero_or_one x1 with h1 | h1 <;> rcases Nat.mod_two_eq_zero_or_one y1 with h2 | h2 <;> rw [h1, h2] <;> omega
 by_cases hb : x0 < y0
 ·rw [if_pos hb] at k2 ⊢;exact Rc
 ·rw [if_neg hb] at k2 ⊢;exact Rc
theorem pK (A B : Option Addr) (n c m c' : Nat) (xs ys : List Nat) (w : World) (hx : Sl w A n 1 (gl xs)) (hy : Sl w B m 1 (gl ys)) (hdx : Dg 2 xs) (hdy : Dg 2 ys) (hn : n ≤ 100000000000) (hm : m ≤ 100000000000) (hle : bu 2 ys ≤ bu 2 xs) :
  Calls Tryz.prog 242 #[.slice A n c, .slice B m c'] w fun e w' => ∃ b, e = .returned (.slice (some ⟨b, 0, none⟩) n n) ∧ w'.ownsRow w.heap.size 5 1 (.slice (some ⟨b, 0, none⟩) n n) n (gl (bK 2 n (bu 2 xs - bu 2 ys))) ∧ Below w.heap.size w w' := by
 have hlx := hx.1;have hly := hy.1;rw [cN] at hlx hly;have hh := Hp.start w;have hand : ∀ z : Nat, z &&& 1 = z % 2 := fun z => Nat.and_one_is_mod z;refine aj (N := 37) (l := [.slice A n c, .slice B m c']) Tryz.func242 rfl rfl (by simp) ?_;refine sr (aL (aa (sr (mL (aJ ?_)))));refine Iu ?_;intro b11 w11 hh;refine aL (aa (sr (aI (aa (ah (sr (aI (aa (aq ?_)))))))));rw [pg] at hh;refine bJ [6, 7, 8, 12, 13, 14, 15, 16, 17, 18, 19, 20, 21, 22, 23, 24, 25, 26, 27, 28, 29, 30, 31, 32, 33, 34, 35] 6 7
  (fun cr v w' => ∃ i : Nat, i ≤ n ∧ v = .int .i64 (i : Int) ∧ cr = .int .u8 ((if bu 2 xs % 2 ^ i < bu 2 ys % 2 ^ i then 1 else 0 : Nat) : Int) ∧ Hp w [.row (some ⟨b11, 0, none⟩) n n 5 1 (gl (bK 2 i (bu 2 xs - bu 2 ys) ++ List.replicate (n - i) 0))] w')
  (fun _ v _ => n - (intOf v).toNat) ?_ ?_
 ·exact ⟨0, Nat.zero_le _, rfl, by simp [Nat.mod_one]; rfl, hh⟩
 ·clear hh;rintro ρ' cr v w' ⟨i, hi, rfl, rfl, hh⟩;by_cases hlt : i < n
  ·obtain ⟨b1, b2⟩ := K4 hle i;have hxb : bu 2 xs / 2 ^ i % 2 < 2 := Nat.mod_lt _ Tx;have hyb : bu 2 ys / 2 ^ i % 2 < 2 := Nat.mod_lt _ Tx;have hcb : (if bu 2 xs % 2 ^ i < bu 2 ys % 2 ^ i then 1 else 0 : Nat) ≤ 1 := by split <;> omega
   have hll : (gl (bK 2 i (bu 2 xs - bu 2 ys) ++ List.replicate (n - i) 0)).length = n := by rw [cN, List.length_append, aO, List.length_replicate]; omega
   have hfk := MS (N := bu 2 xs - bu 2 ys) hlt;refine ah (sr (mI (mL (aJ ?_))));refine mD ?_;refine bz hh (iK A n c i xs _ (hx.ext hh.below) hdx Tx Tx) rfl ?_;intro w20 hh;refine ix (a := 2) rfl rfl Ty ?_;refine mL (mI ?_);refine bz hh (iK B m c' i ys _ (hy.ext hh.below) hdy Tx Tx) rfl ?_;intro w24 hh;generalize hC : (if bu 2 xs % 2 ^ i < bu 2 ys % 2 ^ i then 1 else 0 : Nat) = C at *;generalize hX : bu 2 xs / 2 ^ i % 2 = X at *;generalize hY : bu 2 ys / 2 ^ i % 2 = Y at *;have es : ((2 + X) % 256 + 256 - Y) % 256 = (2 + X + 256 - Y) % 256 := Tx;have hS : ((2 + X + 256 - Y) % 256 + 256 - C) % 256 < 256 := Nat.mod_lt _ Tx;refine CZ rfl rfl Tx Ty ?_;refine mI ?_;rw [es];refine CZ rfl rfl Tx Ty ?_;refine aI (aa (sr (mL (mI (mI ?_)))));refine J3 ?_;refine gh ?_;refine G3 ?_;intro ws hh;simp only [List.set_cons_zero] at hh;rw [hand, b1, Nat.mul_one, cM (by rw [hll]; omega), pj, hfk] at hh;refine aa (al (mI ?_));refine lK (s := 1) (m := 2) rfl rfl Ty Ty Ty ?_;refine CZ (a := 1) rfl rfl Tx Ty ?_;refine aI (aA (bA (ai (al (mI ?_)))));refine bh (aI (aA (ai ?_)));refine ⟨⟨i + 1, Tx, rfl, by rw [← b2]; rfl, hh⟩, by show n - (i + 1) < n - i; omega, ?_⟩;exact dL
  ·obtain rfl : i = n := Tx;exact Rw
theorem vz (n : Nat) (w : World) (hn : n < 18446744073709551616) :
  Calls Tryz.prog 211 #[.int .u64 (n : Int)] w fun e w' => e = .returned (.string (sN n)) ∧ Below w.heap.size w w' := by
 have hh := Hp.start w;refine aj (N := 16) (l := [.int .u64 (n : Int)]) Tryz.func211 rfl rfl (by simp) ?_;refine sr (aS (aa (sr (aL (aa (ah (aq ?_)))))));replace hh := hh.db 5 1;refine bJ [0, 3, 4, 5, 6, 7, 8, 9, 10, 11, 12, 13] 0 3
  (fun v o w' => ∃ (k m : Nat) (A : Option Addr) (c : Nat), v = .int .u64 (m : Int) ∧ m < 18446744073709551616 ∧ k ≤ 64 ∧ m < 2 ^ (64 - k) ∧ o = .slice A k c ∧ m = n / 2 ^ k ∧ Hp w [.row A k c 5 1 (gl (bK 2 k n))] w')
  (fun v _ _ => (intOf v).toNat) ?_ ?_
 ·exact ⟨0, n, none, 0, rfl, hn, Tx, by simpa using hn, rfl, by simp, hh⟩
 ·clear hh;rintro ρ' v o w' ⟨k, m, A, c, rfl, hm, hk, hmk, rfl, hmn, hh⟩;by_cases h0 : m = 0
  ·subst h0;refine ah (sr (mI ?_));refine bM (aa (cF (aZ (aD (aD (bq (ai (sr (mL ?_)))))))));refine bz hh (gY _ _ _ (bK 2 k n) _ (hh.aC (i := 0) rfl) (fV Tx _ _) (hh.fF (i := 0) rfl) Tx) rfl ?_;intro w15 hh;have hlt : n < 2 ^ k := by
    have := Nat.div_add_mod n (2 ^ k);have h2 := Nat.mod_lt n (Nat.pow_pos (n := k) (show 0 < 2 by omega));rw [← hmn] at this;omega
   rw [dh hlt];exact F1
  ·have hk64 : k < 64 := by
    refine Nat.lt_of_not_le fun h => ?_;rw [show 64 - k = 0 by omega] at hmk;omega
   have hm2 : m % 2 < 256 := Tx;refine ah (sr (mI ?_));refine bM (aa (cT (ar (ai (ah (aq (al (mL (mI ?_)))))))));refine B5 (b := 2) rfl rfl Tx Ty ?_;refine l8 ?_;refine vP ?_;intro b12 w12 hh;refine o7 ?_;intro A13 c13 w13 hh;simp only [List.set_cons_zero, List.set_cons_succ] at hh;replace hh := hh.sub (List.sublist_cons_self _ _);refine wR ?_;refine PO (b := 2) rfl rfl Tx (by first | assumption | omega) Ty ?_;refine aI (aA (ai ?_));have e1 : gl (bK 2 k n) ++ [Value.int .u8 ((m % 2 : Nat) : Int)] = gl (bK 2 (k + 1) n) := by
    rw [hmn, kL, th]; rfl
   rw [e1] at hh;refine ⟨⟨k + 1, m / 2, A13, c13, rfl, Tx, Tx, ?_, rfl, ?_, hh⟩, by show (((m / 2 : Nat) : Int)).toNat < ((m : Int)).toNat; omega, ?_⟩
   ·rw [show 64 - k = (64 - (k + 1)) + 1 by omega, Nat.pow_succ] at hmk;omega
   ·rw [hmn, Nat.div_div_eq_div_mul, Nat.pow_succ]
   ·exact dL
theorem jk (a : ByteArray) : (aU 2 (bN a)).length ≤ 8 * a.size := gI a
theorem ld (n : Nat) : Dg 2 (aU 2 n) := (dI Tx n).1
theorem iA (n : Nat) : bu 2 (aU 2 n) = n := dF Tx n
theorem uN (a b : ByteArray) (w : World) (ha : a.size ≤ 1000000000) (hb : b.size ≤ 1000000000) :
  Calls Tryz.prog 241 #[.string a, .string b] w fun e w' => e = .returned (.int .i64 (kH (bN a) (bN b))) ∧ Below w.heap.size w w' := by
 have hh := Hp.start w;have h1 := jk a;have h2 := jk b;refine aj (N := 10) (l := [.string a, .string b]) Tryz.func241 rfl rfl (by simp) ?_;refine sr (aI (aa (sr (mS ?_))));refine DC ?_;rintro e_ w6 ⟨A6, c6, rfl, hown_, hb_⟩;refine ⟨_, rfl, ?_⟩;replace hh := hh.aV (x := .row _ _ _ _ _ _) hb_ hown_;refine mS ?_;refine aE (eM b _ hb) ak.out rfl Ty ?_;rintro e_ w8 ⟨A8, c8, rfl, hown_, hb_⟩;refine ⟨_, rfl, ?_⟩;replace hh := hh.aV (x := .row _ _ _ _ _ _) hb_ hown_;refine bz hh (mw _ _ _ _ _ _ (aU 2 (bN a)) (aU 2 (bN b)) _ (hh.aC (i := 1) rfl) (hh.aC (i := 0) rfl) (ld _) (ld _) Tx Tx) rfl ?_;intro w9 hh;rw [iA, iA];exact zr
theorem nX (a : ByteArray) (w : World) (ha : a.size ≤ 1000000000) :
  Calls Tryz.prog 239 #[.string a] w fun e w' => e = .returned (.int .i64 (bC (bN a))) ∧ Below w.heap.size w w' := by
 have hh := Hp.start w;refine aj (N := 6) (l := [.string a]) Tryz.func239 rfl rfl (by simp) ?_;refine sr (aI (aa (sr (mS ?_))));refine DC ?_;rintro e_ w4 ⟨A4, c4, rfl, hown_, hb_⟩;refine ⟨_, rfl, ?_⟩;replace hh := hh.aV (x := .row _ _ _ _ _ _) hb_ hown_;refine aJ (aI (aa (av ?_)));refine cX ?_;exact ⟨rfl, hh.below⟩
theorem oK (a b : ByteArray) (w : World) (ha : a.size ≤ 1000000000) (hb : b.size ≤ 1000000000) :
  Calls Tryz.prog 216 #[.string a, .string b] w fun e w' => e = .returned (.tuple #[.string (sN (bN a - bN b)), .bool (decide (bN b ≤ bN a))]) ∧ Below w.heap.size w w' := by
 have hh := Hp.start w;have h1 := jk a;have h2 := jk b;by_cases hlt : bN a < bN b
 ·refine aj (N := 16) (l := [.string a, .string b]) Tryz.func216 rfl rfl (by simp) ?_;refine sr (aS (aB (aa (ah (sr (mS (mS ?_)))))));refine bz hh (uN a b _ ha hb) rfl ?_;intro w8 hh;rw [lN hlt];exact Qd
 ·have hc : ¬ kH (bN a) (bN b) < 0 := by unfold kH; split <;> (try split) <;> omega
  have hbl : bN a - bN b < 2 ^ (aU 2 (bN a)).length := Nat.lt_of_le_of_lt (Nat.sub_le _ _) (dk (bN a));refine aj (N := 16) (l := [.string a, .string b]) Tryz.func216 rfl rfl (by simp) ?_;refine sr (aS (aB (aa (ah (sr (mS (mS ?_)))))));refine bz hh (uN a b _ ha hb) rfl ?_;intro w8 hh;refine bf (aa (cF (ar (ai (sr (mS ?_))))));refine DC ?_;rintro e_ w11 ⟨A11, c11, rfl, hown_, hb_⟩;refine ⟨_, rfl, ?_⟩;replace hh := hh.aV (x := .row _ _ _ _ _ _) hb_ hown_;refine mS ?_;refine aE (eM b _ hb) ak.out rfl Ty ?_;rintro e_ w13 ⟨A13, c13, rfl, hown_, hb_⟩;refine ⟨_, rfl, ?_⟩;replace hh := hh.aV (x := .row _ _ _ _ _ _) hb_ hown_;refine aE (pK _ _ _ _ _ _ (aU 2 (bN a)) (aU 2 (bN b)) _ (hh.aC (i := 1) rfl) (hh.aC (i := 0) rfl) (ld _) (ld _) Tx Tx (by rw [iA, iA]; omega)) ak.out rfl Ty ?_;rintro e_ w_ ⟨b14, rfl, hown_, hb_⟩;refine ⟨_, rfl, ?_⟩;replace hh := hh.aV (x := .row _ _ _ _ _ _) hb_ hown_;rw [iA, iA] at hh;refine bz hh (gY _ _ _ (bK 2 (aU 2 (bN a)).length (bN a - bN b)) _ (hh.aC (i := 0) rfl) (fV Tx _ _) (Nat.le_refl _) Tx) rfl ?_;intro w15 hh;rw [dh hbl];exact Np
theorem Cy (L : Option Addr) (n c : Nat) (ss : List ByteArray) (w : World) (hS : Sl w L n 1 (lj ss)) (hn : n ≤ 1000000) (hs : ∀ s ∈ ss, s.size ≤ 1000000000) :
  Calls Tryz.prog 215 #[.slice L n c] w fun e w' => e = .returned (.string (sN (ss.map bN).sum)) ∧ Below w.heap.size w w' := by
 have hsl : ss.length = n := by have := hS.1; rw [rr] at this; omega
 have hh := Hp.start w;refine aj (N := 20) (l := [.slice L n c]) Tryz.func215 rfl rfl (by simp) ?_;refine sr (aS (aa (sr (aL (aa (ah (sr (aI (aa (aq ?_))))))))));replace hh := hh.db 5 1;refine bJ [3, 4, 5, 6, 7, 8, 9, 10, 11, 12, 13, 14, 15, 16, 17] 3 4
  (fun v j w' => ∃ (i : Nat) (A : Option Addr) (c' T K : Nat), i ≤ n ∧ j = .int .i64 i ∧ T = ((ss.take i).map bN).sum ∧ v = .slice A K c' ∧ K ≤ 8000000000 + i ∧ T < 2 ^ K ∧ Hp w [.row A K c' 5 1 (gl (bK 2 K T))] w')
  (fun _ j _ => n - (intOf j).toNat) ?_ ?_
 ·exact ⟨0, none, 0, 0, 0, Nat.zero_le _, rfl, rfl, rfl, Tx, by simp, hh⟩
 ·clear hh;rintro ρ' v j w' ⟨i, A, c', T, K, hi, rfl, hT, rfl, hTl, hTb, hh⟩;by_cases hlt : i < n
  ·obtain ⟨s, hsi⟩ := ao (l := ss) (k := i) Tx;obtain ⟨ad, rfl, hr⟩ := hS.at_ Tx;have hs2 := E2 hsi;have hsz := hs s (List.mem_of_getElem? hsi);have hlx := jk s;have hT2 : ((ss.take (i + 1)).map bN).sum = T + bN s := by rw [ay hsi, List.map_append, List.map_singleton, qR, hT]
   have hbs : bN s < 2 ^ (aU 2 (bN s)).length := dk _;have hb2 : T + bN s < 2 ^ (max K ((aU 2 (bN s)).length + 0) + 1) := by
    have h1 : 2 ^ K ≤ 2 ^ max K ((aU 2 (bN s)).length + 0) := Nat.pow_le_pow_right Tx Tx;have h2 : 2 ^ (aU 2 (bN s)).length ≤ 2 ^ max K ((aU 2 (bN s)).length + 0) := Nat.pow_le_pow_right Tx Tx;rw [Nat.pow_succ]; omega
   refine ah (sr (mI (mL (aJ ?_))));refine H9 ?_;refine cn ?_;refine gu ?_;refine aE (eM s _ hsz) ak.out rfl Ty ?_;rintro e_ w16 ⟨A16, c16, rfl, hown_, hb_⟩;refine ⟨_, rfl, ?_⟩;replace hh := hh.aV (x := .row _ _ _ _ _ _) hb_ hown_;refine aE (Bo _ _ _ _ _ _ 0 (bK 2 K T) (aU 2 (bN s)) _ (hh.aC (i := 1) rfl) (hh.aC (i := 0) rfl) (fV Tx _ _) (ld _) Tx Tx Tx) ak.out rfl Ty ?_;rintro e_ w_ ⟨b17, rfl, hown_, hb_⟩;refine ⟨_, rfl, ?_⟩;rw [iA, dh hTb, Nat.pow_zero, Nat.mul_one] at hown_;replace hh := (hh.aV (x := .row _ _ _ _ _ _) hb_ hown_).sub (List.sublist_append_left [_] _);refine wR ?_;refine bh (aI (aA (ai ?_)));refine ⟨⟨i + 1, _, _, T + bN s, _, Tx, rfl, hT2.symm, rfl, Tx, hb2, hh⟩, by show n - (i + 1) < n - i; omega, ?_⟩;exact dL
  ·refine ah (sr (mI (mL (aJ ?_))));refine bf (aa (cF (aZ (aD (aD (bq (ai (sr (mL ?_)))))))));refine bz hh (gY _ _ _ (bK 2 K T) _ (hh.aC (i := 0) rfl) (fV Tx _ _) (hh.fF (i := 0) rfl) Tx) rfl ?_;intro w19 hh;rw [dh hTb];exact Qx
theorem Ju (X Y k : Nat) (hY : 0 < Y) : X / 2 ^ k % Y = (if Y ≤ X / 2 ^ k % 2 + 2 * (X / 2 ^ (k + 1) % Y) then X / 2 ^ k % 2 + 2 * (X / 2 ^ (k + 1) % Y) - Y else X / 2 ^ k % 2 + 2 * (X / 2 ^ (k + 1) % Y)) ∧
  X / 2 ^ k / Y % 2 = (if Y ≤ X / 2 ^ k % 2 + 2 * (X / 2 ^ (k + 1) % Y) then 1 else 0) ∧ X / 2 ^ k / Y / 2 = X / 2 ^ (k + 1) / Y := by
 have h1 := lR X k;have hb : X / 2 ^ k % 2 < 2 := Nat.mod_lt _ Tx;generalize X / 2 ^ k % 2 = b at *;generalize X / 2 ^ k = Z at *;generalize X / 2 ^ (k + 1) = V at *;have h2 := Nat.div_add_mod V Y;have h3 := Nat.mod_lt V hY;generalize V / Y = q at *;generalize V % Y = r at *;have e : Z = (b + 2 * r) + Y * (2 * q) := by rw [h1, ← h2, Nat.mul_add, Nat.mul_left_comm]; omega
 rw [e, Nat.add_mul_mod_self_left, Nat.add_mul_div_left _ _ hY];by_cases hc : Y ≤ b + 2 * r
 ·rw [if_pos hc, if_pos hc];have e2 : b + 2 * r = (b + 2 * r - Y) + Y * 1 := Tx;have h4 : b + 2 * r - Y < Y := Tx;have h5 : (b + 2 * r) / Y = 1 := by rw [e2, Nat.add_mul_div_left _ _ hY, Nat.div_eq_of_lt h4]
  have h6 : (b + 2 * r) % Y = b + 2 * r - Y := by conv => lhs; rw [e2, Nat.add_mul_mod_self_left, Nat.mod_eq_of_lt h4]
  rw [h5, h6];omega
 ·rw [if_neg hc, if_neg hc, Nat.mod_eq_of_lt Tx, Nat.div_eq_of_lt Tx];omega
theorem od (a b : ByteArray) (w : World) (ha : a.size ≤ 1000000000) (hb : b.size ≤ 1000000000) (hb0 : bN b ≠ 0) :
  Calls Tryz.prog 238 #[.string a, .string b] w fun e w' => e = .returned (.tuple #[.string (sN (bN a / bN b)), .string (sN (bN a % bN b)), .bool true]) ∧ Below w.heap.size w w' := by
 have hh := Hp.start w;have h1 := jk a;have h2 := jk b;have hX := iA (bN a);have hXd := ld (bN a);have hXl : bN a < 2 ^ (aU 2 (bN a)).length := dk _;have hYp : 0 < (aU 2 (bN b)).length := pN hb0;have hget : ∀ k, k < (aU 2 (bN a)).length → (aU 2 (bN a))[k]? = some (bN a / 2 ^ k % 2) := fun k hk => AR Tx hk;refine aj (N := 52) (l := [.string a, .string b]) Tryz.func238 rfl rfl (by simp) ?_;refine sr (aS (aS (aB (aa (sr (mS ?_))))));refine DC ?_;rintro e_ w13 ⟨A13, c13, rfl, hown_, hb_⟩;refine ⟨_, rfl, ?_⟩;replace hh := hh.aV (x := .row _ _ _ _ _ _) hb_ hown_;refine mS ?_;refine aE (eM b _ hb) ak.out rfl Ty ?_;rintro e_ w15 ⟨A15, c15, rfl, hown_, hb_⟩;refine ⟨_, rfl, ?_⟩;replace hh := hh.aV (x := .row _ _ _ _ _ _) hb_ hown_;refine aL (aL (aa (ah (sr (mL (aJ ?_))))));refine cW (aa (cF (ar (ai (sr (mL (aJ ?_)))))));refine fU hh rfl rfl rfl rfl bg.out aN.out rfl Tx Tx Ty ?_;intro b21 w21 hh;refine aL (aa (sr (aL (aa (ah (sr (mL (aJ ?_))))))));refine dT (aI (aa (aq ?_)));rw [pg] at hh;generalize hxs : aU 2 (bN a) = xs at *;replace hh := hh.db 5 1;refine bJ [10, 11, 25, 26, 27, 28, 29, 30, 31, 32, 33, 34, 35, 36, 37, 38, 39, 40, 41, 42, 43, 44, 45, 46, 47] 10 11
  (fun v j w' => ∃ (k : Nat) (A : Option Addr) (c' : Nat), k ≤ xs.length ∧ j = .int .i64 ((k : Int) - 1) ∧ v = .slice A (aU 2 (bN a / 2 ^ k % bN b)).length c' ∧ Hp w [.row A (aU 2 (bN a / 2 ^ k % bN b)).length c' 5 1 (gl (aU 2 (bN a / 2 ^ k % bN b))), .row (some ⟨b21, 0, none⟩) xs.length xs.length 5 1 (gl (List.replicate k 0 ++ bK 2 (xs.length - k) (bN a / 2 ^ k / bN b))), .row A15 (aU 2 (bN b)).length c15 5 1 (gl (aU 2 (bN b))), .row A13 xs.length c13 5 1 (gl xs)] w')
  (fun _ j _ => (intOf j + 1).toNat) ?_ ?_
 ·refine ⟨xs.length, none, 0, Nat.le_refl _, rfl, ?_, ?_⟩
  ·rw [Nat.div_eq_of_lt hXl, Nat.zero_mod, fW Tx]; rfl
  ·rw [Nat.div_eq_of_lt hXl, Nat.zero_mod, fW Tx, Nat.sub_self]; simp only [bK, List.append_nil]; exact hh
 ·clear hh;rintro ρ' v j w' ⟨k, A, c', hk, rfl, rfl, hh⟩;by_cases h0 : k = 0
  ·subst h0;rw [Nat.pow_zero, Nat.div_one, Nat.sub_zero, List.replicate_zero, List.nil_append] at hh;rw [Nat.pow_zero, Nat.div_one];have hq : bN a / bN b < 2 ^ xs.length := Nat.lt_of_le_of_lt (Nat.div_le_self _ _) hXl;have hrl : (aU 2 (bN a % bN b)).length ≤ (aU 2 (bN b)).length := nK Tx (Nat.le_of_lt (Nat.mod_lt _ Tx));refine ah (sr (mI ?_));refine dR (aa (cF (aZ (aD (aD (bq (ai (sr (mL ?_)))))))));refine bz hh (gY _ _ _ (bK 2 xs.length (bN a / bN b)) _ (hh.aC (i := 1) rfl) (fV Tx _ _) (Nat.le_refl _) Tx) rfl ?_;intro w49 hh;rw [dh hq];refine mL ?_;refine bz hh (gY _ _ _ (aU 2 (bN a % bN b)) _ (hh.aC (i := 0) rfl) (ld _) (hh.fF (i := 0) rfl) Tx) rfl ?_;intro w51 hh;rw [iA];refine aS (aS (aB (aa (av ?_))));refine Te ?_;exact ⟨rfl, hh.below⟩
  ·obtain ⟨i, rfl⟩ : ∃ i, k = i + 1 := ⟨k - 1, Tx⟩;have hji : ((i + 1 : Nat) : Int) - 1 = (i : Int) := Tx;obtain ⟨d1, d2, d3⟩ := Ju (bN a) (bN b) i Tx;have hgi := qp (hget i Tx);have hdw : bN a / 2 ^ i % 2 < 2 := Nat.mod_lt _ Tx;have hrl : (aU 2 (bN a / 2 ^ (i + 1) % bN b)).length ≤ (aU 2 (bN b)).length := nK Tx (Nat.le_of_lt (Nat.mod_lt _ Tx));have hqk : bK 2 (xs.length - i) (bN a / 2 ^ i / bN b) = (bN a / 2 ^ i / bN b % 2) :: bK 2 (xs.length - (i + 1)) (bN a / 2 ^ (i + 1) / bN b) := by
    rw [show xs.length - i = (xs.length - (i + 1)) + 1 by omega, bK, d3]
   rw [hji];obtain ⟨g, rfl⟩ := hh.cd (i := 3) rfl Tx;refine ah (sr (mI ?_));refine dR (aa (cT (ar (ai (ah (aq (sr (mL (mI ?_)))))))));refine gh ?_;refine bT aN.out rfl (hh.fR (i := 3) rfl (by first | assumption | (simp only [Nat.mul_one]; assumption))) Ty ?_;refine vP ?_;intro b33 w33 hh;refine mL ?_;refine cJ hh (i := 0) rfl rfl rfl (hh.aC (i := 1) rfl) bg.out aN.out rfl Ty (by first | rfl | exact dN _ | exact dm _ | exact bX _ | exact cq NR.one _) Tx Tx Ty ?_;intro A35 c35 w35 hh;simp only [List.set_cons_zero] at hh;have e35 : [Value.int .u8 ((bN a / 2 ^ i % 2 : Nat) : Int)] ++ gl (aU 2 (bN a / 2 ^ (i + 1) % bN b)) = gl ((bN a / 2 ^ i % 2) :: aU 2 (bN a / 2 ^ (i + 1) % bN b)) := rfl;rw [e35] at hh;generalize hR : bN a / 2 ^ (i + 1) % bN b = R at *;generalize hbt : bN a / 2 ^ i % 2 = bt at *;have hdg : Dg 2 (bt :: aU 2 R) := Dg.cons hdw (ld _);have hcv : dD (bt :: aU 2 R) = aU 2 (bt + 2 * R) := by rw [ie Tx hdg, bu, iA]
   have hll : (bt :: aU 2 R).length = 1 + (aU 2 R).length := by rw [List.length_cons]; omega
   have hcl := e7 (bt :: aU 2 R);refine bz hh (lJ _ _ _ (bt :: aU 2 R) _ (hh.aC (i := 0) rfl) (hh.fF (i := 0) rfl) Tx) rfl ?_;intro w36 hh;replace hh := hh.PK hll;rw [hcv] at hh hcl;rw [hcv];refine aL (aa (sr (mL (mL ?_))));refine bz hh (mw _ _ _ _ _ _ (aU 2 (bt + 2 * R)) (aU 2 (bN b)) _ (hh.aC (i := 0) rfl) (hh.aC (i := 3) rfl) (ld _) (ld _) Tx Tx) rfl ?_;intro w39 hh;rw [iA, iA];by_cases hge : bN b ≤ bt + 2 * R
   ·have hc : 0 ≤ kH (bt + 2 * R) (bN b) := by unfold kH; rw [if_neg Tx]; split <;> omega
    rw [if_pos hge] at d1 d2;have hml : bt + 2 * R - bN b < 2 ^ (aU 2 (bt + 2 * R)).length := Nat.lt_of_le_of_lt (Nat.sub_le _ _) (dk _);have hcm : dD (bK 2 (aU 2 (bt + 2 * R)).length (bt + 2 * R - bN b)) = aU 2 (bt + 2 * R - bN b) := by rw [ie Tx (fV Tx _ _), dh hml]
    refine dR (aa (cT (sr (mL (mL ?_)))));refine aE (pK _ _ _ _ _ _ (aU 2 (bt + 2 * R)) (aU 2 (bN b)) _ (hh.aC (i := 0) rfl) (hh.aC (i := 3) rfl) (ld _) (ld _) Tx Tx (by rw [iA, iA]; exact hge)) ak.out rfl Ty ?_;rintro e_ w_ ⟨b43, rfl, hown_, hb_⟩;refine ⟨_, rfl, ?_⟩;replace hh := hh.aV (x := .row _ _ _ _ _ _) hb_ hown_;rw [iA, iA] at hh;refine bz hh (lJ _ _ _ (bK 2 (aU 2 (bt + 2 * R)).length (bt + 2 * R - bN b)) _ (hh.aC (i := 0) rfl) (Nat.le_refl _) Tx) rfl ?_;intro w44 hh;replace hh := hh.PK (aO _ _);rw [hcm] at hh;rw [hcm];have hql : (gl (List.replicate (i + 1) 0 ++ bK 2 (xs.length - (i + 1)) (bN a / 2 ^ (i + 1) / bN b))).length = xs.length := by rw [cN, List.length_append, List.length_replicate, aO]; omega
    refine aL (aa (al (mL (mI ?_))));refine gh ?_;refine bL hh (i := 3) (vs := [_]) rfl rfl (cH rfl) rfl aN.out rfl (by rw [hql]; omega) rfl ?_;intro ws hh;simp only [List.set_cons_zero, List.set_cons_succ] at hh;rw [Nat.mul_one, cM (by rw [hql]; omega)] at hh;have hset : (gl (List.replicate (i + 1) 0 ++ bK 2 (xs.length - (i + 1)) (bN a / 2 ^ (i + 1) / bN b))).set i (.int .u8 1) = gl (List.replicate i 0 ++ bK 2 (xs.length - i) (bN a / 2 ^ i / bN b)) := by
     have := pj (List.replicate (i + 1) 0 ++ bK 2 (xs.length - (i + 1)) (bN a / 2 ^ (i + 1) / bN b)) i 1;rw [hqk, d2, ← E0];exact this
    rw [hset] at hh;replace hh := hh.sub (.cons_cons _ (.cons _ (.cons _ (List.Sublist.refl _))));refine aA (bA (ai (al (mI ?_))));refine dT (aI (aA (ai ?_)));exact Nk
   ·have hc : ¬ 0 ≤ kH (bt + 2 * R) (bN b) := by rw [lN Tx]; omega
    rw [if_neg hge] at d1 d2;refine dR (aa (cF (ar (bA (ai (al (mI ?_)))))));refine dT (aI (aA (ai ?_)));have hrep : List.replicate (i + 1) 0 ++ bK 2 (xs.length - (i + 1)) (bN a / 2 ^ (i + 1) / bN b) = List.replicate i 0 ++ bK 2 (xs.length - i) (bN a / 2 ^ i / bN b) := by
     rw [hqk, d2, List.replicate_succ', List.append_assoc]; rfl
    rw [hrep] at hh;replace hh := hh.sub (.cons_cons _ (.cons _ (List.Sublist.refl _)));exact Nk
theorem nL {n : Nat} : bC n = 0 ↔ n = 0 := by
 constructor
 ·intro h;have := dk n;rw [h] at this;omega
 ·intro h; rw [h]; exact kZ
theorem nw {a b : Nat} (h : a ≤ b) : bC a ≤ bC b := dv (Nat.lt_of_le_of_lt h (dk b))
theorem Ka (a b : Nat) : bC (a + b) ≤ bC a + bC b + 1 := by
 apply dv;have h1 := dk a;have h2 := dk b;have h3 : 2 ^ bC a ≤ 2 ^ (bC a + bC b) := Nat.pow_le_pow_right Tx Tx;have h4 : 2 ^ bC b ≤ 2 ^ (bC a + bC b) := Nat.pow_le_pow_right Tx Tx;rw [Nat.pow_succ];omega
theorem dz (s : Bool) (m : ByteArray) (w : World) (hm : m.size ≤ 1000000000) :
  Calls Tryz.prog 209 #[.agg #[.bool s, .string m]] w fun e w' => e = .returned (.agg #[.bool (iN (iv s m)), .string (iM (iv s m))]) ∧ Below w.heap.size w w' := by
 have hh := Hp.start w;have h1 := jk m;rw [Nm, E4]
 cases s with
 | false =>
  refine aj (N := 16) (l := [.agg #[.bool false, .string m]]) Tryz.func209 rfl rfl (by simp) ?_;refine sr ?_;refine cx hh [_,_] ?_;intro b1 w1 hh;refine bR hh ?_;intro b2 w2 hh;refine aa (sr (bD ?_));refine bB hh 1 ?_;refine aE (eM m _ hm) ak.out rfl Ty ?_;rintro e_ w6 ⟨A6, c6, rfl, hown_, hb_⟩;refine ⟨_, rfl, ?_⟩;replace hh := hh.aV (x := .row _ _ _ _ _ _) hb_ hown_;refine HD ?_;intro w7 hh;rw [iA];refine aS (aa (sr (bD ?_)));refine bB hh 2 ?_;refine mB ?_;refine gS (gS ?_);refine dK ?_;refine mS ?_;refine gj [_,_] ?_;exact Ia
 | true =>
  by_cases h0 : sN (bN m) = ByteArray.mk #[]
  ·refine aj (N := 16) (l := [.agg #[.bool true, .string m]]) Tryz.func209 rfl rfl (by simp) ?_;refine sr ?_;refine cx hh [_,_] ?_;intro b1 w1 hh;refine bR hh ?_;intro b2 w2 hh;refine aa (sr (bD ?_));refine bB hh 1 ?_;refine aE (eM m _ hm) ak.out rfl Ty ?_;rintro e_ w6 ⟨A6, c6, rfl, hown_, hb_⟩;refine ⟨_, rfl, ?_⟩;replace hh := hh.aV (x := .row _ _ _ _ _ _) hb_ hown_;refine HD ?_;intro w7 hh;rw [iA];refine aS (aa (sr (bD ?_)));refine bB hh 2 ?_;refine mB (gT (mS (gT ?_)))
   (first | refine j7 rfl rfl (by first | rfl | assumption | decide) Ty ?_ | refine kn rfl rfl (by first | assumption | decide) Ty ?_)
   refine fu ?_;refine mS ?_;refine gj [_,_] ?_;refine bW hh 1 [_,_] ?_;intro ws hh;replace hh : Hp _ (_ :: .blk _ _ [_, _] _ :: _) _ := hh;refine aa (av ?_);refine AZ ?_;exact QC
  ·refine aj (N := 16) (l := [.agg #[.bool true, .string m]]) Tryz.func209 rfl rfl (by simp) ?_;refine sr ?_;refine cx hh [_,_] ?_;intro b1 w1 hh;refine bR hh ?_;intro b2 w2 hh;refine aa (sr (bD ?_));refine bB hh 1 ?_;refine aE (eM m _ hm) ak.out rfl Ty ?_;rintro e_ w6 ⟨A6, c6, rfl, hown_, hb_⟩;refine ⟨_, rfl, ?_⟩;replace hh := hh.aV (x := .row _ _ _ _ _ _) hb_ hown_;refine HD ?_;intro w7 hh;rw [iA];refine aS (aa (sr (bD ?_)));refine bB hh 2 ?_;refine mB (gT (mS (gT ?_)))
   (first | refine j7 rfl rfl (by first | rfl | assumption | decide) Ty ?_ | refine kn rfl rfl (by first | assumption | decide) Ty ?_)
   refine fu ?_;refine mS ?_;refine gj [_,_] ?_;refine bW hh 1 [_,_] ?_;intro ws hh;replace hh : Hp _ (_ :: .blk _ _ [_, _] _ :: _) _ := hh;refine aa (av ?_);refine AZ ?_;exact Nu
theorem kp (s : Bool) (m : ByteArray) (w : World) (hm : m.size ≤ 1000000000) :
  Calls Tryz.prog 212 #[.agg #[.bool s, .string m]] w fun e w' => e = .returned (.int .i64 (iv s m).sign) ∧ Below w.heap.size w w' := by
 have hh := Hp.start w;by_cases h0 : bN m = 0
 ·have hb : bC (bN m) = 0 := nL.2 h0;refine aj (N := 9) (l := [.agg #[.bool s, .string m]]) Tryz.func212 rfl rfl (by simp) ?_;refine sr ?_;refine cx hh [_,_] ?_;intro b1 w1 hh;refine aI (aa (ah (sr (bD ?_))));refine bB hh 0 ?_;refine bz hh (nX m _ hm) rfl ?_;intro w5 hh;refine Dt ?_;refine cX ?_;have hz : iv s m = 0 := by unfold iv; split <;> omega
  exact ⟨by rw [hz]; rfl, hh.below⟩
 ·have hb : bC (bN m) ≠ 0 := fun h => h0 (nL.1 h)
  cases s with
  | true =>
   refine aj (N := 9) (l := [.agg #[.bool true, .string m]]) Tryz.func212 rfl rfl (by simp) ?_;refine sr ?_;refine cx hh [_,_] ?_;intro b1 w1 hh;refine aI (aa (ah (sr (bD ?_))));refine bB hh 0 ?_;refine bz hh (nX m _ hm) rfl ?_;intro w5 hh;refine cW (aa (cF (ar (ai (ah (sr (bD ?_)))))));refine bB hh 0 ?_;refine Ay ?_;refine cX ?_;have hz : iv true m < 0 := by unfold iv; rw [if_pos rfl]; omega
   exact ⟨by rw [Int.sign_eq_neg_one_of_neg hz], hh.below⟩
  | false =>
   refine aj (N := 9) (l := [.agg #[.bool false, .string m]]) Tryz.func212 rfl rfl (by simp) ?_;refine sr ?_;refine cx hh [_,_] ?_;intro b1 w1 hh;refine aI (aa (ah (sr (bD ?_))));refine bB hh 0 ?_;refine bz hh (nX m _ hm) rfl ?_;intro w5 hh;refine cW (aa (cF (ar (ai (ah (sr (bD ?_)))))));refine bB hh 0 ?_;refine Ex ?_;refine cX ?_;have hz : 0 < iv false m := by unfold iv; rw [if_neg (by simp)]; omega
   exact ⟨by rw [Int.sign_eq_one_of_pos hz], hh.below⟩
theorem qO (n : Int) (w : World) (h1 : -9223372036854775808 ≤ n) (h2 : n ≤ 9223372036854775807) :
  Calls Tryz.prog 170 #[.int .i64 n] w fun e w' => e = .returned (.agg #[.bool (iN n), .string (iM n)]) ∧ Below w.heap.size w w' := by
 have hh := Hp.start w;by_cases h0 : n < 0
 ·have hn : iN n = true := decide_eq_true h0;obtain ⟨m, hm⟩ := Int.eq_ofNat_of_zero_le (by omega : 0 ≤ -(n + 1));have ha : n.natAbs = m + 1 := Tx;have hw : (m + 1) % 18446744073709551616 = m + 1 := Nat.mod_eq_of_lt Tx;refine aj (N := 16) (l := [.int .i64 n]) Tryz.func170 rfl rfl (by simp) ?_;refine sr ?_;refine bR hh ?_;intro b2 w2 hh;refine aa (ah (sr (mI ?_)));refine bf (aa (cT (sr (mI ?_))));refine bh ?_;refine yD rfl Tx Tx Ty ?_;rw [show -(n + 1) = (m : Int) from hm];refine l8 ?_;refine ix (b := 1) rfl rfl Ty ?_;rw [hw];refine bz hh (vz (m + 1) _ Tx) rfl ?_;intro w10 hh;rw [← ha];refine gj [_,_] ?_;refine bW hh 0 [_,_] ?_;intro ws hh;replace hh : Hp _ (.blk _ _ [_, _] _ :: _) _ := hh;refine aa (av (aG ?_));refine pD ?_;rw [hn];exact ⟨rfl, hh.below⟩
 ·obtain ⟨m, rfl⟩ := Int.eq_ofNat_of_zero_le (by omega : 0 ≤ n);have hn : iN (m : Int) = false := decide_eq_false Tx;have hm : m < 18446744073709551616 := Tx;have e1 : iM (m : Int) = sN m := rfl;refine aj (N := 16) (l := [.int .i64 (m : Int)]) Tryz.func170 rfl rfl (by simp) ?_;refine sr ?_;refine bR hh ?_;intro b2 w2 hh;refine aa (ah (sr (mI ?_)));refine bf (aa (cF (ar (ai (sr (mI ?_))))));refine l8 ?_;refine bz hh (vz m _ hm) rfl ?_;intro w14 hh;refine gj [_,_] ?_;refine bW hh 0 [_,_] ?_;intro ws hh;replace hh : Hp _ (.blk _ _ [_, _] _ :: _) _ := hh;refine aa (av ?_);refine pD ?_;rw [hn, e1];exact ⟨rfl, hh.below⟩
theorem rG (s t : Bool) (a b : ByteArray) (w : World) (ha : a.size ≤ 100000000) (hb : b.size ≤ 100000000) :
  Calls Tryz.prog 182 #[.agg #[.bool s, .string a], .agg #[.bool t, .string b]] w fun e w' => e = .returned (.agg #[.bool (iN (iv s a + iv t b)), .string (iM (iv s a + iv t b))]) ∧ Below w.heap.size w w' := by
 have hh := Hp.start w;have hba := gI a;have hbb := gI b;by_cases hst : s = t
 ·subst hst;have e1 : iv s (sN (bN a + bN b)) = iv s a + iv s b := by unfold iv; rw [eR]; split <;> omega
  have hsz : (sN (bN a + bN b)).size ≤ 1000000000 := by rw [lr]; have := Ka (bN a) (bN b); omega
  rw [← e1];refine aj (N := 49) (l := [.agg #[.bool s, .string a], .agg #[.bool s, .string b]]) Tryz.func182 rfl rfl (by simp) ?_;refine sr ?_;refine cx hh [_,_] ?_;intro b2 w2 hh;refine cx hh [_,_] ?_;intro b3 w3 hh;refine bR hh ?_;intro b4 w4 hh;refine aa (ah (sr (bD ?_)));refine bB hh 2 ?_;refine bD ?_;refine bB hh 1 ?_;refine EK bg.out rfl rfl (by first | rfl | assumption) Ty ?_;refine aa (cT (ah ?_));refine aY 8 [[(2, none)], [(12, some 0)], [(2, none)], [(14, some 2)], [(3, none)], [(16, some 4)], [(15, some 3), (17, some 5)], [(18, some 6)]] [(7, 19), (6, 18), (5, 17), (4, 16), (3, 15), (2, 14), (1, 13), (0, 12)] hh mixed Tz ?_;refine dV ?_;refine fJ 2 ?_;refine dV ?_;refine fJ 2 ?_;refine dV ?_;refine fJ 1 ?_;refine sC [_,_] ?_;refine aR (i := 7) (Is (.string (sN (bN a + bN b)))) Is.ext ?_ ?_
  ·intro ρ1 w1 hj hR;obtain ⟨A18, c18, h18, s18⟩ := hR.1;exact a8 rfl (aM ak.out (aw h18 aX)) (Cy A18 2 c18 [a, b] _ s18 Tx (by simp; omega)) (fun _ _ hq => ⟨_, hq.1, hq.2, rfl⟩)
  refine aT ?_;intro f W hJ hV;have hb_2 := hJ.bl;obtain ⟨v19, v18, v17, v16, v15, v14, v13, v12, _⟩ := hV;obtain ⟨A18, c18, e18, f18⟩ : Rows _ _ _ (f 6) W := v18;replace hh := hJ.hp;refine a6 (bm (ae v19 (ae e18 (ae v17 (ae v16 (ae v15 (ae v14 (ae v13 (ae v12 a0))))))))) ?_;dsimp only [cg];clear e18 hJ;refine gj [_,_] ?_;refine bz hh (dz s (sN (bN a + bN b)) _ hsz) rfl ?_;intro w21 hh;exact DL
 ·by_cases hle : bN b ≤ bN a
  ·have e1 : iv s (sN (bN a - bN b)) = iv s a + iv t b := by unfold iv; rw [eR]; cases s <;> cases t <;> simp at hst ⊢ <;> omega
   have hsz : (sN (bN a - bN b)).size ≤ 1000000000 := by rw [lr]; have := nw (show bN a - bN b ≤ bN a by omega); omega
   rw [← e1];refine aj (N := 49) (l := [.agg #[.bool s, .string a], .agg #[.bool t, .string b]]) Tryz.func182 rfl rfl (by simp) ?_;refine sr ?_;refine cx hh [_,_] ?_;intro b2 w2 hh;refine cx hh [_,_] ?_;intro b3 w3 hh;refine bR hh ?_;intro b4 w4 hh;refine aa (ah (sr (bD ?_)));refine bB hh 2 ?_;refine bD ?_;refine bB hh 1 ?_;refine Fj ?_;refine vx ?_;refine bB hh 2 ?_;refine bD ?_;refine bB hh 1 ?_;refine bz hh (oK a b _ Tx Tx) rfl ?_;intro w27 hh;rw [decide_eq_true hle];refine mT ?_;refine dq ?_;refine dq ?_;refine aS (aB (aa (ah (sr (mB (aa (cT (sr (bD ?_)))))))));refine bB hh 2 ?_;refine mS ?_;refine gj [_,_] ?_;refine bz hh (dz s (sN (bN a - bN b)) _ hsz) rfl ?_;intro w35 hh;exact DL
  ·have e1 : iv t (sN (bN b - bN a)) = iv s a + iv t b := by unfold iv; rw [eR]; cases s <;> cases t <;> simp at hst ⊢ <;> omega
   have hsz : (sN (bN b - bN a)).size ≤ 1000000000 := by rw [lr]; have := nw (show bN b - bN a ≤ bN b by omega); omega
   rw [← e1];refine aj (N := 49) (l := [.agg #[.bool s, .string a], .agg #[.bool t, .string b]]) Tryz.func182 rfl rfl (by simp) ?_;refine sr ?_;refine cx hh [_,_] ?_;intro b2 w2 hh;refine cx hh [_,_] ?_;intro b3 w3 hh;refine bR hh ?_;intro b4 w4 hh;refine aa (ah (sr (bD ?_)));refine bB hh 2 ?_;refine bD ?_;refine bB hh 1 ?_;refine Fj ?_;refine vx ?_;refine bB hh 2 ?_;refine bD ?_;refine bB hh 1 ?_;refine bz hh (oK a b _ Tx Tx) rfl ?_;intro w27 hh;rw [decide_eq_false hle];refine mT ?_;refine dq ?_;refine dq ?_;refine aS (aB (aa (ah (sr (mB (aa (cF (ar (ai (sr (bD ?_)))))))))));refine bB hh 1 ?_;refine bD ?_;refine bB hh 2 ?_;refine bz hh (oK b a _ Tx Tx) rfl ?_;intro w41 hh;refine mT ?_;refine dq ?_;refine dq ?_;refine aS (aa (sr (bD ?_)));refine bB hh 1 ?_;refine mS ?_;refine gj [_,_] ?_;refine bz hh (dz t (sN (bN b - bN a)) _ hsz) rfl ?_;intro w48 hh;exact Ob
theorem nV (z : Int) (B : Nat) (q r : Int) (h : r + B * q = z) (h0 : 0 ≤ r) (h1 : r < B) : z / B = q ∧ z % B = r :=
 (Int.ediv_emod_unique Tx).2 ⟨h, h0, h1⟩
theorem Cc (s : Bool) (a b : ByteArray) (w : World) (ha : a.size ≤ 10000000) (hb : b.size ≤ 10000000) (hb0 : bN b ≠ 0) :
  Calls Tryz.prog 210 #[.agg #[.bool s, .string a], .agg #[.bool false, .string b]] w fun e w' => e = .returned (.tuple #[.agg #[.bool (iN (iv s a / bN b)), .string (iM (iv s a / bN b))], .agg #[.bool (iN (iv s a % bN b)), .string (iM (iv s a % bN b))], .bool true]) ∧ Below w.heap.size w w' := by
 have hh := Hp.start w;have hba := gI a;have hbb := gI b;have hmod : bN a % bN b < bN b := Nat.mod_lt _ Tx;have hdm : bN b * (bN a / bN b) + bN a % bN b = bN a := Nat.div_add_mod _ _;have hdm' : (bN b : Int) * ((bN a / bN b : Nat) : Int) + ((bN a % bN b : Nat) : Int) = (bN a : Int) := by rw [← Int.natCast_mul, ← Int.natCast_add, hdm]
 have hqs : (sN (bN a / bN b)).size ≤ 10000000 := by rw [lr]; have := nw (Nat.div_le_self (bN a) (bN b)); omega
 have hrs : (sN (bN a % bN b)).size ≤ 10000000 := by rw [lr]; have := nw (show bN a % bN b ≤ bN b by omega); omega
 have hqz : ∀ u, (iM (iv u (sN (bN a / bN b)))).size ≤ 10000000 := fun u => by rw [E4, eR]; exact hqs
 have hrz : ∀ u, (iM (iv u (sN (bN a % bN b)))).size ≤ 10000000 := fun u => by rw [E4, eR]; exact hrs
 by_cases hneg : s = true ∧ bN a % bN b ≠ 0
 ·obtain ⟨rfl, hne⟩ := hneg;have e1 : iv true (sN (bN a / bN b)) = -((bN a / bN b : Nat) : Int) := by unfold iv; rw [eR, if_pos rfl]
  have e2 : iv true (sN (bN a % bN b)) = -((bN a % bN b : Nat) : Int) := by unfold iv; rw [eR, if_pos rfl]
  have hlt : (iv true (sN (bN a % bN b))).sign < 0 := by rw [e2, Int.sign_eq_neg_one_of_neg Tx]; omega
  have e3 : iv true a = -(bN a : Int) := by unfold iv; rw [if_pos rfl]
  obtain ⟨q1, q2⟩ := nV (iv true a) (bN b) (-((bN a / bN b : Nat) : Int) + -1) ((bN b : Int) - ((bN a % bN b : Nat) : Int)) (by rw [e3, ← hdm', Int.mul_add, Int.mul_neg]; omega) Tx Tx;have e4 : iv false b = (bN b : Int) := by unfold iv; rw [if_neg (by simp)]
  have hp2 : (bN b : Int).sign = 1 := Int.sign_eq_one_of_pos Tx;refine aj (N := 57) (l := [.agg #[.bool true, .string a], .agg #[.bool false, .string b]]) Tryz.func210 rfl rfl (by simp) ?_;refine sr ?_;refine cx hh [_,_] ?_;intro b2 w2 hh;refine cx hh [_,_] ?_;intro b3 w3 hh;refine bR hh ?_;intro b4 w4 hh;refine bR hh ?_;intro b5 w5 hh;refine aB (aa (sr (bD ?_)));refine bB hh 3 ?_;refine bD ?_;refine bB hh 2 ?_;refine bz hh (od a b _ Tx Tx hb0) rfl ?_;intro w18 hh;refine mT ?_;refine dq ?_;refine dq ?_;refine dq ?_;refine aS (aS (aB (aa (ah (sr (mB ?_))))));refine gC ?_;refine vx ?_;refine bB hh 3 ?_;refine bD ?_;refine bB hh 2 ?_;refine DJ bg.out rfl rfl (by first | assumption | decide) Ty ?_;refine mS ?_;refine gj [_,_] ?_;refine bz hh (dz true (sN (bN a / bN b)) _ Tx) rfl ?_;intro w33 hh;refine bR hh ?_;intro b10 w10 hh;refine bW hh 0 [_,_] ?_;intro ws hh;replace hh : Hp _ (.blk _ _ [_, _] _ :: _) _ := hh;refine aa (sr (bD ?_));refine bB hh 4 ?_;refine mS ?_;refine gj [_,_] ?_;refine bz hh (dz true (sN (bN a % bN b)) _ Tx) rfl ?_;intro w38 hh;refine bR hh ?_;intro b11 w11 hh;refine bW hh 0 [_,_] ?_;intro ws hh;replace hh : Hp _ (.blk _ _ [_, _] _ :: _) _ := hh
  refine aa (ah (sr ?_));refine cD hh 0 [_,_] ?_;refine bz hh (kp (iN (iv true (sN (bN a % bN b)))) (iM (iv true (sN (bN a % bN b)))) _ (by have := hrz true; omega)) rfl ?_;intro w40 hh;rw [e9];refine bf (aa (cT (sr ?_)));refine cD hh 0 [_,_] (bD ?_);refine bB hh 4 ?_;refine gj [_,_] ?_;refine bz hh (rG (iN (iv true (sN (bN a % bN b)))) false (iM (iv true (sN (bN a % bN b)))) b _ (by have := hrz true; omega) Tx) rfl ?_;intro w46 hh;rw [e9, e2, e4, show -((bN a % bN b : Nat) : Int) + (bN b : Int) = (bN b : Int) - ((bN a % bN b : Nat) : Int) by omega, ← q2];refine bW hh 0 [_,_] ?_;intro ws hh;replace hh : Hp _ (.blk _ _ [_, _] _ :: _) _ := hh;refine aa (sr ?_);refine bz hh (qO (-1) _ Tx Tx) rfl ?_;intro w47 hh;refine bR hh ?_;intro b12 w12 hh;refine bW hh 0 [_,_] ?_;intro ws hh;replace hh : Hp _ (.blk _ _ [_, _] _ :: _) _ := hh;refine aa (ah (sr ?_));refine cD hh 5 [_,_] ?_;refine bz hh (kp false b _ Tx) rfl ?_;intro w49 hh;rw [e4, hp2];refine bf (aa (cF (ar (ai (al ?_)))));refine cD hh 2 [_,_] ?_;refine cD hh 0 [_,_] ?_;refine bz hh (rG (iN (iv true (sN (bN a / bN b)))) (iN (-1)) (iM (iv true (sN (bN a / bN b)))) (iM (-1)) _ (by have := hqz true; omega) Ty) rfl ?_;intro w54 hh
  rw [e9, e9, e1, ← q1];refine bW hh 2 [_,_] ?_;intro ws hh;replace hh : Hp _ (_ :: _ :: .blk _ _ [_, _] _ :: _) _ := hh;refine aa (ah ?_);refine p5 hh mixed fun w_ hj_ => ?_;replace hh := hj_.hp;clear hj_;refine sS (i := 0) (i2 := 1) Tz rfl rfl ?_ ?_
  ·refine cD hh 2 [_,_] ?_;refine fa ?_;refine sS (i := 1) (i2 := 2) Tz rfl rfl ?_ ?_
   ·refine cD hh 1 [_,_] ?_;exact MA
   ·refine bW hh 4 [_,_] ?_;intro ws hh;replace hh : Hp _ (_ :: _ :: _ :: _ :: .blk _ _ [_, _] _ :: _) _ := hh;refine fa ?_;refine fK (i := 1) Tz rfl ?_;refine cD hh 1 [_,_] ?_;exact Qt
  ·refine cD hh 1 [_,_] ?_;refine fa ?_;refine fK (i := 0) Tz rfl ?_;refine cD hh 2 [_,_] ?_;exact MA
 ·have e4 : iv s a / bN b = iv s (sN (bN a / bN b)) ∧ iv s a % bN b = iv s (sN (bN a % bN b)) := by
   cases s with
   | false =>
    have f0 : ∀ x, iv false x = (bN x : Int) := fun x => by unfold iv; rw [if_neg (by simp)]
    rw [f0, f0, f0, eR, eR];exact nV _ _ _ _ Tx Tx Tx
   | true =>
    have r0 : bN a % bN b = 0 := by
     rcases Nat.eq_zero_or_pos (bN a % bN b) with h | h
     ·exact h
     ·exact absurd ⟨rfl, Tx⟩ hneg
    have f0 : ∀ x, iv true x = -(bN x : Int) := fun x => by unfold iv; rw [if_pos rfl]
    rw [f0, f0, f0, eR, eR, r0];rw [r0] at hdm';exact nV _ _ _ _ (by rw [Int.mul_neg]; omega) Tx Tx
  have h5 : ¬ (iv s (sN (bN a % bN b))).sign < 0 := by
   have h6 : 0 ≤ iv s (sN (bN a % bN b)) := by rw [← e4.2]; exact Int.emod_nonneg _ Tx
   have := Int.sign_nonneg_iff.2 h6;omega
  rw [e4.1, e4.2]
  cases s with
  | false =>
   refine aj (N := 57) (l := [.agg #[.bool false, .string a], .agg #[.bool false, .string b]]) Tryz.func210 rfl rfl (by simp) ?_;refine sr ?_;refine cx hh [_,_] ?_;intro b2 w2 hh;refine cx hh [_,_] ?_;intro b3 w3 hh;refine bR hh ?_;intro b4 w4 hh;refine bR hh ?_;intro b5 w5 hh;refine aB (aa (sr (bD ?_)));refine bB hh 3 ?_;refine bD ?_;refine bB hh 2 ?_;refine bz hh (od a b _ Tx Tx hb0) rfl ?_;intro w18 hh;refine mT ?_;refine dq ?_;refine dq ?_;refine dq ?_;refine aS (aS (aB (aa (ah (sr (mB ?_))))));refine gC ?_;refine vx ?_;refine bB hh 3 ?_;refine bD ?_;refine bB hh 2 ?_;refine Mn bg.out rfl rfl (by first | rfl | assumption) Ty ?_;refine mS ?_;refine gj [_,_] ?_;refine bz hh (dz false (sN (bN a / bN b)) _ Tx) rfl ?_;intro w33 hh;refine bR hh ?_;intro b10 w10 hh;refine bW hh 0 [_,_] ?_;intro ws hh;replace hh : Hp _ (.blk _ _ [_, _] _ :: _) _ := hh;refine aa (sr (bD ?_));refine bB hh 4 ?_;refine mS ?_;refine gj [_,_] ?_;refine bz hh (dz false (sN (bN a % bN b)) _ Tx) rfl ?_;intro w38 hh;refine bR hh ?_;intro b11 w11 hh;refine bW hh 0 [_,_] ?_;intro ws hh;replace hh : Hp _ (.blk _ _ [_, _] _ :: _) _ := hh;refine aa (ah (sr ?_));refine cD hh 0 [_,_] ?_
   refine bz hh (kp (iN (iv false (sN (bN a % bN b)))) (iM (iv false (sN (bN a % bN b)))) _ (by have := hrz false; omega)) rfl ?_;exact Sx
  | true =>
   refine aj (N := 57) (l := [.agg #[.bool true, .string a], .agg #[.bool false, .string b]]) Tryz.func210 rfl rfl (by simp) ?_;refine sr ?_;refine cx hh [_,_] ?_;intro b2 w2 hh;refine cx hh [_,_] ?_;intro b3 w3 hh;refine bR hh ?_;intro b4 w4 hh;refine bR hh ?_;intro b5 w5 hh;refine aB (aa (sr (bD ?_)));refine bB hh 3 ?_;refine bD ?_;refine bB hh 2 ?_;refine bz hh (od a b _ Tx Tx hb0) rfl ?_;intro w18 hh;refine mT ?_;refine dq ?_;refine dq ?_;refine dq ?_;refine aS (aS (aB (aa (ah (sr (mB ?_))))));refine gC ?_;refine vx ?_;refine bB hh 3 ?_;refine bD ?_;refine bB hh 2 ?_;refine DJ bg.out rfl rfl (by first | assumption | decide) Ty ?_;refine mS ?_;refine gj [_,_] ?_;refine bz hh (dz true (sN (bN a / bN b)) _ Tx) rfl ?_;intro w33 hh;refine bR hh ?_;intro b10 w10 hh;refine bW hh 0 [_,_] ?_;intro ws hh;replace hh : Hp _ (.blk _ _ [_, _] _ :: _) _ := hh;refine aa (sr (bD ?_));refine bB hh 4 ?_;refine mS ?_;refine gj [_,_] ?_;refine bz hh (dz true (sN (bN a % bN b)) _ Tx) rfl ?_;intro w38 hh;refine bR hh ?_;intro b11 w11 hh;refine bW hh 0 [_,_] ?_;intro ws hh;replace hh : Hp _ (.blk _ _ [_, _] _ :: _) _ := hh;refine aa (ah (sr ?_));refine cD hh 0 [_,_] ?_
   refine bz hh (kp (iN (iv true (sN (bN a % bN b)))) (iM (iv true (sN (bN a % bN b)))) _ (by have := hrz true; omega)) rfl ?_;exact Sx
theorem Dw {n : Nat} (h : n ≠ 0) : sb n = sb (n / 256) ++ [UInt8.ofNat (n % 256)] := by
 rw [sb, GO Tx h, List.map_cons, List.reverse_cons]
 rfl
theorem Fm {n : Nat} (h : n ≠ 0) : 1 ≤ (sN n).size ∧ ∃ c : UInt8, (sN n).data.toList[(((sN n).size : Int) - 1).toNat]? = some c ∧ c.toNat = n % 256 := by
 have hl : (sN n).data.toList = sb (n / 256) ++ [UInt8.ofNat (n % 256)] := by rw [sN, dt, Dw h]
 have hs : (sN n).size = (sb (n / 256)).length + 1 := by rw [dA, hl, List.length_append]; rfl
 refine ⟨Tx, UInt8.ofNat (n % 256), ?_, ?_⟩
 ·rw [hl, hs, List.getElem?_append_right Tx];have : (((sb (n / 256)).length + 1 : Nat) - 1 : Int).toNat - (sb (n / 256)).length = 0 := Tx;rw [this]
  rfl
 ·simp
theorem PV {n : Nat} (h : n ≠ 0) : (sN n).extract 0 ((sN n).size - 1) = sN (n / 256) := by
 have hl : (sN n).data = (sb (n / 256) ++ [UInt8.ofNat (n % 256)]).toArray := by rw [sN, ← Dw h]; rfl
 have hs : (sN n).size = (sb (n / 256)).length + 1 := by rw [dA, hl, List.length_append]; rfl
 apply ByteArray.ext;rw [ByteArray.data_extract, hl, hs];show _ = (sb (n / 256)).toArray;simp
theorem ON {k : Int} (h : 0 < k) (y : Int) : iN (y * k) = iN y := by
 unfold iN;rw [decide_eq_decide];constructor
 ·intro h1
  rcases Int.lt_trichotomy y 0 with h2 | h2 | h2
  ·exact h2
  ·rw [h2] at h1; simp at h1
  ·have := Int.mul_pos h2 h; omega
 ·intro h1;exact Int.mul_neg_of_neg_of_pos h1 h
theorem O4 {n : Nat} (h : n % 2 = 1) : tz n = 0 := by
 have := DP 0 (n / 2);rwa [show 2 ^ 0 * (2 * (n / 2) + 1) = n by omega] at this
theorem Iz {y z e : Int} {j : Nat} (hy : y.natAbs % 2 = 1) (hz : y * 2 ^ j = z) : nR (Dyadic.ofIntWithPrec z (-e)) = ⟨iN y, iM y, e + j⟩ := by
 have h1 := qF (s := iN y) (a := iM y) (e := e + j) (by rw [e9]; omega);rw [e9, iM, eR, O4 hy] at h1;have h2 := qH y (-(e + j)) j;rw [hz, show -(e + (j : Int)) + j = -e by omega] at h2;rw [h2, h1];simp
theorem sH {y z : Int} {j m : Nat} (hy : y ≠ 0) (hz : y * 2 ^ j = z) (hm : z.natAbs < 2 ^ m) : j < m := by
 have h1 : z.natAbs = y.natAbs * 2 ^ j := by rw [← hz, Int.natAbs_mul, Int.natAbs_pow]; rfl
 have h2 : 1 * 2 ^ j ≤ y.natAbs * 2 ^ j := Nat.mul_le_mul_right _ Tx;have h3 : 2 ^ j < 2 ^ m := Tx;exact (Nat.pow_lt_pow_iff_right Tx).1 h3
theorem rl (s : Bool) (a : ByteArray) (e : Int) (w : World) (ha : a.size ≤ 10000000) (h1 : -1000000000000 ≤ e) (h2 : e ≤ 1000000000000) :
  Calls Tryz.prog 169 #[.agg #[.bool s, .string a], .int .i64 e] w fun r w' => r = .returned (.agg #[.bool (nR (Dyadic.ofIntWithPrec (iv s a) (-e))).neg, .string (nR (Dyadic.ofIntWithPrec (iv s a) (-e))).bo, .int .i64 (nR (Dyadic.ofIntWithPrec (iv s a) (-e))).e]) ∧ Below w.heap.size w w' := by
 have hh := Hp.start w;by_cases h0 : iv s a = 0
 ·have hm := r7.2 h0;rw [h0] at hm;refine aj (N := 50) (l := [.agg #[.bool s, .string a], .int .i64 e]) Tryz.func169 rfl rfl (by simp) ?_;refine sr ?_;refine cx hh [_,_] ?_;intro b2 w2 hh;refine bR hh ?_;intro b4 w4 hh;refine aa (sr ?_);refine cD hh 1 [_,_] ?_;refine bz hh (dz s a _ Tx) rfl ?_;intro w6 hh;rw [h0];refine bW hh 1 [_,_] ?_;intro ws hh;replace hh : Hp _ (_ :: .blk _ _ [_, _] _ :: _) _ := hh;refine aa (ah (sr (bD ?_)));refine bB hh 1 ?_;refine j5 rfl rfl (by first | rfl | assumption | decide) Ty ?_;refine aa (cT (sr ?_));refine gj [_,_,_] ?_;refine bW hh 0 [_,_,_] ?_;intro ws hh;replace hh : Hp _ (.blk _ _ [_, _, _] _ :: _) _ := hh;refine aa (av (aG ?_));refine Iw ?_;rw [kG, lF];exact ⟨rfl, hh.below⟩
 ·have hm : ¬ iM (iv s a) = ByteArray.mk #[] := fun h => h0 (r7.1 h);have hzb : (iv s a).natAbs < 2 ^ (8 * a.size) := by
   rw [jT, Nat.pow_mul];exact vG a
  refine aj (N := 50) (l := [.agg #[.bool s, .string a], .int .i64 e]) Tryz.func169 rfl rfl (by simp) ?_;refine sr ?_;refine cx hh [_,_] ?_;intro b2 w2 hh;refine bR hh ?_;intro b4 w4 hh;refine aa (sr ?_);refine cD hh 1 [_,_] ?_;refine bz hh (dz s a _ Tx) rfl ?_;intro w6 hh;refine bW hh 1 [_,_] ?_;intro ws hh;replace hh : Hp _ (_ :: .blk _ _ [_, _] _ :: _) _ := hh;refine aa (ah (sr (bD ?_)));refine bB hh 1 ?_;refine kj rfl rfl (by first | assumption | decide) Ty ?_;refine aa (cF (ar (ai (ah (aq ?_)))));generalize hz : iv s a = z at *;refine aP [1, 11, 12, 13, 14, 15, 16, 17, 18, 19, 20, 21, 22, 23, 24, 25, 26, 27, 28] 1
   (fun v w' => ∃ (y : Int) (j : Nat), y ≠ 0 ∧ y * 2 ^ j = z ∧ v = .int .i64 (e + j) ∧ Hp w [.blk b4 65 [.bool false, .string (ByteArray.mk #[]), .int .i64 0] (0, 0), .blk b2 63 [.bool (iN y), .string (iM y)] (0, 0)] w')
   (fun v _ => (e + 8 * a.size + 1 - intOf v).toNat) ?_ ?_
  ·exact ⟨z, 0, h0, by simp, by show Value.int _ _ = Value.int _ _; congr 1; omega, hh⟩
  ·clear hh;rintro ρ' v w' ⟨y, j, hy, hyz, rfl, hh⟩;have hj := sH hy hyz hzb;obtain ⟨hs1, c, hc, hcn⟩ := Fm (n := y.natAbs) Tx;have hcut := PV (n := y.natAbs) Tx;have hsz : (sN y.natAbs).size ≤ 10000000 := by
    exact QX
   change (iM y).data.toList[(((iM y).size : Int) - 1).toNat]? = some c at hc
   change 1 ≤ (iM y).size at hs1
   change (iM y).extract 0 ((iM y).size - 1) = _ at hcut
   change (iM y).size ≤ _ at hsz
   by_cases hb : y.natAbs % 256 = 0
   ·obtain ⟨x, rfl⟩ : ∃ x, y = x * 256 := ⟨y / 256, Tx⟩;have hx : x ≠ 0 := fun h => hy (by rw [h]; rfl);have e1 : iN (x * 256) = iN x := ON Tx x;have e2 : sN ((x * 256).natAbs / 256) = iM x := by rw [iM]; congr 1; omega
    have hxz : x * 2 ^ (j + 8) = z := by rw [← hyz, Int.pow_add, Int.mul_assoc, Int.mul_comm (2 ^ j)]; rfl
    have hj2 := sH hx hxz hzb;refine ah (sr (bD ?_));refine bB hh 1 ?_;refine bD ?_;refine bB hh 1 ?_;refine bG bg.out rfl Ty ?_;refine dT ?_;refine jG ?_;refine cW (aa (cT (ar (ai (aq (sr (bD ?_)))))));refine bB hh 1 ?_;refine bD ?_;refine bB hh 1 ?_;refine bG bg.out rfl Ty ?_;refine dT ?_;refine rK (l := 0) (h := ((iM (x * 256)).size - 1)) bg.out rfl rfl ⟨_, _, rfl, Tx⟩ Tx Tx Ty ?_;refine bD ?_;refine bW hh 1 [_] ?_;intro ws hh;replace hh : Hp _ (_ :: .blk _ _ [_, _] _ :: _) _ := hh;refine aa (al (mI ?_));refine bh (aI (aA (bA (ai ?_))));rw [hcut, e2, e1] at hh;refine ⟨⟨x, j + 8, hx, hxz, by show Value.int _ _ = Value.int _ _; congr 1; omega, hh⟩, by show (e + 8 * a.size + 1 - (e + j + 8)).toNat < (e + 8 * a.size + 1 - (e + j)).toNat; omega, ?_⟩;exact dL
   ·refine ah (sr (bD ?_));refine bB hh 1 ?_;refine bD ?_;refine bB hh 1 ?_;refine bG bg.out rfl Ty ?_;refine dT ?_;refine jG ?_;refine cW (aa (cF (aZ (aD (aD (bq (ai (ah (aq ?_)))))))));refine aP [1, 29, 30, 31, 32, 33, 34, 35, 36, 37, 38, 39, 40, 41, 42, 43, 44, 45, 46] 1
     (fun v w' => ∃ (y : Int) (j : Nat), y ≠ 0 ∧ y * 2 ^ j = z ∧ v = .int .i64 (e + j) ∧ Hp w [.blk b4 65 [.bool false, .string (ByteArray.mk #[]), .int .i64 0] (0, 0), .blk b2 63 [.bool (iN y), .string (iM y)] (0, 0)] w')
     (fun v _ => (e + 8 * a.size + 1 - intOf v).toNat) ?_ ?_
    ·exact ⟨y, j, hy, hyz, rfl, hh⟩
    ·clear hh hb hcut hcn hc hs1 hsz hj hy hyz;rintro ρ2 v w2 ⟨y, j, hy, hyz, rfl, hh⟩;have hj := sH hy hyz hzb;obtain ⟨hs1, c, hc, hcn⟩ := Fm (n := y.natAbs) Tx;have hsz : (sN y.natAbs).size ≤ 10000000 := by
      exact QX
     change (iM y).data.toList[(((iM y).size : Int) - 1).toNat]? = some c at hc
     change 1 ≤ (iM y).size at hs1
     change (iM y).size ≤ _ at hsz
     by_cases hb : y.natAbs % 2 = 0
     ·obtain ⟨x, rfl⟩ : ∃ x, y = x * 2 := ⟨y / 2, Tx⟩;have hx : x ≠ 0 := fun h => hy (by rw [h]; rfl);have hxz : x * 2 ^ (j + 1) = z := by rw [← hyz, Int.pow_add, Int.mul_assoc, Int.mul_comm (2 ^ j)]; rfl
      have hj2 := sH hx hxz hzb;have hof : ∀ w1, Calls Tryz.prog 170 #[.int .i64 2] w1 fun e w' => e = .returned (.agg #[.bool false, .string (iM 2)]) ∧ Below w1.heap.size w1 w' := fun w1 => qO 2 w1 Tx Tx;have hdv : ∀ w1, Calls Tryz.prog 210 #[.agg #[.bool (iN (x * 2)), .string (iM (x * 2))], .agg #[.bool false, .string (iM 2)]] w1 fun e w' => e = .returned (.tuple #[.agg #[.bool (iN x), .string (iM x)], .agg #[.bool (iN 0), .string (iM 0)], .bool true]) ∧ Below w1.heap.size w1 w' := fun w1 => by
       have h2 : bN (iM 2) = 2 := eR 2;have h3 : (iM 2).size ≤ 10000000 := by rw [dO]; decide
       have := Cc (iN (x * 2)) (iM (x * 2)) (iM 2) w1 hsz h3 Tx;rw [e9, h2, show x * 2 / ((2 : Nat) : Int) = x by omega, show x * 2 % ((2 : Nat) : Int) = 0 by omega] at this;exact this
      refine ah (sr (bD ?_));refine bB hh 1 ?_;refine bD ?_;refine bB hh 1 ?_;refine bG bg.out rfl Ty ?_;refine dT ?_;refine jG ?_;refine B5 (b := 2) rfl rfl Tx Ty ?_;refine cW (aa (cT (ar (ai (aq (ah ?_))))));refine ef [] [5, 6] [0, 0, 3, 7, 15, 15, 15, 31] 7 [[(2, none)], [], [(39, some 0), (40, some 1)], [(41, some 2)], [(38, some 3)], [(38, some 3)], [(38, some 3)]] [(6, 44), (5, 43), (4, 42), (3, 38), (2, 41), (1, 40), (0, 39)] hh mixed Tz e8 rfl (by repeat (first | exact cB | refine bO ?_ | refine cA ?_)) ?_;refine fT 1 [_,_] ?_;refine dC (fun _ hj => hof _) ?_;refine dC (fun _ hj => hdv _) ?_;refine Sq ?_;refine Rb ?_;refine Rb ?_;refine Rb ?_;refine aT ?_;intro f W hJ hV _;have hb_8 := hJ.bl;obtain ⟨v44, v43, v42, v38, v41, v40, v39, _⟩ := hV;replace hh := hJ.hp;refine a6 (bm (ae v44 (ae v43 (ae v42 (ae v38 (ae v41 (ae v40 (ae v39 a0)))))))) ?_;dsimp only [cg];clear hJ;refine bW hh 1 [_,_] ?_;intro ws hh;replace hh : Hp _ (_ :: .blk _ _ [_, _] _ :: _) _ := hh;refine aa (al (mI ?_));refine bh (aI (aA (bA (ai ?_))))
      refine ⟨⟨x, j + 1, hx, hxz, by show Value.int _ _ = Value.int _ _; congr 1; omega, hh⟩, by show (e + 8 * a.size + 1 - (e + j + 1)).toNat < (e + 8 * a.size + 1 - (e + j)).toNat; omega, ?_⟩;exact dL
     ·have hfin := Iz (e := e) (show y.natAbs % 2 = 1 by omega) hyz;refine ah (sr (bD ?_));refine bB hh 1 ?_;refine bD ?_;refine bB hh 1 ?_;refine bG bg.out rfl Ty ?_;refine dT ?_;refine jG ?_;refine B5 (b := 2) rfl rfl Tx Ty ?_;refine cW (aa (cF (aZ (aD (aD (bq (ai (sr ?_))))))));refine cD hh 1 [_,_] (mI ?_);refine gj [_,_,_] ?_;refine bW hh 0 [_,_,_] ?_;intro ws hh;replace hh : Hp _ (.blk _ _ [_, _, _] _ :: _) _ := hh;refine aa (av ?_);refine Iw ?_;rw [hfin];exact ⟨rfl, hh.below⟩
theorem Ii {z e : Int} {x : Dyadic} (w : World) (hx : Dyadic.ofIntWithPrec z (-e) = x) (hz : (iM z).size ≤ 10000000) (h1 : -1000000000000 ≤ e) (h2 : e ≤ 1000000000000) :
  Calls Tryz.prog 169 #[.agg #[.bool (iN z), .string (iM z)], .int .i64 e] w fun r w' => r = .returned (.agg #[.bool (nR x).neg, .string (nR x).bo, .int .i64 (nR x).e]) ∧ Below w.heap.size w w' := by
 have := rl (iN z) (iM z) e w hz h1 h2;rw [e9, hx] at this;exact this
theorem k5 (n : Int) (w : World) (h1 : -9223372036854775808 ≤ n) (h2 : n ≤ 9223372036854775807) :
  Calls Tryz.prog 86 #[.int .i64 n] w fun r w' => r = .returned (.agg #[.bool (nR (n : Dyadic)).neg, .string (nR (n : Dyadic)).bo, .int .i64 (nR (n : Dyadic)).e]) ∧ Below w.heap.size w w' := by
 have hh := Hp.start w;have hsz : (iM n).size ≤ 10000000 := by
  rw [dO];have : bC n.natAbs ≤ 64 := dv Tx;omega
 have hc := fun w1 => Ii (z := n) (e := 0) (x := (n : Dyadic)) w1 rfl hsz Tx Tx;refine aj (N := 6) (l := [.int .i64 n]) Tryz.func86 rfl rfl (by simp) ?_;refine sr ?_;refine bR hh ?_;intro b2 w2 hh;refine aa (sr (mI ?_));refine bz hh (qO n _ h1 h2) rfl ?_;intro w4 hh;refine bz hh (hc _) rfl ?_;intro w5 hh;exact Lr
theorem xF (a : NR) (n : Int) (w : World) (ha : a.bo.size ≤ 10000000) (h1 : -100000000000 ≤ a.e) (h2 : a.e ≤ 100000000000) (h3 : -100000000000 ≤ n) (h4 : n ≤ 100000000000) :
  Calls Tryz.prog 85 #[.agg #[.bool a.neg, .string a.bo, .int .i64 a.e], .int .i64 n] w fun r w' => r = .returned (.agg #[.bool (nR (a.d * pU n)).neg, .string (nR (a.d * pU n)).bo, .int .i64 (nR (a.d * pU n)).e]) ∧ Below w.heap.size w w' := by
 have hh := Hp.start w;have e1 : Dyadic.ofIntWithPrec (iv a.neg a.bo) (-(a.e + n)) = a.d * pU n := by
  rw [Int.neg_add];exact Mo _ _ _
 have hc := fun w1 => rl a.neg a.bo (a.e + n) w1 ha Tx Tx;rw [e1] at hc;refine aj (N := 12) (l := [.agg #[.bool a.neg, .string a.bo, .int .i64 a.e], .int .i64 n]) Tryz.func85 rfl rfl (by simp) ?_;refine sr ?_;refine cx hh [_,_,_] ?_;intro b2 w2 hh;refine bR hh ?_;intro b4 w4 hh;refine aa (sr (bD ?_));refine cD hh 1 [_,_] (bD ?_);refine bB hh 1 ?_;refine mI ?_;refine bh ?_;refine bz hh (hc _) rfl ?_;intro w11 hh;exact Lr
theorem Sz.pow {k : Nat} {x : Dyadic} (h : Sz k x) (n : Nat) : Sz (1 + k * n) (x ^ n) := by
 induction n with
 | zero => rw [Dyadic.pow_zero]; exact Sz.one
 | succ n ih => rw [Dyadic.pow_succ]; exact (ih.mul h).mono (by rw [Nat.mul_succ]; omega)
def D (m e : Int) : Dyadic := Dyadic.ofIntWithPrec m (-e)
theorem KV {m e : Int} (hm : m.natAbs < 256) (h1 : -16 ≤ e) (h2 : e ≤ 16) : Sz 24 (D m e) := by
 have := Sz.raw (a := ⟨iN m, iM m, e⟩) (m := 8) (E := 16) (by show 8 * (iM m).size ≤ 8; rw [dO]; have : bC m.natAbs ≤ 8 := dv hm; omega) h1 h2;rw [NR.d, NR.i, e9] at this;exact this
def Sw (most far : Int) (l : List NR) : Bool := l.any fun a => decide (most < a.bo.size ∨ a.e < -far ∨ far < a.e)
open Go.ChangeShapes Go.WideShapes Go.ChangeAt Go.RowKit Go.ChangeMaps
set_option maxRecDepth 100000 in
theorem ng {H : Type} {enc : TypeId × Value → H} {W : World} {base fuel : Nat} {sp : Nat → Bool} {held : Bool} {cs : List Value} {x : DataW H × List MemPlace} (h : DataW.trod enc Tryz.prog W base sp held fuel 65 cs = some x) :
  ∃ a : NR, cs = a.cells ∧ (Lit.int .i64 a.e).wf = true := by
 have c1 : Tryz.prog.cellsOf 65 = 3 := by kernel_rfl
 have c2 : Tryz.prog.cellsOf 63 = 2 := by kernel_rfl
 have c3 : Tryz.prog.cellsOf 4 = 1 := by kernel_rfl
 have c4 : Tryz.prog.cellsOf 9 = 1 := by kernel_rfl
 have c5 : Tryz.prog.cellsOf 3 = 1 := by kernel_rfl
 obtain ⟨y0, y1, n, _, hl, h0, h1⟩ := trod_struct2 Tryz.underlying65 h;obtain ⟨z0, z1, n2, _, hl2, h00, h01⟩ := trod_struct2 Tryz.underlying63 h0;obtain ⟨b, e0, _⟩ := DataW.trod_bool Tryz.underlying4 h00;obtain ⟨s, e1, _, hs⟩ := DataW.trod_string Tryz.underlying9 h01;obtain ⟨z, e2, _, hz⟩ := DataW.trod_int Tryz.underlying3 h1;rw [c1] at hl
 match cs, hl with
 | [x0, x1, x2], _ =>
  simp only [c2, c3, c4, c5] at e0 e1 e2;simp at e0 e1 e2;subst e0 e1 e2;exact ⟨⟨b, s, z⟩, rfl, hz⟩
set_option maxRecDepth 100000 in
theorem Js {H : Type} {enc : TypeId × Value → H} {W : World} {r : Reach} {base b0 : Nat} {sp : Nat → Bool} {held : Bool} {v : Value} {d : DataW H} {ps : List MemPlace}
  (hval : Value.okWide Tryz.prog W r b0 65 v) (hd : DataW.Trod enc Tryz.prog W base sp held 65 v d ps) : ∃ a : NR, v = .agg #[.bool a.neg, .string a.bo, .int .i64 a.e] ∧ -9223372036854775808 ≤ a.e ∧ a.e ≤ 9223372036854775807 := by
 obtain ⟨cs, rfl, _⟩ := okWide_struct Tryz.underlying65 hval;obtain ⟨fuel, hf⟩ := hd;obtain ⟨a, h1, h2⟩ := ng hf;refine ⟨a, ?_, bounds_i64 h2⟩;have h3 : cs.toList = a.cells := h1;rw [← Array.toList_inj.1 (show cs.toList = (#[.bool a.neg, .string a.bo, .int .i64 a.e] : Array Value).toList from h3)]
theorem AE {W : World} (h : laidMetH Tryz.prog Rows.calcSlopesRow.laid W) : ee W := by
 rw [MakeChecks.laidMetH_plain _ _ _ Tz] at h;obtain ⟨ps, ⟨g, t, cs, fuel, p, q, hg, ht, hv, hd, _, _⟩, _, _⟩ := h;obtain rfl := Option.some.inj ((show Tryz.prog.globalNamed "math/bits.deBruijn64tab" = some 0 by kernel_rfl).symm.trans hg);obtain rfl := Option.some.inj ((show (Tryz.prog.globals[0]?).map (·.type) = some 244 by kernel_rfl).symm.trans ht);obtain ⟨xs, m, _, ex, _, hl, hel⟩ := DataW.trod_array Tryz.underlying244 hd;have c5 : Tryz.prog.cellsOf 5 = 1 := by kernel_rfl
 have e3 : (xs.map (·.1)) = BM.map fun n => .lit (.int .u8 n) := (DataW.agg.inj (Prod.mk.inj ex).1).symm;have hlen : BM.length = 64 := by decide
 intro r u hu;have hr : r < 64 := by
  have := (List.getElem?_eq_some_iff.1 hu).1;rw [cN] at this;omega
 have hE := hel r hr;rw [c5, Nat.mul_one, List.getElem?_eq_getElem Tx] at hE;obtain ⟨z, e1, e2, _⟩ := DataW.trod_int Tryz.underlying5 hE;have e4 : (xs.map (·.1))[r]? = (BM.map fun (n : Nat) => (DataW.lit (.int .u8 n) : DataW Unit))[r]? := by rw [e3]
 rw [List.getElem?_map, List.getElem?_map, List.getElem?_eq_getElem (by omega : r < xs.length), List.getElem?_eq_getElem (by omega : r < BM.length), e2] at e4;have hz : u = .int .u8 z := by
  rw [gl, List.getElem?_map, List.getElem?_eq_getElem (by omega : r < BM.length)] at hu;simp only [Option.map_some, Option.some.injEq, DataW.lit.injEq, Lit.int.injEq, true_and] at e4 hu;rw [← hu, e4]
 rw [eY, Nat.zero_add, World.var?_cell hg hv r, hz];have : cs.toList[r]? = some (.int .u8 z) := by
  have h0 : ((cs.toList.drop r).take 1)[0]? = some (.int .u8 z) := by rw [e1]; rfl
  simpa using h0
 simpa using this
theorem uK {α : Type} {p : Nat → α → Prop} : ∀ (n : Nat), (∀ i, i < n → ∃ a, p i a) → ∃ l : List α, l.length = n ∧ ∀ i a, l[i]? = some a → p i a
 | 0, _ => ⟨[], rfl, fun i a h => by simp at h⟩
 | n + 1, h => by
  obtain ⟨l, h1, h2⟩ := uK n fun i hi => h i Tx;obtain ⟨a, ha⟩ := h n Tx;refine ⟨l ++ [a], by simp [h1], fun i b hb => ?_⟩
  rcases Nat.lt_or_ge i l.length with hi | hi
  ·rw [List.getElem?_append_left hi] at hb;exact h2 i b hb
  ·rw [List.getElem?_append_right hi] at hb;have h3 : i - l.length = 0 := by
    rcases Nat.eq_zero_or_pos (i - l.length) with h | h
    ·exact h
    ·rw [List.getElem?_eq_none (by simp; omega)] at hb; cases hb
   rw [h3] at hb;simp only [List.getElem?_cons_zero, Option.some.injEq] at hb;subst hb;rw [show i = n by omega];exact ha
theorem wq {α : Type} {f : α → List Value} {p : α → Prop} {sz : Nat} {P : Program} {t e : TypeId} {H : Type} {enc : TypeId × Value → H} {W : World} {r : Reach} {base b0 : Nat} {sp : Nat → Bool} {held : Bool} {v : Value} {d : DataW H} {ps : List MemPlace}
  (hf : ∀ x, (f x).length = sz) (h0 : 0 < sz) (ht : P.underlying t = some (.slice e)) (hc : P.cellsOf e = sz) (one : ∀ fuel cs x, DataW.trod enc P W base sp held fuel e cs = some x → ∃ a, cs = f a ∧ p a)
  (hval : Value.okWide P W r b0 t v) (hd : DataW.Trod enc P W base sp held t v d ps) : ∃ (A : Option Addr) (n c : Nat) (l : List α), v = .slice A n c ∧ Sl W A n sz (az f l) ∧ ∀ a ∈ l, p a := by
 obtain ⟨a, len, cap, rfl⟩ := okWide_slice ht hval;obtain ⟨fuel, hfu⟩ := hd
 rcases Go.Deep.open_slice ht hfu with ⟨h1, _⟩ | ⟨ad, n, cp, m, k, D, Pl, h1, _, h2, h3, hm, _, h5⟩
 ·have h1' : [Value.slice a len cap] = [.slice none 0 0] := h1;simp only [List.cons.injEq, Value.slice.injEq, and_true] at h1';obtain ⟨rfl, rfl, rfl⟩ := h1';exact ⟨none, 0, 0, [], rfl, Sl.nil W none sz, fun _ h => by simp at h⟩
 ·have h1' : [Value.slice a len cap] = [.slice (some ad) n cp] := h1;simp only [List.cons.injEq, Value.slice.injEq, and_true] at h1';obtain ⟨rfl, rfl, rfl⟩ := h1';have hnm : len ≤ m := by rw [hm]; split <;> omega
  obtain ⟨l, hl, hp⟩ := uK (p := fun i a => W.cells? base (ad.add (i * sz)) sz = some (f a) ∧ p a) len fun i hi => by
   exact NW
  refine ⟨some ad, len, cap, l, rfl, ⟨by rw [eF hf, hl], fun _ => ⟨ad, rfl, fun j u hu => ?_⟩⟩, fun a ha => ?_⟩
  ·exact Qn
  ·obtain ⟨i, hi⟩ := List.mem_iff_getElem?.1 ha;exact (hp i a hi).2
def IC (z : Int) : List Value := [.int .i64 z]
theorem IC.len (z : Int) : (IC z).length = 1 := rfl
theorem LN (l : List Int) : az IC l = bF l := by
 induction l with
 | nil => rfl
 | cons z l ih => rw [iS, ih]; rfl
set_option maxRecDepth 100000 in
theorem Fu {H : Type} {enc : TypeId × Value → H} {W : World} {base fuel : Nat} {sp : Nat → Bool} {held : Bool} {cs : List Value} {x : DataW H × List MemPlace} (h : DataW.trod enc Tryz.prog W base sp held fuel 3 cs = some x) :
  ∃ z : Int, cs = IC z ∧ (Lit.int .i64 z).wf = true := by
 have c1 : Tryz.prog.cellsOf 3 = 1 := by kernel_rfl
 obtain ⟨z, e2, _, hz⟩ := DataW.trod_int Tryz.underlying3 h;exact ⟨z, e2, hz⟩
set_option maxRecDepth 100000 in
theorem FT {H : Type} {enc : TypeId × Value → H} {W : World} {r : Reach} {base b0 : Nat} {sp : Nat → Bool} {held : Bool} {v : Value} {d : DataW H} {ps : List MemPlace}
  (hval : Value.okWide Tryz.prog W r b0 35 v) (hd : DataW.Trod enc Tryz.prog W base sp held 35 v d ps) : ∃ (A : Option Addr) (n c : Nat) (l : List Int), v = .slice A n c ∧ Sl W A n 1 (bF l) ∧ ∀ z ∈ l, -9223372036854775808 ≤ z ∧ z ≤ 9223372036854775807 := by
 obtain ⟨A, n, c, l, h1, h2, h3⟩ := wq IC.len Ty Tryz.underlying35 Tz (fun _ _ _ h => Fu h) hval hd;rw [LN] at h2;exact ⟨A, n, c, l, h1, h2, fun z hz => bounds_i64 (h3 z hz)⟩
theorem BZ {α : Type} {f : α → List Value} {p : α → Prop} {sz : Nat} {P : Program} {t e : TypeId} {H : Type} {enc : TypeId × Value → H} {W : World} {base fuel : Nat} {sp : Nat → Bool} {held : Bool} {cs : List Value} {x : DataW H × List MemPlace}
  (hf : ∀ x, (f x).length = sz) (h0 : 0 < sz) (ht : P.underlying t = some (.slice e)) (hc : P.cellsOf e = sz) (one : ∀ fuel cs x, DataW.trod enc P W base sp held fuel e cs = some x → ∃ a, cs = f a ∧ p a)
  (hfu : DataW.trod enc P W base sp held fuel t cs = some x) : ∃ (A : Option Addr) (n c : Nat) (l : List α), cs = [.slice A n c] ∧ Sl W A n sz (az f l) ∧ ∀ a ∈ l, p a := by
 rcases Go.Deep.open_slice ht hfu with ⟨h1, _⟩ | ⟨ad, n, cp, m, k, D, Pl, h1, _, h2, h3, hm, _, h5⟩
 ·exact ⟨none, 0, 0, [], h1, Sl.nil W none sz, fun _ h => by simp at h⟩
 ·have hnm : n ≤ m := by rw [hm]; split <;> omega
  obtain ⟨l, hl, hp⟩ := uK (p := fun i a => W.cells? base (ad.add (i * sz)) sz = some (f a) ∧ p a) n fun i hi => by
   exact NW
  refine ⟨some ad, n, cp, l, h1, ⟨by rw [eF hf, hl], fun _ => ⟨ad, rfl, fun j u hu => ?_⟩⟩, fun a ha => ?_⟩
  ·exact Qn
  ·obtain ⟨i, hi⟩ := List.mem_iff_getElem?.1 ha;exact (hp i a hi).2
theorem wb {P : Program} {t e : TypeId} {H : Type} {enc : TypeId × Value → H} {W : World} {base fuel : Nat} {sp : Nat → Bool} {held : Bool} {A : Option Addr} {n c : Nat} {x : DataW H × List MemPlace}
  (ht : P.underlying t = some (.slice e)) (hfu : DataW.trod enc P W base sp held fuel t [.slice A n c] = some x) : n ≤ c := by
 rcases Go.Deep.open_slice ht hfu with ⟨h1, _⟩ | ⟨ad, n', cp, m, k, D, Pl, h1, _, h2, _⟩
 ·injection h1 with h1
  injection h1 with _ e2 e3
  omega
 ·injection h1 with h1
  injection h1 with _ e2 e3
  omega
theorem H5 {l : List Int} (h : l.all cw = true) : ints (l.map xM) = l := by
 induction l with
 | nil => rfl
 | cons x l ih =>
  simp only [List.all_cons, Bool.and_eq_true] at h;have h1 : ((xM x).toNat : Int) = x := by
   have := rW h.1;injection this with _ this
   exact this.symm
  have := ih h.2;simp only [ints, List.map_cons, h1];congr 1
theorem HL {l : List Int} (h : l.all cw = true) : eE (l.map xM) = true := by
 rw [eE, List.all_eq_true];intro c hc;obtain ⟨x, hx, rfl⟩ := List.mem_map.1 hc;have h1 := List.all_eq_true.1 h x hx;have := rW h1;injection this with _ this
 simp only [cw, Bool.and_eq_true, decide_eq_true_eq] at h1;simp only [decide_eq_true_eq];omega
theorem Ld {a : List UInt8} (h : eE a = true) : (ints a).all cw = true := by
 rw [List.all_eq_true];intro x hx;obtain ⟨c, hc, rfl⟩ := List.mem_map.1 hx;have := List.all_eq_true.1 h c hc;simp only [decide_eq_true_eq] at this;simp only [cw, Bool.and_eq_true, decide_eq_true_eq];omega
theorem vL {f : Int → Int → Int} {a b : List UInt8} {l : List Int} (h : jd f a b = some l) : eE a = true ∧ eE b = true ∧ b.length = a.length ∧ l = List.zipWith f (ints a) (ints b) := by
 unfold jd at h;split at h
 ·rename_i hc;simp only [Bool.and_eq_true, decide_eq_true_eq] at hc;injection h with h
  exact ⟨hc.1, hc.2.1, Tx, h.symm⟩
 ·cases h
theorem Lk {f : Int → Int → Int} {a b : List UInt8} (h1 : eE a = true) (h2 : eE b = true) (h3 : b.length = a.length) : jd f a b = some (List.zipWith f (ints a) (ints b)) := by
 unfold jd;rw [if_pos (by simp [h1, h2, h3])]
theorem m6 {a c : List UInt8} (h : (mulL a c).2 = 0) : eE a = true ∧ eE c = true ∧ c.length = a.length ∧ eE (mulL a c).1 = true ∧ ints (mulL a c).1 = List.zipWith (· + ·) (ints a) (ints c) := by
 unfold mulL at h ⊢;split
 ·rename_i l hl;rw [hl] at h;simp only at h ⊢;obtain ⟨h1, h2, h3, h4⟩ := vL hl;by_cases hc : l.all cw = true
  ·rw [(pz hc).1];exact ⟨h1, h2, h3, HL hc, by rw [H5 hc, h4]⟩
  ·simp [Kx, hc] at h
 ·rename_i hl;rw [hl] at h;simp at h
theorem Cg {a c : List UInt8} (h : (mulL a c).2 = 0) : (mulL a c).1.length = a.length := by
 obtain ⟨_, _, h3, _, h5⟩ := m6 h;have := congrArg List.length h5;rw [cU, List.length_zipWith, cU, cU] at this;omega
structure TR where
 m : ByteArray
 c : NR
def TR.cells (t : TR) : List Value := [.string t.m, .bool t.c.neg, .string t.c.bo, .int .i64 t.c.e]
theorem TR.len (t : TR) : t.cells.length = 4 := rfl
theorem TR.one (t : TR) : t.cells.all Value.oneCell' = true := rfl
def jb (a b : ByteArray) : Bool := Op.bytesLess a.data.toList b.data.toList
theorem pW : ∀ a : List UInt8, Op.bytesLess a a = false
 | [] => rfl
 | c :: a => by simp [Op.bytesLess, pW a]
theorem rk : ∀ a b c : List UInt8, Op.bytesLess a b = true → Op.bytesLess b c = true → Op.bytesLess a c = true
 | _, [], [], _, h => by simp [Op.bytesLess] at h
 | _, _ :: _, [], _, h => by simp [Op.bytesLess] at h
 | [], [], _ :: _, h, _ => by simp [Op.bytesLess] at h
 | _ :: _, [], _ :: _, h, _ => by simp [Op.bytesLess] at h
 | [], _ :: _, _ :: _, _, _ => rfl
 | x :: a, y :: b, z :: c, h1, h2 => by
  simp only [Op.bytesLess, Bool.or_eq_true, Bool.and_eq_true, decide_eq_true_eq, beq_iff_eq] at h1 h2 ⊢
  rcases h1 with h1 | ⟨rfl, h1⟩
  ·rcases h2 with h2 | ⟨rfl, h2⟩
   ·exact .inl (UInt8.lt_trans h1 h2)
   ·exact .inl h1
  ·rcases h2 with h2 | ⟨rfl, h2⟩
   ·exact .inl h2
   ·exact .inr ⟨rfl, rk a b c h1 h2⟩
theorem vS : ∀ a b : List UInt8, Op.bytesLess a b = false → Op.bytesLess b a = false → a = b
 | [], [], _, _ => rfl
 | [], _ :: _, h, _ => by simp [Op.bytesLess] at h
 | _ :: _, [], _, h => by simp [Op.bytesLess] at h
 | x :: a, y :: b, h1, h2 => by
  simp only [Op.bytesLess, Bool.or_eq_false_iff, Bool.and_eq_false_iff, decide_eq_false_iff_not, beq_eq_false_iff_ne] at h1 h2;have e : x = y := by
   have a1 := h1.1;have a2 := h2.1;rw [UInt8.lt_iff_toNat_lt] at a1 a2;exact UInt8.toNat_inj.1 Tx
  subst e;rw [vS a b (h1.2.resolve_left (fun h => h rfl)) (h2.2.resolve_left (fun h => h rfl))]
theorem gQ (a : ByteArray) : jb a a = false := pW _
theorem jE {a b c : ByteArray} (h1 : jb a b = true) (h2 : jb b c = true) : jb a c = true := rk _ _ _ h1 h2
theorem pk {a b : ByteArray} (h1 : jb a b = false) (h2 : jb b a = false) : a = b := tX (vS _ _ h1 h2)
theorem JA {a b : ByteArray} (h : jb a b = true) : a ≠ b := fun e => by rw [e, gQ] at h; cases h
theorem FN {a b : ByteArray} (h : jb a b = true) : jb b a = false := by
 cases h2 : jb b a with
 | false => rfl
 | true => have := jE h h2; rw [gQ] at this; cases this
def r9 (l : List TR) : Prop := l.Pairwise fun a b => jb a.m b.m = true
def wS (f : ByteArray → Dyadic) : List TR → Dyadic
 | [] => 0
 | t :: l => t.c.d * f t.m + wS f l
theorem na (f : ByteArray → Dyadic) (l k : List TR) : wS f (l ++ k) = wS f l + wS f k := by
 induction l with
 | nil => exact (Dyadic.zero_add _).symm
 | cons t l ih => rw [List.cons_append, wS, wS, ih, Dyadic.add_assoc]
theorem L4 (f : ByteArray → Dyadic) (l : List TR) (t : TR) : wS f (l ++ [t]) = wS f l + t.c.d * f t.m := by
 rw [na, wS, wS, Dyadic.add_zero]
def iF (l : List TR) (m : ByteArray) : Dyadic := wS (fun k => if k = m then 1 else 0) l
theorem fj (t : TR) (l : List TR) (m : ByteArray) : iF (t :: l) m = (if t.m = m then t.c.d else 0) + iF l m := by
 show t.c.d * (if t.m = m then 1 else 0) + iF l m = _;split
 ·rw [Dyadic.mul_one]
 ·rw [Dyadic.mul_zero]
theorem ta (m : ByteArray) : iF [] m = 0 := rfl
theorem eQ (l k : List TR) (m : ByteArray) : iF (l ++ k) m = iF l m + iF k m := na _ _ _
theorem xb {l : List TR} {m : ByteArray} (h : ∀ t ∈ l, t.m ≠ m) : iF l m = 0 := by
 induction l with
 | nil => rfl
 | cons t l ih => rw [fj, if_neg (h t List.mem_cons_self), ih fun s hs => h s (List.mem_cons_of_mem _ hs), Dyadic.zero_add]
structure Canon (l : List TR) : Prop where
 rj : r9 l
 nz : ∀ t ∈ l, t.c.d ≠ 0
 nf : ∀ t ∈ l, t.c = nR t.c.d
theorem uG {t : TR} {l : List TR} (h : Canon (t :: l)) : Canon l := ⟨(List.pairwise_cons.1 h.rj).2, fun s hs => h.nz s (List.mem_cons_of_mem _ hs), fun s hs => h.nf s (List.mem_cons_of_mem _ hs)⟩
theorem wW {t : TR} {l : List TR} {m : ByteArray} (h : r9 (t :: l)) (hm : m = t.m ∨ jb m t.m = true) : ∀ s ∈ l, s.m ≠ m := fun s hs e => by
 have h1 := (List.pairwise_cons.1 h).1 s hs
 rcases hm with rfl | hm
 ·rw [e, gQ] at h1; cases h1
 ·have := jE hm h1;rw [e, gQ] at this; cases this
theorem jB {t : TR} {l : List TR} (h : r9 (t :: l)) : iF (t :: l) t.m = t.c.d := by
 rw [fj, if_pos rfl, xb (wW h (.inl rfl)), Dyadic.add_zero]
theorem vv {t : TR} {l : List TR} {m : ByteArray} (h : r9 (t :: l)) (hm : jb m t.m = true) : iF (t :: l) m = 0 := by
 rw [fj, if_neg (fun e => JA hm e.symm), xb (wW h (.inr hm)), Dyadic.zero_add]
theorem zh : ∀ {l k : List TR}, Canon l → Canon k → (∀ m, iF l m = iF k m) → l = k
 | [], [], _, _, _ => rfl
 | [], t :: k, _, hk, h => by
  have := h t.m;rw [jB hk.rj, ta] at this;exact absurd this.symm (hk.nz t List.mem_cons_self)
 | t :: l, [], hl, _, h => by
  have := h t.m;rw [jB hl.rj, ta] at this;exact absurd this (hl.nz t List.mem_cons_self)
 | t :: l, s :: k, hl, hk, h => by
  have h1 : jb t.m s.m = false := by
   cases hb : jb t.m s.m with
   | false => rfl
   | true =>
    have := h t.m;rw [jB hl.rj, vv hk.rj hb] at this;exact absurd this (hl.nz t List.mem_cons_self)
  have h2 : jb s.m t.m = false := by
   cases hb : jb s.m t.m with
   | false => rfl
   | true =>
    have := h s.m;rw [jB hk.rj, vv hl.rj hb] at this;exact absurd this.symm (hk.nz s List.mem_cons_self)
  have em := pk h1 h2;have ed : t.c.d = s.c.d := by
   have := h t.m;rw [jB hl.rj, em, jB hk.rj] at this;exact this
  have et : t = s := by
   have a := hl.nf t List.mem_cons_self;have b := hk.nf s List.mem_cons_self;obtain ⟨m1, c1⟩ := t;obtain ⟨m2, c2⟩ := s;simp only at em ed a b;rw [em, a, b, ed]
  subst et;rw [zh (uG hl) (uG hk) fun m => by
   have := h m;rw [fj, fj] at this;grind]
def oJ : List TR → TR → List TR
 | [], x => [⟨x.m, nR x.c.d⟩]
 | t :: l, x => if jb t.m x.m = true then t :: oJ l x else if jb x.m t.m = true then ⟨x.m, nR x.c.d⟩ :: t :: l else ⟨x.m, nR (t.c.d + x.c.d)⟩ :: l
theorem Ek (f : ByteArray → Dyadic) : ∀ (l : List TR) (x : TR), wS f (oJ l x) = wS f l + x.c.d * f x.m
 | [], x => by
  show (nR x.c.d).d * f x.m + 0 = 0 + _;rw [cf, Dyadic.add_zero, Dyadic.zero_add]
 | t :: l, x => by
  unfold oJ;split
  ·rw [wS, Ek f l x, wS, Dyadic.add_assoc]
  ·split
   ·rw [wS, wS, cf, Dyadic.add_comm]
   ·rename_i h1 h2;have e : t.m = x.m := pk (by simpa using h1) (by simpa using h2);rw [wS, wS, cf, e];grind
theorem tr : ∀ {l : List TR} {x t : TR}, t ∈ oJ l x → t ∈ l ∨ t.m = x.m
 | [], x, t, h => .inr (by rw [List.mem_singleton.1 h])
 | s :: l, x, t, h => by
  unfold oJ at h;split at h
  ·rcases List.mem_cons.1 h with rfl | h
   ·exact .inl List.mem_cons_self
   ·rcases tr h with h | h
    ·exact .inl (List.mem_cons_of_mem _ h)
    ·exact .inr h
  ·split at h
   ·rcases List.mem_cons.1 h with rfl | h
    ·exact .inr rfl
    ·exact .inl h
   ·rcases List.mem_cons.1 h with rfl | h
    ·exact .inr rfl
    ·exact .inl (List.mem_cons_of_mem _ h)
theorem Ak : ∀ {l : List TR} {x : TR}, r9 l → r9 (oJ l x)
 | [], x, _ => List.pairwise_singleton _ _
 | s :: l, x, h => by
  have h1 := List.pairwise_cons.1 h;unfold oJ;split
  ·rename_i hs;refine List.pairwise_cons.2 ⟨fun t ht => ?_, Ak h1.2⟩
   rcases tr ht with ht | ht
   ·exact h1.1 t ht
   ·rw [ht]; exact hs
  ·split
   ·rename_i hs;refine List.pairwise_cons.2 ⟨fun t ht => ?_, h⟩
    rcases List.mem_cons.1 ht with rfl | ht
    ·exact hs
    ·exact jE hs (h1.1 t ht)
   ·rename_i a b;have e : s.m = x.m := pk (by simpa using a) (by simpa using b);refine List.pairwise_cons.2 ⟨fun t ht => ?_, h1.2⟩;show jb x.m t.m = true;rw [← e];exact h1.1 t ht
theorem EG : ∀ {l : List TR} {x : TR}, (∀ t ∈ l, t.c = nR t.c.d) → ∀ t ∈ oJ l x, t.c = nR t.c.d
 | [], x, _, t, ht => by rw [List.mem_singleton.1 ht]; show nR _ = nR (nR _).d; rw [cf]
 | s :: l, x, h, t, ht => by
  unfold oJ at ht;split at ht
  ·rcases List.mem_cons.1 ht with rfl | ht
   ·exact h t List.mem_cons_self
   ·exact EG (fun t ht => h t (List.mem_cons_of_mem _ ht)) t ht
  ·split at ht
   ·rcases List.mem_cons.1 ht with rfl | ht
    ·show nR _ = nR (nR _).d; rw [cf]
    ·exact h t ht
   ·rcases List.mem_cons.1 ht with rfl | ht
    ·show nR _ = nR (nR _).d; rw [cf]
    ·exact h t (List.mem_cons_of_mem _ ht)
theorem z3 : ∀ (l : List TR) (x : TR), (oJ l x).length ≤ l.length + 1
 | [], x => Nat.le_refl _
 | s :: l, x => by
  have := z3 l x;unfold oJ;split
  ·rw [List.length_cons, List.length_cons]; omega
  ·split <;> simp
theorem D7 {k : Nat} : ∀ {l : List TR} {x : TR}, (∀ t ∈ l, Sz k t.c.d) → Sz k x.c.d → ∀ t ∈ oJ l x, Sz (k + 1) t.c.d
 | [], x, _, hx, t, ht => by rw [List.mem_singleton.1 ht]; show Sz _ (nR _).d; rw [cf]; exact hx.mono Tx
 | s :: l, x, h, hx, t, ht => by
  unfold oJ at ht;split at ht
  ·rcases List.mem_cons.1 ht with rfl | ht
   ·exact (h t List.mem_cons_self).mono Tx
   ·exact D7 (fun t ht => h t (List.mem_cons_of_mem _ ht)) hx t ht
  ·split at ht
   ·rcases List.mem_cons.1 ht with rfl | ht
    ·show Sz _ (nR _).d; rw [cf]; exact hx.mono Tx
    ·exact (h t ht).mono Tx
   ·rcases List.mem_cons.1 ht with rfl | ht
    ·show Sz _ (nR _).d; rw [cf]; exact (h s List.mem_cons_self).add hx
    ·exact (h t (List.mem_cons_of_mem _ ht)).mono Tx
def l7 (l : List TR) : List TR := l.foldl oJ []
def yK (t : TR) : Bool := !decide (t.c.d = 0)
def aF (l : List TR) : List TR := (l7 l).filter yK
theorem iQ (l : List TR) (x : TR) : l7 (l ++ [x]) = oJ (l7 l) x := by unfold l7; rw [List.foldl_append]; rfl
theorem jl {α : Type} {P : List α → Prop} (h0 : P []) (hs : ∀ l x, P l → P (l ++ [x])) (l : List α) : P l := by
 have : ∀ k : List α, P k.reverse := fun k => by
  induction k with
  | nil => exact h0
  | cons x k ih => rw [List.reverse_cons]; exact hs _ _ ih
 have h := this l.reverse;rwa [List.reverse_reverse] at h
theorem Hd (f : ByteArray → Dyadic) (l : List TR) : wS f (l7 l) = wS f l := by
 induction l using jl with
 | h0 => rfl
 | hs l x ih => rw [iQ, Ek, ih, L4]
theorem Fw (l : List TR) : r9 (l7 l) := by
 induction l using jl with
 | h0 => exact List.Pairwise.nil
 | hs l x ih => rw [iQ]; exact Ak ih
theorem IU (l : List TR) : ∀ t ∈ l7 l, t.c = nR t.c.d := by
 induction l using jl with
 | h0 => intro t ht; cases ht
 | hs l x ih => rw [iQ]; exact EG ih
theorem FZ (l : List TR) : (l7 l).length ≤ l.length := by
 induction l using jl with
 | h0 => exact Nat.le_refl _
 | hs l x ih => rw [iQ, List.length_append]; have := z3 (l7 l) x; simp; omega
theorem JB {k : Nat} (l : List TR) (h : ∀ t ∈ l, Sz k t.c.d) : ∀ t ∈ l7 l, Sz (k + l.length) t.c.d := by
 induction l using jl with
 | h0 => intro t ht; cases ht
 | hs l x ih =>
  rw [iQ, List.length_append];exact D7 (k := k + l.length) (ih fun t ht => h t (List.mem_append_left _ ht)) ((h x (by simp)).mono Tx)
theorem GU (l : List TR) : ∀ t ∈ l7 l, ∃ s ∈ l, s.m = t.m := by
 induction l using jl with
 | h0 => intro t ht; cases ht
 | hs l x ih =>
  rw [iQ];intro t ht
  rcases tr ht with ht | ht
  ·obtain ⟨s, hs, e⟩ := ih t ht;exact ⟨s, List.mem_append_left _ hs, e⟩
  ·exact ⟨x, by simp, ht.symm⟩
theorem vm (f : ByteArray → Dyadic) (l : List TR) : wS f (l.filter yK) = wS f l := by
 induction l with
 | nil => rfl
 | cons t l ih =>
  rw [List.filter_cons];by_cases h : t.c.d = 0
  ·rw [if_neg (by unfold yK; rw [decide_eq_true h]; decide), ih, wS, h, Dyadic.zero_mul, Dyadic.zero_add]
  ·rw [if_pos (by unfold yK; rw [decide_eq_false h]; rfl), wS, wS, ih]
theorem qC (f : ByteArray → Dyadic) (l : List TR) : wS f (aF l) = wS f l := (vm f _).trans (Hd f l)
theorem q8 (l : List TR) (m : ByteArray) : iF (aF l) m = iF l m := qC _ _
theorem C9 {t : TR} (h : yK t = true) : t.c.d ≠ 0 := fun e => by
 unfold yK at h;rw [decide_eq_true e] at h
 cases h
theorem eT (l : List TR) : Canon (aF l) :=
 ⟨List.Pairwise.filter _ (Fw l), fun t ht => C9 (List.mem_filter.1 ht).2, fun t ht => IU l t (List.mem_filter.1 ht).1⟩
theorem bQ (l : List TR) : (aF l).length ≤ l.length := Nat.le_trans (List.length_filter_le _ _) (FZ l)
theorem nq {k : Nat} {l : List TR} (h : ∀ t ∈ l, Sz k t.c.d) : ∀ t ∈ aF l, Sz (k + l.length) t.c.d := fun t ht => JB l h t (List.mem_filter.1 ht).1
theorem fQ {l : List TR} : ∀ t ∈ aF l, ∃ s ∈ l, s.m = t.m := fun t ht => GU l t (List.mem_filter.1 ht).1
theorem vD {l k : List TR} (h : Canon k) (hc : ∀ m, iF k m = iF l m) : k = aF l := zh h (eT l) fun m => by rw [hc, q8]
theorem yf {l k : List TR} (hc : ∀ m, iF k m = iF l m) : aF k = aF l := vD (eT k) fun m => by rw [q8, hc]
def iO (k : Nat) (l : List TR) : Prop := ∀ t ∈ l, t.c.ok ∧ Sz k t.c.d
theorem iO.mono {k j : Nat} {l : List TR} (h : iO k l) (hk : k ≤ j) : iO j l := fun t ht => ⟨(h t ht).1, (h t ht).2.mono hk⟩
structure MD (k : Nat) (l L : List TR) : Prop where
 rj : r9 L
 co : ∀ m, iF L m = iF l m
 len : L.length ≤ l.length
 ok : iO k L
 mem : ∀ t ∈ L, ∃ s ∈ l, s.m = t.m
theorem MD.mono {k j : Nat} {l L : List TR} (h : MD k l L) (hk : k ≤ j) : MD j l L := ⟨h.rj, h.co, h.len, h.ok.mono hk, h.mem⟩
theorem MD.self {k : Nat} {l : List TR} (h : r9 l) (hk : iO k l) : MD k l l := ⟨h, fun _ => rfl, Nat.le_refl _, hk, fun t ht => ⟨t, ht, rfl⟩⟩
structure Mg (k : Nat) (xs ys O X Y : List TR) : Prop where
 ro : r9 O
 rx : r9 X
 ry : r9 Y
 co : ∀ m, iF O m + (iF X m + iF Y m) = iF xs m + iF ys m
 bx : ∀ t ∈ O, ∀ s ∈ X, jb t.m s.m = true
 hy : ∀ t ∈ O, ∀ s ∈ Y, jb t.m s.m = true
 len : O.length + (X.length + Y.length) ≤ xs.length + ys.length
 oo : iO (k + 1) O
 ox : iO k X
 oy : iO k Y
 mo : ∀ t ∈ O, ∃ s ∈ xs ++ ys, s.m = t.m
 mx : ∀ t ∈ X, t ∈ xs ++ ys
 my : ∀ t ∈ Y, t ∈ xs ++ ys
theorem Mg.start {k : Nat} {xs ys : List TR} (hx : r9 xs) (hy : r9 ys) (ox : iO k xs) (oy : iO k ys) : Mg k xs ys [] xs ys :=
 ⟨List.Pairwise.nil, hx, hy, fun m => Dyadic.zero_add _, fun t ht => (by cases ht), fun t ht => (by cases ht), by simp, fun t ht => (by cases ht), ox, oy, fun t ht => (by cases ht), fun t ht => List.mem_append_left _ ht, fun t ht => List.mem_append_right _ ht⟩
theorem ui {O : List TR} {x : TR} (h : r9 O) (hx : ∀ t ∈ O, jb t.m x.m = true) : r9 (O ++ [x]) :=
 List.pairwise_append.2 ⟨h, List.pairwise_singleton _ _, fun t ht s hs => by rw [List.mem_singleton.1 hs]; exact hx t ht⟩
theorem uV (x : TR) (m : ByteArray) : iF [x] m = if x.m = m then x.c.d else 0 := by rw [fj, ta, Dyadic.add_zero]
theorem eV {α : Type} {P : α → Prop} {O : List α} {x : α} (h : ∀ t ∈ O, P t) (hx : P x) : ∀ t ∈ O ++ [x], P t := fun t ht => by
 rcases List.mem_append.1 ht with ht | ht
 ·exact h t ht
 ·rw [List.mem_singleton.1 ht]; exact hx
theorem Mg.left {k : Nat} {xs ys O X Y : List TR} {x y : TR} (h : Mg k xs ys O (x :: X) (y :: Y)) (hl : jb x.m y.m = true) : Mg k xs ys (O ++ [x]) X (y :: Y) := by
 obtain ⟨ro, rx, ry, co, bx, hby, len, oo, ox, oy, mo, mx, my⟩ := h;have r1 := List.pairwise_cons.1 rx;have r2 := List.pairwise_cons.1 ry;refine ⟨ui ro fun t ht => bx t ht x List.mem_cons_self, r1.2, ry, fun m => ?_, eV (fun t ht s hs => bx t ht s (List.mem_cons_of_mem _ hs)) fun s hs => r1.1 s hs, eV hby fun s hs => ?_, by simp at len ⊢; omega, eV oo ⟨(ox x List.mem_cons_self).1, (ox x List.mem_cons_self).2.mono Tx⟩, fun t ht => ox t (List.mem_cons_of_mem _ ht), oy, eV mo ⟨x, mx x List.mem_cons_self, rfl⟩, fun t ht => mx t (List.mem_cons_of_mem _ ht), my⟩
 ·have := co m;rw [fj x X] at this;rw [eQ, uV];grind
 ·rcases List.mem_cons.1 hs with rfl | hs
  ·exact hl
  ·exact jE hl (r2.1 s hs)
theorem Mg.right {k : Nat} {xs ys O X Y : List TR} {x y : TR} (h : Mg k xs ys O (x :: X) (y :: Y)) (hl : jb y.m x.m = true) : Mg k xs ys (O ++ [y]) (x :: X) Y := by
 obtain ⟨ro, rx, ry, co, bx, hby, len, oo, ox, oy, mo, mx, my⟩ := h;have r1 := List.pairwise_cons.1 rx;have r2 := List.pairwise_cons.1 ry;refine ⟨ui ro fun t ht => hby t ht y List.mem_cons_self, rx, r2.2, fun m => ?_, eV bx fun s hs => ?_, eV (fun t ht s hs => hby t ht s (List.mem_cons_of_mem _ hs)) fun s hs => r2.1 s hs, by simp at len ⊢; omega, eV oo ⟨(oy y List.mem_cons_self).1, (oy y List.mem_cons_self).2.mono Tx⟩, ox, fun t ht => oy t (List.mem_cons_of_mem _ ht), eV mo ⟨y, my y List.mem_cons_self, rfl⟩, mx, fun t ht => my t (List.mem_cons_of_mem _ ht)⟩
 ·have := co m;rw [fj y Y] at this;rw [eQ, uV];grind
 ·rcases List.mem_cons.1 hs with rfl | hs
  ·exact hl
  ·exact jE hl (r1.1 s hs)
theorem Mg.both {k : Nat} {xs ys O X Y : List TR} {x y : TR} (h : Mg k xs ys O (x :: X) (y :: Y)) (h1 : jb x.m y.m = false) (h2 : jb y.m x.m = false) (hk : k ≤ 3999980) : Mg k xs ys (O ++ [⟨x.m, nR (x.c.d + y.c.d)⟩]) X Y := by
 obtain ⟨ro, rx, ry, co, bx, hby, len, oo, ox, oy, mo, mx, my⟩ := h;have r1 := List.pairwise_cons.1 rx;have r2 := List.pairwise_cons.1 ry;have e := pk h1 h2;have hz := (ox x List.mem_cons_self).2.add (oy y List.mem_cons_self).2;refine ⟨ui ro fun t ht => bx t ht x List.mem_cons_self, r1.2, r2.2, fun m => ?_, eV (fun t ht s hs => bx t ht s (List.mem_cons_of_mem _ hs)) fun s hs => r1.1 s hs, eV (fun t ht s hs => hby t ht s (List.mem_cons_of_mem _ hs)) fun s hs => ?_, by simp at len ⊢; omega, eV oo ⟨hz.ok Tx, ?_⟩, fun t ht => ox t (List.mem_cons_of_mem _ ht), fun t ht => oy t (List.mem_cons_of_mem _ ht), eV mo ⟨x, mx x List.mem_cons_self, rfl⟩, fun t ht => mx t (List.mem_cons_of_mem _ ht), fun t ht => my t (List.mem_cons_of_mem _ ht)⟩
 ·have := co m;rw [fj y Y, fj x X, ← e] at this;rw [eQ, uV];show iF O m + (if x.m = m then (nR (x.c.d + y.c.d)).d else 0) + (iF X m + iF Y m) = _;rw [cf];grind
 ·show jb x.m s.m = true;rw [e];exact r2.1 s hs
 ·show Sz _ (nR _).d;rw [cf];exact hz
theorem Mg.done {k : Nat} {xs ys O X Y : List TR} (h : Mg k xs ys O X Y) (hd : X = [] ∨ Y = []) : MD (k + 1) (xs ++ ys) (O ++ X ++ Y) := by
 obtain ⟨ro, rx, ry, co, bx, hby, len, oo, ox, oy, mo, mx, my⟩ := h;refine ⟨?_, fun m => ?_, by simp at len ⊢; omega, fun t ht => ?_, fun t ht => ?_⟩
 ·rw [List.append_assoc];refine List.pairwise_append.2 ⟨ro, ?_, fun t ht s hs => ?_⟩
  ·rcases hd with rfl | rfl
   ·exact ry
   ·rw [List.append_nil]; exact rx
  ·rcases List.mem_append.1 hs with hs | hs
   ·exact bx t ht s hs
   ·exact hby t ht s hs
 ·rw [eQ, eQ, eQ, Dyadic.add_assoc];exact co m
 ·rcases List.mem_append.1 ht with ht | ht
  ·rcases List.mem_append.1 ht with ht | ht
   ·exact oo t ht
   ·exact ⟨(ox t ht).1, (ox t ht).2.mono Tx⟩
  ·exact ⟨(oy t ht).1, (oy t ht).2.mono Tx⟩
 ·rcases List.mem_append.1 ht with ht | ht
  ·rcases List.mem_append.1 ht with ht | ht
   ·exact mo t ht
   ·exact ⟨t, mx t ht, rfl⟩
  ·exact ⟨t, my t ht, rfl⟩
theorem MD.aF {k : Nat} {l L : List TR} (h : MD k l L) : ((L.filter yK).map fun t => (⟨t.m, nR t.c.d⟩ : TR)) = aF l := by
 refine vD ⟨?_, fun t ht => ?_, fun t ht => ?_⟩ fun m => ?_
 ·exact List.Pairwise.map _ (fun a b hab => hab) (List.Pairwise.filter _ h.rj)
 ·obtain ⟨s, hs, rfl⟩ := List.mem_map.1 ht;show (nR s.c.d).d ≠ 0;rw [cf];exact C9 (List.mem_filter.1 hs).2
 ·obtain ⟨s, hs, rfl⟩ := List.mem_map.1 ht;show nR s.c.d = nR (nR s.c.d).d;rw [cf]
 ·have e : ∀ (f : ByteArray → Dyadic) (k : List TR), wS f (k.map fun t => (⟨t.m, nR t.c.d⟩ : TR)) = wS f k := fun f k => by
   induction k with
   | nil => rfl
   | cons t k ih => rw [List.map_cons, wS, wS, ih]; show (nR t.c.d).d * f t.m + _ = _; rw [cf]
  show wS _ _ = _;rw [e, vm];exact h.co m
theorem wH {l : List TR} (h : l.length < 2) : r9 l := by
 match l, h with
 | [], _ => exact List.Pairwise.nil
 | [x], _ => exact List.pairwise_singleton _ _
section
variable {ro : Mode}
section
variable {P : Program} {N : Nat} {ops : Array Oper} {Q : Kq} {ρ : Rf} {w w0 : World} {rest : List Oper} {H : List HE} {d : Nat} {ty : TypeId} {pos : String} {af : Array Edge}
theorem Lg (hh : Hp w0 H w) {t e : TypeId} {l cp : Operand} {kl kc : IntKind} {L C : Int} {n sz by' : Nat} {ag : Bool} {zc : List Value} (hl : ev ρ l = .int kl L) (hc : ev ρ cp = .int kc C) (hL : L = 0) (hC : C = (n : Int))
  (ht : P.underlying t = some (.slice e)) (hte : dn P e = some (sz, ag, by', zc)) (hb : by' * n ≤ 281474976710656) (h63 : n ≤ 9223372036854775807) (hN : d < N)
  (k : ∀ b w', Hp w0 (.row (some ⟨b, 0, none⟩) 0 n e sz [] :: H) w' → WL ro P N ops Q rest (cG ρ d (.slice (some ⟨b, 0, none⟩) 0 n)) w') :
  WL ro P N ops Q (⟨some d, .makeSlice t l cp, ty, pos, af, none⟩ :: rest) ρ w := by
 obtain ⟨i, z, dd, hi, hd, hz, hs, hby, hzc, _⟩ := eu hte;subst hL; subst hC; subst hs;have hr := run_make (P := P) w t e i z ht hi hz kl kc 0 n (Int.le_refl _) Tx (by rw [hby, ← Int.natCast_mul]; omega) Tx;simp only [Int.toNat_natCast, Int.toNat_zero] at hr;refine aQ rfl rfl hN (w' := w.alloc (.cells (madeCells z.cells (n * i.size)) e)) (v := .slice (some ⟨w.heap.size, 0, none⟩) 0 n) ?_ (k _ _ (hh.aV (show Below w.heap.size w (w.alloc (.cells (madeCells z.cells (n * i.size)) e)) from ⟨rfl, rfl, rfl, (World.grownBy_alloc w _ none).size, fun j hj => (World.grownBy_alloc w _ none).block j hj (by simp)⟩) ?_))
 ·simp [execOp, hl, hc, hr]
 ·exact ⟨by simp, .inr ⟨w.heap.size, n, madeCells z.cells (n * i.size), rfl, Nat.le_refl _, heap_alloc_new w _, Nat.zero_le _, by unfold maxLen; omega, size_madeCells _ _, by simp⟩⟩
end
def iW (n sz : Nat) (cs : List Value) : VP := fun v W => ∃ g : Nat, v = .slice (some ⟨g, 0, none⟩) n n ∧ Sl W (some ⟨g, 0, none⟩) n sz cs
theorem iW.ext {n sz : Nat} {cs : List Value} (v : Value) (w w' : World) (h : iW n sz cs v w) (hb : Below w.heap.size w w') : iW n sz cs v w' := let ⟨g, h1, h2⟩ := h; ⟨g, h1, h2.ext hb⟩
section
variable {P : Program} {ρ : Rf} {w : World}
theorem Mk {ops : Array Oper} {d : Option Nat} {ty : TypeId} {pos : String} {af : Array Edge} {t e : TypeId} {l cp : Operand} {kl kc : IntKind} {L C : Int} {n sz by' : Nat} {ag : Bool} {zc : List Value} {K : Value → World → Prop} (hl : ev ρ l = .int kl L) (hc : ev ρ cp = .int kc C) (hL : L = (n : Int)) (hC : C = (n : Int))
  (ht : P.underlying t = some (.slice e)) (hte : dn P e = some (sz, ag, by', zc)) (hzl : zc.length = sz) (hb : by' * n ≤ 281474976710656) (h63 : n ≤ 9223372036854775807)
  (hk : ∀ v w2, iW n sz (fk n zc) v w2 → Below w.heap.size w w2 → K v w2) : OG P ops ⟨d, .makeSlice t l cp, ty, pos, af, none⟩ ρ w K := by
 obtain ⟨i, z, dd, hi, hd, hz, hs, hby, hzc, _⟩ := eu hte;subst hL; subst hC;obtain ⟨w', hr, hown, hg⟩ := run_make_full (P := P) w w.heap.size t e i z sz ht hi hz hs kl kc n (by rw [hby]; exact hb) (by unfold maxLen; omega) (Nat.le_refl _);have hzz : (madeCells z.cells (n * sz)).toList = fk n zc := by
  exact OY
 rw [hzz] at hown;exact fC rfl (w' := w') (v := .slice (some ⟨w.heap.size, 0, none⟩) n n) (by simp [execOp, hl, hc, hr]) (hk _ _ ⟨w.heap.size, rfl, lB hown⟩ ⟨hg.os, hg.tape, hg.output, hg.size, fun j hj => hg.block j hj (by simp)⟩)
theorem sU (n : Nat) : fk n [.int .u8 0] = nC (List.replicate n 0) := by
 induction n with
 | zero => rfl
 | succ n ih => rw [fk, ih, List.replicate_succ]; rfl
end
end
theorem EN (a : ByteArray) : a.toList = a.data.toList := by
 have key : ∀ s : ByteArray, s.toList = s.data.toList := fun s => by
  exact QP
 exact key a
theorem pP (a b : ByteArray) : Op.bytesLess a.toList b.toList = jb a b := by rw [EN, EN]; rfl
theorem KN (a b : ByteArray) : (!(Op.bytesLess a.toList b.toList || a.toList == b.toList)) = jb b a := by
 rw [pP, IW]
 cases h1 : jb a b with
 | true => rw [FN h1]; rfl
 | false =>
  cases h2 : jb b a with
  | true => rw [decide_eq_false (fun e => JA h2 e.symm)]; rfl
  | false => rw [decide_eq_true (pk h1 h2)]; rfl
def Ke (x y : TR) : Int := if jb x.m y.m = true then -1 else if jb y.m x.m = true then 1 else 0
theorem Dc (x y : TR) (w : World) : Calls Tryz.prog 76 #[.agg #[.string x.m, .bool x.c.neg, .string x.c.bo, .int .i64 x.c.e], .agg #[.string y.m, .bool y.c.neg, .string y.c.bo, .int .i64 y.c.e]] w fun r w' => r = .returned (.int .i64 (Ke x y)) ∧ Below w.heap.size w w' := by
 have hh := Hp.start w;refine aj (N := 17) (l := [.agg #[.string x.m, .bool x.c.neg, .string x.c.bo, .int .i64 x.c.e], .agg #[.string y.m, .bool y.c.neg, .string y.c.bo, .int .i64 y.c.e]]) Tryz.func76 rfl rfl (by simp) ?_;refine sr ?_;refine cx hh [_,_,_,_] ?_;intro b2 w2 hh;refine cx hh [_,_,_,_] ?_;intro b3 w3 hh;refine uT ?_;refine bB hh 1 ?_;refine bD ?_;refine bB hh 0 ?_;refine FR rfl rfl Ty ?_;refine aB (aa ?_);rw [pP];unfold Ke
 cases h1 : jb x.m y.m with
 | true =>
  refine cT (sr (aI (aa (av (bY (aG ?_))))));refine cX ?_;exact ⟨rfl, hh.below⟩
 | false =>
  refine cF (sr (bD ?_));refine bB hh 1 ?_;refine bD ?_;refine bB hh 0 ?_;refine Gw rfl rfl Ty ?_;refine aB (aa ?_);rw [KN]
  cases h2 : jb y.m x.m with
  | true =>
   refine cT (sr (aI (aa (av (bY (aG ?_))))));refine cX ?_;exact ⟨rfl, hh.below⟩
  | false =>
   refine cF (ar (bA (ai (sr (aI (aa (av ?_)))))));refine cX ?_;exact ⟨rfl, hh.below⟩
theorem F9 (x y : TR) (k : Nat) (w : World) (hT : ee w) (hx : x.c.ok ∧ Sz k x.c.d) (hy : y.c.ok ∧ Sz k y.c.d) (hk : k ≤ 3999980) : Calls Tryz.prog 77 #[.agg #[.string x.m, .bool x.c.neg, .string x.c.bo, .int .i64 x.c.e], .agg #[.string y.m, .bool y.c.neg, .string y.c.bo, .int .i64 y.c.e]] w fun r w' => r = .returned (.agg #[.string x.m, .bool (nR (x.c.d + y.c.d)).neg, .string (nR (x.c.d + y.c.d)).bo, .int .i64 (nR (x.c.d + y.c.d)).e]) ∧ Below w.heap.size w w' := by
 have hh := Hp.start w;have hsum := fun A cc w1 hT1 hS1 => gL A 2 cc [x.c, y.c] w1 hT1 hS1 (by simpa using ⟨hx.1, hy.1⟩) k (by simpa using ⟨hx.2, hy.2⟩) Tx;rw [show md ([x.c, y.c].map NR.d) = x.c.d + y.c.d by simp only [List.map_cons, List.map_nil, jU]] at hsum;refine aj (N := 14) (l := [.agg #[.string x.m, .bool x.c.neg, .string x.c.bo, .int .i64 x.c.e], .agg #[.string y.m, .bool y.c.neg, .string y.c.bo, .int .i64 y.c.e]]) Tryz.func77 rfl rfl (by simp) ?_;refine sr ?_;refine cx hh [_,_,_,_] ?_;intro b2 w2 hh;refine cx hh [_,_,_,_] ?_;intro b3 w3 hh;refine bR hh ?_;intro b4 w4 hh;refine aa (ah ?_);refine aY 8 [[(2, none)], [(5, some 0)], [(2, none)], [(7, some 2)], [(3, none)], [(9, some 4)], [(8, some 3), (10, some 5)], [(11, some 6)]] [(7, 12), (6, 11), (5, 10), (4, 9), (3, 8), (2, 7), (1, 6), (0, 5)] hh mixed Tz ?_;refine dV ?_;refine fJ 2 ?_;refine dV ?_;refine fT 2 [_,_,_] ?_;refine dV ?_;refine fT 1 [_,_,_] ?_;refine sC [_,_,_,_,_,_] ?_;refine aR (i := 7) (Is (.agg #[.bool (nR (x.c.d + y.c.d)).neg, .string (nR (x.c.d + y.c.d)).bo, .int .i64 (nR (x.c.d + y.c.d)).e])) Is.ext ?_ ?_
 ·intro ρ1 w1 hj hR;obtain ⟨A11, c11, h11, s11⟩ := hR.1;exact a8 rfl (aM ak.out (aw h11 aX)) (hsum A11 c11 _ (hT.hp hj.hp) s11) (fun _ _ hq => ⟨_, hq.1, hq.2, rfl⟩)
 refine aT ?_;intro f W hJ hV;have hb_1 := hJ.bl;obtain ⟨v12, v11, v10, v9, v8, v7, v6, v5, _⟩ := hV;obtain ⟨A11, c11, e11, f11⟩ : Rows _ _ _ (f 6) W := v11;replace hh := hJ.hp;refine a6 (bm (ae v12 (ae e11 (ae v10 (ae v9 (ae v8 (ae v7 (ae v6 (ae v5 a0))))))))) ?_;dsimp only [cg];clear e11 hJ;refine gj [_,_,_,_] ?_;refine bW hh 0 [_,_,_,_] ?_;intro ws hh;replace hh : Hp _ (.blk _ _ [_, _, _, _] _ :: _) _ := hh;refine aa (av ?_);refine KT (eI rfl (eJ (vs := [_, _, _, _]) aN.out (hh.ck (i := 0) (n := 4) rfl rfl) rfl) gg) ?_;exact ⟨rfl, hh.below⟩
theorem cV {P : Program} {N : Nat} {Q : Kq} {ops : Array Oper} {fuel : Nat} {L : Array Bool} {i d : Nat} {op : Op} {ty : TypeId} {pos : String} {af : Array Edge} {v : Value} {ρ : Rf} {w : World} (hq : NP Q) (hi : ops[i]? = some ⟨some d, op, ty, pos, af, none⟩) (hs : Region.noSelect ops = true) (hf : Region.free .any ops L i = true) (hr : (Region.ready .any ops L).contains i = true)
  (hv : ∀ w, (execOp (ev ρ) ⟨some d, op, ty, pos, af, none⟩).run P w = .ok (.value v) w) (hN : d < N) (h : WA P N ops Q fuel (L.setIfInBounds i true) (cG ρ d v) w) : WA P N ops Q (fuel + 1) L ρ w :=
 ⟨fun a hfit => wpAny_first hi (Region.noSelect_spec hs) (fun c a w ⟨ρ', _, hq'⟩ => (hq c ρ' w hq').elim) fuel L a w (Region.free_spec hi hf) (by simpa using hr) (.inl ⟨by simp [Region.wanted], fun w => by rw [hfit.eval]; exact hv w⟩) (h.out _ (hfit.put hN v))⟩
theorem Sl.tail {w : World} {A : Option Addr} {n c : Nat} {x : TR} {X : List TR} (h : Sl w A n 4 (az TR.cells (x :: X))) (h0 : 0 < n) (hc : n ≤ c) : Sl w (if c = 1 then A else A.map (·.add (1 * 4))) (n - 1) 4 (az TR.cells X) := by
 have := h.back (l := 1) Tx hc;rw [show (az TR.cells (x :: X)).drop (1 * 4) = az TR.cells X from jF TR.len (x :: X) 1] at this;exact this
theorem pL (A : Option Addr) (n c : Nat) (xs : List TR) (B : Option Addr) (m c2 : Nat) (ys : List TR) (k : Nat) (w : World) (hT : ee w) (hS : Sl w A n 4 (az TR.cells xs)) (hS2 : Sl w B m 4 (az TR.cells ys)) (hc : n ≤ c) (hc2 : m ≤ c2) (hn : n ≤ 1000000) (hm : m ≤ 1000000) (hk : k ≤ 3999980)
  (rx : r9 xs) (ry : r9 ys) (ox : iO k xs) (oy : iO k ys) :
  Calls Tryz.prog 75 #[.slice A n c, .slice B m c2, .func (.func 76) #[] #[], .func (.func 77) #[] #[]] w fun r w' => ∃ (L : List TR) (A' : Option Addr) (c' : Nat), MD (k + 1) (xs ++ ys) L ∧ r = .returned (.slice A' L.length c') ∧ Hp w [.row A' L.length c' 96 4 (az TR.cells L)] w' := by
 have hh := Hp.start w;have hlx := hS.bk TR.len Ty;have hly := hS2.bk TR.len Ty;have hnx : xs.length ≤ 1000000 := Tx;have hny : ys.length ≤ 1000000 := Tx;refine aj (N := 75) (l := [.slice A n c, .slice B m c2, .func (.func 76) #[] #[], .func (.func 77) #[] #[]]) Tryz.func75 rfl rfl (by simp) ?_;refine sr (aL (aa (sr (mL (aJ (mL (aJ ?_)))))));refine bh ?_;refine Lg (n := (n + m)) hh rfl rfl Tx Tx bg.out aN.out Tx Tx Ty ?_;intro b16 w16 hh;refine aL (aa (ah (aq ?_)));refine BK [0, 1, 9, 10, 17, 18, 19, 20, 21, 22, 23, 24, 25, 26, 27, 28, 29, 30, 31, 32, 33, 34, 35, 36, 37, 38, 39, 40, 41, 42, 43, 44, 45, 46, 47, 48, 49, 50, 51, 52, 53, 54, 55, 56, 57, 58, 59, 60, 61, 62, 63, 64, 65, 66, 67, 68, 69] 0 1 9
  (fun va vb vo w' => ∃ (A : Option Addr) (n c : Nat) (X : List TR) (B : Option Addr) (m c2 : Nat) (Y : List TR) (O : List TR) (C : Option Addr) (co : Nat), va = .slice A n c ∧ vb = .slice B m c2 ∧ vo = .slice C O.length co ∧ n ≤ c ∧ m ≤ c2 ∧ Sl w A n 4 (az TR.cells X) ∧ Sl w B m 4 (az TR.cells Y) ∧ Mg k xs ys O X Y ∧ Hp w [.row C O.length co 96 4 (az TR.cells O)] w')
  (fun va vb _ _ => lenOf va + lenOf vb) ?_ ?_
 ·exact ⟨A, n, c, xs, B, m, c2, ys, [], some ⟨b16, 0, none⟩, n + m, rfl, rfl, rfl, hc, hc2, hS, hS2, Mg.start rx ry ox oy, hh⟩
 ·clear hh hS hS2 hlx hly hc hc2 hn hm;rintro ρ' va vb vo w' ⟨A, n, c, X, B, m, c2, Y, O, C, co, rfl, rfl, rfl, hc, hc2, hS, hS2, hmg, hh⟩;have hX := hS.bk TR.len Ty;have hY := hS2.bk TR.len Ty;have hlen := hmg.len;have oX := cq TR.one X;have oY := cq TR.one Y;by_cases hn : n = 0
  ·refine ah (sr (mL (aJ ?_)));refine bM (mB ?_);refine gS (gS (gS ?_));refine dK ?_;refine aa (cF (aZ (aD (aD (bq (ai (sr (mL (mL ?_)))))))));refine cJ hh (i := 0) rfl rfl rfl (hS.ext hh.below) bg.out aN.out rfl Ty ?one3 Tx Tx Ty ?kk3
   case one3 => first | rfl | assumption | exact bX _ | exact oneCells_u8s _
   intro A72 c72 w72 hh;simp only [List.set_cons_zero] at hh;refine mL ?_;refine cJ hh (i := 0) rfl rfl rfl (hS2.ext hh.below) bg.out aN.out rfl Ty ?one4 Tx Tx Ty ?kk4
   case one4 => first | rfl | assumption | exact bX _ | exact oneCells_u8s _
   intro A74 c74 w74 hh;simp only [List.set_cons_zero] at hh;refine aL (aa (av ?_));refine cX ?_;have hd := hmg.done (.inl (List.eq_nil_of_length_eq_zero Tx));exact Qf
  ·by_cases hm : m = 0
   ·refine ah (sr (mL (aJ ?_)));refine vN ?_;refine bM ?_;refine fu ?_;refine aa (cF (aZ (aD (aD (bq (ai (sr (mL (mL ?_)))))))));refine cJ hh (i := 0) rfl rfl rfl (hS.ext hh.below) bg.out aN.out rfl Ty ?one5 Tx Tx Ty ?kk5
    case one5 => first | rfl | assumption | exact bX _ | exact oneCells_u8s _
    intro A72 c72 w72 hh;simp only [List.set_cons_zero] at hh;refine mL ?_;refine cJ hh (i := 0) rfl rfl rfl (hS2.ext hh.below) bg.out aN.out rfl Ty ?one6 Tx Tx Ty ?kk6
    case one6 => first | rfl | assumption | exact bX _ | exact oneCells_u8s _
    intro A74 c74 w74 hh;simp only [List.set_cons_zero] at hh;refine aL (aa (av ?_));refine cX ?_;have hd := hmg.done (.inr (List.eq_nil_of_length_eq_zero Tx));exact Qf
   ·obtain ⟨x, X, rfl⟩ : ∃ x X', X = x :: X' := by cases X with
     | nil => exact absurd hX.symm hn
     | cons x X' => exact ⟨x, X', rfl⟩
    obtain ⟨y, Y, rfl⟩ : ∃ y Y', Y = y :: Y' := by cases Y with
     | nil => exact absurd hY.symm hm
     | cons y Y' => exact ⟨y, Y', rfl⟩
    obtain ⟨ad, rfl, hr⟩ := hS.at_ Tx;obtain ⟨ad2, rfl, hr2⟩ := hS2.at_ Tx;have hxx : (x :: X)[0]? = some x := rfl;have hyy : (y :: Y)[0]? = some y := rfl;have hSt := hS.tail Tx hc;have hSt2 := hS2.tail Tx hc2;have hsd := fun w1 => Dc x y w1;unfold Ke at hsd
    cases h1 : jb x.m y.m with
    | true =>
     rw [h1, if_pos rfl] at hsd;refine ah (sr (mL (aJ ?_)));refine vN ?_;refine bM ?_;refine fu ?_;refine aa (cT (ar (ai (aq (ah ?_)))));refine IP ?_;refine Lq ?_;refine gk ?_;refine nT (0) ?_;refine pE [_,_,_,_] (fun _ hj => (hr.ext hj.hp.below).recAt TR.len hxx) ?_;refine gk ?_;refine nT (0) ?_;refine pE [_,_,_,_] (fun _ hj => (hr2.ext hj.hp.below).recAt TR.len hyy) ?_;refine aT ?_;intro f W hJ hV;have hb_3 := hJ.bl;obtain ⟨v31, v30, v29, v28, v27, v26, v25, _⟩ := hV;replace hh := hJ.hp;refine HZ ?_;dsimp only [cg];clear hJ;refine fY (hsd _) ak.out rfl rfl Ty ?_;rintro e_ w32 ⟨rfl, hb_⟩;refine ⟨_, rfl, ?_⟩;replace hh := hh.ext hb_;refine aI (aa (aq (sr (mI ?_))));refine bf (aB (aa (cT ?_)));refine p5 hh mixed fun w_ hj_ => ?_;replace hh := hj_.hp;clear hj_;refine cV (i := 6) (by repeat (first | exact cB | refine bO ?_ | refine cA ?_ | refine np_scope ?_)) rfl Tz Tz Tz (fun _ => ez rfl) Ty ?_;refine cV (i := 7) (by repeat (first | exact cB | refine bO ?_ | refine cA ?_ | refine np_scope ?_)) rfl Tz Tz Tz (fun _ => jh (l := 1) bg.out aN.size rfl rfl Tx Tx Tx) Ty ?_
     refine cV (i := 0) (by repeat (first | exact cB | refine bO ?_ | refine cA ?_ | refine np_scope ?_)) rfl Tz Tz Tz (fun _ => ez rfl) Ty ?_;refine cV (i := 1) (by repeat (first | exact cB | refine bO ?_ | refine cA ?_ | refine np_scope ?_)) rfl Tz Tz Tz (fun _ => ez rfl) Ty ?_;refine cV (i := 2) (by repeat (first | exact cB | refine bO ?_ | refine cA ?_ | refine np_scope ?_)) rfl Tz Tz Tz (fun _ => g6 (k := 0) bg.out aN.size rfl rfl Tx Tx) Ty ?_;refine fK (i := 3) Tz rfl ?_;refine JR ?_;refine fa ?_;refine fK (i := 4) Tz rfl ?_;refine z6 ?_;intro b55 w55 hh;refine fa ?_;refine fK (i := 5) Tz rfl ?_;refine o7 ?_;intro A56 c56 w56 hh;simp only [List.set_cons_zero, List.set_cons_succ] at hh;replace hh := hh.sub (List.sublist_cons_self _ _);refine fa ?_;refine kt 8 Ty Tz Ty Tz Tz ?_;refine aL (aL (aA (bA (bA (ai ?_)))));replace hh := hh.sub (List.Sublist.cons_cons _ List.Sublist.slnil);refine ⟨⟨_, n - 1, c - 1, X, some ad2, m, c2, y :: Y, O ++ [x], A56, c56, rfl, rfl, ?_, Tx, hc2, hSt, hS2, hmg.left h1, ?_⟩, by show (n - 1) + m < n + m; omega, ?_⟩
     ·show Value.slice _ (O.length + 1) _ = Value.slice _ (O ++ [x]).length _;rw [List.length_append]
      rfl
     ·rw [List.length_append, bV];exact hh
     ·exact dL
    | false =>
     cases h2 : jb y.m x.m with
     | true =>
      rw [h1, h2, if_neg Ty, if_pos rfl] at hsd;refine ah (sr (mL (aJ ?_)));refine vN ?_;refine bM ?_;refine fu ?_;refine aa (cT (ar (ai (aq (ah ?_)))));refine IP ?_;refine Lq ?_;refine gk ?_;refine nT (0) ?_;refine pE [_,_,_,_] (fun _ hj => (hr.ext hj.hp.below).recAt TR.len hxx) ?_;refine gk ?_;refine nT (0) ?_;refine pE [_,_,_,_] (fun _ hj => (hr2.ext hj.hp.below).recAt TR.len hyy) ?_;refine aT ?_;intro f W hJ hV;have hb_3 := hJ.bl;obtain ⟨v31, v30, v29, v28, v27, v26, v25, _⟩ := hV;replace hh := hJ.hp;refine HZ ?_;dsimp only [cg];clear hJ;refine fY (hsd _) ak.out rfl rfl Ty ?_;rintro e_ w32 ⟨rfl, hb_⟩;refine ⟨_, rfl, ?_⟩;replace hh := hh.ext hb_;refine aI (aa (aq (sr (mI ?_))));refine bf (aB (aa (cF (sr (mI ?_)))));refine bM (aB (aa (cT ?_)));refine p5 hh mixed fun w_ hj_ => ?_;replace hh := hj_.hp;clear hj_;refine cV (i := 6) (by repeat (first | exact cB | refine bO ?_ | refine cA ?_ | refine np_scope ?_)) rfl Tz Tz Tz (fun _ => ez rfl) Ty ?_;refine cV (i := 7) (by repeat (first | exact cB | refine bO ?_ | refine cA ?_ | refine np_scope ?_)) rfl Tz Tz Tz (fun _ => jh (l := 1) bg.out aN.size rfl rfl Tx Tx Tx) Ty ?_
      refine cV (i := 0) (by repeat (first | exact cB | refine bO ?_ | refine cA ?_ | refine np_scope ?_)) rfl Tz Tz Tz (fun _ => ez rfl) Ty ?_;refine cV (i := 1) (by repeat (first | exact cB | refine bO ?_ | refine cA ?_ | refine np_scope ?_)) rfl Tz Tz Tz (fun _ => ez rfl) Ty ?_;refine cV (i := 2) (by repeat (first | exact cB | refine bO ?_ | refine cA ?_ | refine np_scope ?_)) rfl Tz Tz Tz (fun _ => g6 (k := 0) bg.out aN.size rfl rfl Tx Tx) Ty ?_;refine fK (i := 3) Tz rfl ?_;refine II ?_;refine fa ?_;refine fK (i := 4) Tz rfl ?_;refine z6 ?_;intro b66 w66 hh;refine fa ?_;refine fK (i := 5) Tz rfl ?_;refine o7 ?_;intro A67 c67 w67 hh;simp only [List.set_cons_zero, List.set_cons_succ] at hh;replace hh := hh.sub (List.sublist_cons_self _ _);refine fa ?_;refine kt 8 Ty Tz Ty Tz Tz ?_;refine aL (aL (aA (bA (bA (ai ?_)))));replace hh := hh.sub (List.Sublist.cons_cons _ List.Sublist.slnil);refine ⟨⟨some ad, n, c, x :: X, _, m - 1, c2 - 1, Y, O ++ [y], A67, c67, rfl, rfl, ?_, hc, Tx, hS, hSt2, hmg.right h2, ?_⟩, by show n + (m - 1) < n + m; omega, ?_⟩
      ·show Value.slice _ (O.length + 1) _ = Value.slice _ (O ++ [y]).length _;rw [List.length_append]
       rfl
      ·rw [List.length_append, bV];exact hh
      ·exact dL
     | false =>
      rw [h1, h2, if_neg Ty, if_neg Ty] at hsd;have hsm := fun w1 hT1 => F9 x y k w1 hT1 (hmg.ox x List.mem_cons_self) (hmg.oy y List.mem_cons_self) hk;refine ah (sr (mL (aJ ?_)));refine vN ?_;refine bM ?_;refine fu ?_;refine aa (cT (ar (ai (aq (ah ?_)))));refine IP ?_;refine Lq ?_;refine gk ?_;refine nT (0) ?_;refine pE [_,_,_,_] (fun _ hj => (hr.ext hj.hp.below).recAt TR.len hxx) ?_;refine gk ?_;refine nT (0) ?_;refine pE [_,_,_,_] (fun _ hj => (hr2.ext hj.hp.below).recAt TR.len hyy) ?_;refine aT ?_;intro f W hJ hV;have hb_3 := hJ.bl;obtain ⟨v31, v30, v29, v28, v27, v26, v25, _⟩ := hV;replace hh := hJ.hp;refine HZ ?_;dsimp only [cg];clear hJ;refine fY (hsd _) ak.out rfl rfl Ty ?_;rintro e_ w32 ⟨rfl, hb_⟩;refine ⟨_, rfl, ?_⟩;replace hh := hh.ext hb_;refine aI (aa (aq (sr (mI ?_))));refine bf (aB (aa (cF (sr (mI ?_)))));refine bM (aB (aa (cF ?_)));refine p5 hh mixed fun w_ hj_ => ?_;replace hh := hj_.hp;clear hj_;refine cV (i := 11) (by repeat (first | exact cB | refine bO ?_ | refine cA ?_ | refine np_scope ?_)) rfl Tz Tz Tz (fun _ => ez rfl) Ty ?_
      refine cV (i := 12) (by repeat (first | exact cB | refine bO ?_ | refine cA ?_ | refine np_scope ?_)) rfl Tz Tz Tz (fun _ => jh (l := 1) bg.out aN.size rfl rfl Tx Tx Tx) Ty ?_;refine cV (i := 13) (by repeat (first | exact cB | refine bO ?_ | refine cA ?_ | refine np_scope ?_)) rfl Tz Tz Tz (fun _ => ez rfl) Ty ?_;refine cV (i := 14) (by repeat (first | exact cB | refine bO ?_ | refine cA ?_ | refine np_scope ?_)) rfl Tz Tz Tz (fun _ => jh (l := 1) bg.out aN.size rfl rfl Tx Tx Tx) Ty ?_;refine cV (i := 0) (by repeat (first | exact cB | refine bO ?_ | refine cA ?_ | refine np_scope ?_)) rfl Tz Tz Tz (fun _ => ez rfl) Ty ?_;refine cV (i := 1) (by repeat (first | exact cB | refine bO ?_ | refine cA ?_ | refine np_scope ?_)) rfl Tz Tz Tz (fun _ => ez rfl) Ty ?_;refine cV (i := 2) (by repeat (first | exact cB | refine bO ?_ | refine cA ?_ | refine np_scope ?_)) rfl Tz Tz Tz (fun _ => ez rfl) Ty ?_;refine cV (i := 3) (by repeat (first | exact cB | refine bO ?_ | refine cA ?_ | refine np_scope ?_)) rfl Tz Tz Tz (fun _ => g6 (k := 0) bg.out aN.size rfl rfl Tx Tx) Ty ?_
      refine cV (i := 5) (by repeat (first | exact cB | refine bO ?_ | refine cA ?_ | refine np_scope ?_)) rfl Tz Tz Tz (fun _ => ez rfl) Ty ?_;refine cV (i := 6) (by repeat (first | exact cB | refine bO ?_ | refine cA ?_ | refine np_scope ?_)) rfl Tz Tz Tz (fun _ => g6 (k := 0) bg.out aN.size rfl rfl Tx Tx) Ty ?_;refine sS (i := 4) (i2 := 7) Tz rfl rfl ?_ ?_
      ·refine JR ?_;refine fa ?_;refine fK (i := 7) Tz rfl ?_;refine II ?_;exact MK
      ·refine II ?_;refine fa ?_;refine fK (i := 4) Tz rfl ?_;refine JR ?_;exact MK
section
variable {ro : Mode}
theorem oL {w : World} {b b' : Nat} {t : TypeId} {sz n c : Nat} {A : Option Addr} {xs : List Value} (h : w.ownsRow b t sz (.slice A n c) n xs) (hb : b' ≤ b) : w.ownsRow b' t sz (.slice A n c) n xs :=
 ⟨h.1, h.2.imp id fun ⟨g, cap, cur, h1, h2, h3⟩ => ⟨g, cap, cur, h1, Nat.le_trans hb h2, h3⟩⟩
theorem mg {w : World} {b b' : Nat} {x : HE} (h : x.holds b w) (hb : b' ≤ b) : x.holds b' w := by
 cases x with
 | blk b t cs fz => exact ⟨Nat.le_trans hb h.1, h.2⟩
 | row A n c t sz xs => exact oL h hb
 | ob b o => exact ⟨Nat.le_trans hb h.1, h.2⟩
theorem Hp.perm {w0 w : World} {H H' : List HE} (h : Hp w0 H w) (hp : H.Perm H') : Hp w0 H' w :=
 ⟨h.below, fun x hx => h.own x (hp.mem_iff.2 hx), (hp.filterMap _).nodup_iff.1 h.nd⟩
theorem Hp.eO {w0 w : World} {H : List HE} (h : Hp w0 H w) {i n c sz : Nat} {A : Option Addr} {t : TypeId} {xs : List Value} (hi : H[i]? = some (.row A n c t sz xs)) : n ≤ c := by
 have h1 : w.ownsRow w0.heap.size t sz (.slice A n c) n xs := h.at_ hi
 rcases h1.2 with ⟨_, h3⟩ | ⟨g, cap, cur, h2, _, _, h5, _⟩
 ·omega
 ·injection h2 with _ _ e3
  omega
theorem Hp.join {w0 w w' : World} {H H2 : List HE} (h : Hp w0 H w) (h2 : Hp w H2 w') : Hp w0 (H2 ++ H) w' := by
 have h' := h.ext h2.below;refine ⟨h'.below, fun x hx => ?_, ?_⟩
 ·rcases List.mem_append.1 hx with hx | hx
  ·exact mg (h2.own x hx) h.size
  ·exact h'.own x hx
 ·rw [List.filterMap_append, List.nodup_append];refine ⟨h2.nd, h.nd, fun a ha b hb hab => ?_⟩;subst hab;obtain ⟨x, hx, hxa⟩ := List.mem_filterMap.1 ha;obtain ⟨y, hy, hya⟩ := List.mem_filterMap.1 hb;have h3 := dJ (h2.own x hx) hxa;have h4 := dJ (h.own y hy) hya;omega
section
variable {P : Program} {N : Nat} {ops : Array Oper} {Q : Kq} {ρ : Rf} {w w0 : World} {rest : List Oper} {H : List HE} {ty : TypeId} {pos : String} {af : Array Edge}
theorem K6 {o : Oper} {v : Value} {w' : World} (hg : o.guard = none) (hd : o.dst = none)
  (hr : (execOp (ev ρ) o).run P w = .ok (.value v) w') (k : WL ro P N ops Q rest ρ w') : WL ro P N ops Q (o :: rest) ρ w :=
 ⟨fun hm a hf => wpList_plain hg fun K hK => by
  unfold Oper.wp;rw [hf.eval, hr];show K (a.put o.dst v) w';rw [hd];exact hK _ _ (k.l9 hm _ hf),
 fun a hf n => wpListIn_plain hg fun K hK => by
  refine ⟨fun _ _ => trivial, ?_⟩;rw [hf.eval, k7 _ hr (fun _ h => by cases h)];show K (a.put o.dst v) w';rw [hd];exact hK _ _ (k.jy _ hf n)⟩
theorem Bi {α : Type} {l : List α} {i : Nat} {x : α} (h : l[i]? = some x) : l.set i x = l := by
 obtain ⟨h1, rfl⟩ := List.getElem?_eq_some_iff.1 h;exact List.set_getElem_self h1
end
abbrev Hp.sz {w0 w : World} {H : List HE} (_ : Hp w0 H w) : Nat := w.heap.size
theorem Jj {base : Nat} {W : World} {A : Option Addr} {n c sz b : Nat} {t' t : TypeId} {xs : List Value} {cs : Array Value} {fz : Nat × Nat} (h : HE.holds base W (.row A n c t' sz xs)) (h3 : W.heap[b]? = some (.cells cs t fz)) (hne : t' ≠ t) : (HE.row A n c t' sz xs).id ≠ some b := by
 intro hid
 rcases h.2 with ⟨h1, _⟩ | ⟨g, cap, cur, h1, _, h4, _⟩
 ·injection h1 with e1
  subst e1
  cases hid
 ·injection h1 with e1
  subst e1;obtain rfl : g = b := Option.some.inj hid;rw [h3] at h4;injection h4 with h4
  injection h4 with _ h5
  exact hne h5.symm
theorem JJ.qd {w0 w W w1 : World} {H L : List HE} {t : TypeId} {cs : List Value} {b : Nat} (hJ : JJ w0 H w W) (hs : Hp w0 H w) (h2 : w.heap.size ≤ b) (h3 : W.heap[b]? = some (.cells cs.toArray t (0, 0))) (hb : w.heap.size ≤ w1.heap.size) (hL : Hp w1 L W) (hne : ∀ x ∈ L, x.id ≠ some b) : Hp w0 (.blk b t cs (0, 0) :: (L ++ H)) W := by
 have h1 := hs.join (⟨hJ.bl, fun x hx => mg (hL.own x hx) hb, hL.nd⟩ : Hp w L W);refine ⟨h1.below, fun x hx => ?_, ?_⟩
 ·rcases List.mem_cons.1 hx with rfl | hx
  ·exact ⟨Nat.le_trans hs.size h2, h3, .inr (Nat.le_refl _)⟩
  ·exact h1.own x hx
 ·rw [List.filterMap_cons];show (b :: (L ++ H).filterMap HE.id).Nodup;refine List.nodup_cons.2 ⟨fun hm => ?_, h1.nd⟩;obtain ⟨y, hy, hyb⟩ := List.mem_filterMap.1 hm
  rcases List.mem_append.1 hy with hy | hy
  ·exact hne y hy hyb
  ·have := (dJ (hs.own y hy) hyb).2;omega
theorem Ml {base : Nat} {W : World} {A A' : Option Addr} {n c sz n' c' sz' : Nat} {t t' : TypeId} {xs xs' : List Value} (h : HE.holds base W (.row A n c t sz xs)) (h' : HE.holds base W (.row A' n' c' t' sz' xs')) (hne : t ≠ t') (b : Nat) (h1 : (HE.row A n c t sz xs).id = some b) : (HE.row A' n' c' t' sz' xs').id ≠ some b := by
 rcases h.2 with ⟨h2, _⟩ | ⟨g, cap, cur, h2, _, h4, _⟩
 ·injection h2 with e1
  subst e1
  cases h1
 ·injection h2 with e1
  subst e1;obtain rfl : g = b := Option.some.inj h1;exact Jj h' h4 (fun e => hne e.symm)
def Gd (base : Nat) (t : TypeId) (n sz : Nat) (cs : List Value) : VP := fun v W => ∃ A c, v = .slice A n c ∧ W.ownsRow base t sz (.slice A n c) n cs
theorem Gd.ext {base : Nat} {t : TypeId} {n sz : Nat} {cs : List Value} (v : Value) (w w' : World) (h : Gd base t n sz cs v w) (hb : Below w.heap.size w w') : Gd base t n sz cs v w' := let ⟨A, c, h1, h2⟩ := h; ⟨A, c, h1, tZ h2 hb⟩
def SI (base : Nat) (t1 t2 : TypeId) (n1 s1 n2 s2 : Nat) (xs1 xs2 : List Value) : VP := fun v W => ∃ A c B k, v = .agg #[.slice A n1 c, .slice B n2 k] ∧ W.ownsRow base t1 s1 (.slice A n1 c) n1 xs1 ∧ W.ownsRow base t2 s2 (.slice B n2 k) n2 xs2
end
structure RX where
 A : Option Addr
 n : Nat
 c : Nat
 ts : List TR
def ku (k : Nat) (l : List TR) : VP := fun v W => ∃ g : RX, v = .slice g.A g.n g.c ∧ (g.n ≤ g.c ∧ g.ts.length = g.n ∧ MD k l g.ts ∧ Sl W g.A g.n 4 (az TR.cells g.ts))
theorem ku.ext {k : Nat} {l : List TR} (v : Value) (w w' : World) (h : ku k l v w) (hb : Below w.heap.size w w') : ku k l v w' := let ⟨g, h1, h2, h3, h4, h5⟩ := h; ⟨g, h1, h2, h3, h4, h5.ext hb⟩
theorem MD.JP {k k1 k2 j : Nat} {l1 l2 L1 L2 L : List TR} (h1 : MD k1 l1 L1) (h2 : MD k2 l2 L2) (h : MD k (L1 ++ L2) L) (hk : k ≤ j) : MD j (l1 ++ l2) L :=
 ⟨h.rj, fun m => by rw [h.co, eQ, h1.co, h2.co, eQ], by have a := h.len; have b := h1.len; have c := h2.len; rw [List.length_append] at a ⊢; omega, h.ok.mono hk, fun t ht => by
  obtain ⟨s, hs, e⟩ := h.mem t ht
  rcases List.mem_append.1 hs with hs | hs
  ·obtain ⟨u, hu, e2⟩ := h1.mem s hs;exact ⟨u, List.mem_append_left _ hu, e2.trans e⟩
  ·obtain ⟨u, hu, e2⟩ := h2.mem s hs;exact ⟨u, List.mem_append_right _ hu, e2.trans e⟩⟩
theorem mG (k : Nat) : ∀ (N : Nat) (A : Option Addr) (n c : Nat) (l : List TR) (w : World), n ≤ N → ee w → Sl w A n 4 (az TR.cells l) → n ≤ c → n ≤ 1000000 → k + n ≤ 3999980 → iO k l →
  Calls Tryz.prog 162 #[.slice A n c, .func (.func 76) #[] #[], .func (.func 77) #[] #[]] w fun r w' => (n < 2 ∧ r = .returned (.slice A n c) ∧ Below w.heap.size w w') ∨ (2 ≤ n ∧ ∃ (L : List TR) (A' : Option Addr) (c' : Nat), MD (k + n) l L ∧ r = .returned (.slice A' L.length c') ∧ Hp w [.row A' L.length c' 96 4 (az TR.cells L)] w')
 | 0, A, n, c, l, w, hN, hT, hS, hc, hn, hk, hok => by
  have hh := Hp.start w;obtain rfl : n = 0 := Tx;refine aj (N := 30) (l := [.slice A 0 c, .func (.func 76) #[] #[], .func (.func 77) #[] #[]]) Tryz.func162 rfl rfl (by simp) ?_;refine sr (aL (aa (ah (sr (mL (aJ ?_))))));refine bf (aa (cT (sr (mL (aL (aa (av (aG ?_))))))));refine cX ?_;exact .inl ⟨Tx, rfl, hh.below⟩
 | N + 1, A, n, c, l, w, hN, hT, hS, hc, hn, hk, hok => by
  have hh := Hp.start w;have hl := hS.bk TR.len Ty;by_cases h2 : n < 2
  ·refine aj (N := 30) (l := [.slice A n c, .func (.func 76) #[] #[], .func (.func 77) #[] #[]]) Tryz.func162 rfl rfl (by simp) ?_;refine sr (aL (aa (ah (sr (mL (aJ ?_))))));refine bf (aa (cT (sr (mL (aL (aa (av (aG ?_))))))));refine cX ?_;exact .inl ⟨h2, rfl, hh.below⟩
  ·obtain ⟨h, hhalf⟩ : ∃ h, h = n / 2 := ⟨_, rfl⟩;have hh1 : 1 ≤ h := Tx;have hh2 : h + h ≤ n := Tx;have hh3 : n ≤ h + h + 1 := Tx;have hq : ((n : Int)) / 2 = (h : Int) := Tx;have hS1 := hS.front (m := h) Tx;rw [show (az TR.cells l).take (h * 4) = az TR.cells (l.take h) from kR TR.len l h] at hS1;have hS2 := hS.back (l := h) Tx hc;rw [show (az TR.cells l).drop (h * 4) = az TR.cells (l.drop h) from jF TR.len l h] at hS2;have o1 : iO k (l.take h) := fun t ht => hok t (List.mem_of_mem_take ht);have o2 : iO k (l.drop h) := fun t ht => hok t (List.mem_of_mem_drop ht);have rd : ∀ {A' : Option Addr} {n' c' : Nat} {l' : List TR} {r : Ending} {w1 w' : World}, Sl w1 A' n' 4 (az TR.cells l') → n' ≤ c' → iO k l' → ((n' < 2 ∧ r = .returned (.slice A' n' c') ∧ Below w1.heap.size w1 w') ∨ (2 ≤ n' ∧ ∃ (L : List TR) (B : Option Addr) (b : Nat), MD (k + n') l' L ∧ r = .returned (.slice B L.length b) ∧ Hp w1 [.row B L.length b 96 4 (az TR.cells L)] w')) → ∃ v, r = .returned v ∧ Below w1.heap.size w1 w' ∧ ku (k + n') l' v w' := by
    rintro A' n' c' l' r w1 w' hs hc' ho (⟨h1, rfl, hb⟩ | ⟨h1, L, B, b, hm, rfl, h3⟩)
    ·have e := hs.bk TR.len Ty;exact ⟨_, rfl, hb, ⟨A', n', c', l'⟩, rfl, hc', e, (MD.self (wH Tx) ho).mono Tx, hs.ext hb⟩
    ·exact ⟨_, rfl, h3.below, ⟨B, L.length, b, L⟩, rfl, h3.eO (i := 0) rfl, rfl, hm, h3.aC (i := 0) rfl⟩
   have ih1 := fun w1 (hT1 : ee w1) (hb : Below w.heap.size w w1) => mG k N A h c (l.take h) w1 Tx hT1 (hS1.ext hb) Tx Tx Tx o1;have ih2 := fun w1 (hT1 : ee w1) (hb : Below w.heap.size w w1) => mG k N _ (n - h) (c - h) (l.drop h) w1 Tx hT1 (hS2.ext hb) Tx Tx Tx o2;refine aj (N := 30) (l := [.slice A n c, .func (.func 76) #[] #[], .func (.func 77) #[] #[]]) Tryz.func162 rfl rfl (by simp) ?_;refine sr (aL (aa (ah (sr (mL (aJ ?_))))));refine bf (aa (cF (ar (ai (sr (mL (aJ ?_)))))));refine nP ?_;refine aI (aa (ah ?_));rw [hq];refine aY 14 [[(0, none)], [(7, none)], [(15, some 0), (16, some 1)], [(1, none)], [(2, none)], [(17, some 2), (18, some 3), (19, some 4)], [(0, none)], [(7, none)], [(21, some 6), (22, some 7)], [(1, none)], [(2, none)], [(23, some 8), (24, some 9), (25, some 10)], [(1, none)], [(2, none)]] [(13, 28), (12, 27), (11, 26), (10, 25), (9, 24), (8, 23), (7, 22), (6, 21), (5, 20), (4, 19), (3, 18), (2, 17), (1, 16), (0, 15)] hh mixed Tz ?_;refine gk ?_;refine dE ?_;refine bp (i := 2) (fun ρ1 w1 hj hR => BD (h := h) bg.out aN.size (show ρ1 15 = Value.slice _ _ _ from hR.1) (show ρ1 16 = Value.int _ _ from hR.2.1) Tx Tx) ?_;refine Lq ?_;refine Lq ?_
   refine aR (i := 5) (ku (k + h) (l.take h)) (ku.ext) ?_ ?_
   ·intro ρ1 w1 hj hR;exact a8 rfl (aM ak.out (aw (show ρ1 17 = Value.slice _ _ _ from hR.1) (aw (show ρ1 18 = Value.func _ _ _ from hR.2.1) (aw (show ρ1 19 = Value.func _ _ _ from hR.2.2.1) aX)))) (ih1 w1 (hT.hp hj.hp) hj.hp.below) (fun _ _ hq => rd (hS1.ext hj.hp.below) Tx o1 hq)
   refine gk ?_;refine dE ?_;refine bp (i := 8) (fun ρ1 w1 hj hR => jh (l := h) bg.out aN.size (show ρ1 21 = Value.slice _ _ _ from hR.1) (show ρ1 22 = Value.int _ _ from hR.2.1) Tx Tx Tx) ?_;refine Lq ?_;refine Lq ?_;refine aR (i := 11) (ku (k + (n - h)) (l.drop h)) (ku.ext) ?_ ?_
   ·intro ρ1 w1 hj hR;exact a8 rfl (aM ak.out (aw (show ρ1 23 = Value.slice _ _ _ from hR.1) (aw (show ρ1 24 = Value.func _ _ _ from hR.2.1) (aw (show ρ1 25 = Value.func _ _ _ from hR.2.2.1) aX)))) (ih2 w1 (hT.hp hj.hp) hj.hp.below) (fun _ _ hq => rd (hS2.ext hj.hp.below) Tx o2 hq)
   refine Lq ?_;refine Lq ?_;refine aT ?_;intro f W hJ hV;have hb_4 := hJ.bl;obtain ⟨v28, v27, v26, v25, v24, v23, v22, v21, v20, v19, v18, v17, v16, v15, _⟩ := hV;obtain ⟨g20, e20, o20⟩ : ku (k + h) (l.take h) (f 5) W := v20;obtain ⟨g26, e26, o26⟩ : ku (k + (n - h)) (l.drop h) (f 11) W := v26;replace hh := hJ.hp;refine a6 (bm (ae v28 (ae v27 (ae e26 (ae v25 (ae v24 (ae v23 (ae v22 (ae v21 (ae e20 (ae v19 (ae v18 (ae v17 (ae v16 (ae v15 a0))))))))))))))) ?_;dsimp only [cg];clear e20 e26 hJ;obtain ⟨p1, p2, p3, p4⟩ := o20;obtain ⟨q1, q2, q3, q4⟩ := o26;have l1 := p3.len;have l2 := q3.len;rw [List.length_take] at l1;rw [List.length_drop] at l2;refine aE (pL g20.A g20.n g20.c g20.ts g26.A g26.n g26.c g26.ts (k + (n - h)) _ (hT.hp hh) p4 q4 p1 q1 Tx Tx Tx p3.rj q3.rj (p3.ok.mono Tx) (q3.ok.mono Tx)) ak.out rfl Ty ?_;rintro e_ w29 ⟨L, A', c', hm, rfl, h3⟩;refine ⟨_, rfl, ?_⟩;replace hh := hh.join h3;refine aL (aa (av ?_));refine cX ?_;refine .inr ⟨Tx, L, A', c', ?_, rfl, hh⟩;have := p3.JP q3 hm (j := k + n) Tx;rwa [List.take_append_drop] at this
section
variable {ro : Mode}
section
variable {P : Program} {N : Nat} {ops : Array Oper} {Q : Kq} {ρ : Rf} {w w0 : World} {rest : List Oper} {H : List HE} {ty d : Nat} {pos : String} {af : Array Edge}
theorem yr (hh : Hp w0 H w) {t e : TypeId} {x : Operand} {i p c m c' o sz by' g : Nat} {ag : Bool} {zc xs : List Value} (hi : H[i]? = some (.row (some ⟨g, 0, none⟩) p c e sz xs)) (hx : ev ρ x = .slice (some ⟨g, o, none⟩) m c') (ho : p * sz ≤ o) (hom : o + m * sz ≤ c * sz) (hm : 0 < m)
  (ht : P.underlying t = some (.slice e)) (hte : dn P e = some (sz, ag, by', zc)) (hzl : zc.length = sz) (h1 : (zc.all Value.oneCell') = true)
  (k : ∀ w', Hp w0 H w' → WL ro P N ops Q rest ρ w') : WL ro P N ops Q (⟨none, .call ⟨.builtin .clear, #[x], #[t]⟩, ty, pos, af, none⟩ :: rest) ρ w := by
 obtain ⟨z, hz, hzc⟩ := dx (w := w) hte;obtain ⟨hlen, h2⟩ := hh.at_ hi
 rcases h2 with ⟨h2, _⟩ | ⟨g', cap, cur, hv, hg, hheap, hmc, hcm, hcur, htake⟩
 ·cases h2
 ·injection hv with hA hn hcap
  injection hA with hA
  injection hA with hA
  subst hA; subst hcap;have hcl : cur.size = cur.toList.length := by simp
  have hzr : (fk m zc).length = m * sz := by rw [mK, hzl]
  have hall : ∀ v ∈ fk m zc, v.oneCell' = true := fun v hv => by
   obtain ⟨j, hj⟩ := List.mem_iff_getElem?.1 hv;have hj2 := (List.getElem?_eq_some_iff.1 hj).1;rw [mK] at hj2;rw [xj m zc j hj2] at hj;exact List.all_eq_true.1 h1 v (List.mem_of_getElem? hj)
  obtain ⟨w', hr, hb', hgr, hs⟩ := gF (P := P) (b := g) (t := e) (fz := (0, 0)) o (fk m zc) 0 cur.toList w (by simpa using hheap) (.inr (Nat.le_refl _)) (by rw [← hcl, hzr]; omega) hall;have hset := Bi hi;refine K6 rfl rfl (w' := w') (v := .tuple #[]) ?_ (k w' (hset ▸ hh.grown hi hgr (.inl rfl) ⟨hlen, .inr ⟨g, c, (cm cur.toList (o + 0) (fk m zc)).toArray, rfl, hg, by simpa using hb', hmc, hcm, ?_, ?_⟩⟩))
  ·simp only [execOp, resolve, invoke, hx, List.map_toArray, List.map_cons, List.map_nil];have hzz : Builtin.zeroCells z.cells m = (fk m zc).toArray := by
    rw [Builtin.zeroCells, hzc, List.size_toArray]; exact ue m zc
   obtain ⟨q, rfl⟩ : ∃ q, m = q + 1 := ⟨m - 1, Tx⟩;simp [builtin, Builtin.clear_, run_underlying ht, hz, hzz, hr]
  ·simp only [List.size_toArray];rw [ff (by rw [← hcl, hzr]; omega), ← hcl, hcur]
  ·simp only [cm];rw [List.append_assoc, List.take_append_of_le_length (by rw [List.length_take, ← hcl]; omega), List.take_take, Nat.min_eq_left Tx];exact htake
end
end
section
variable {ro : Mode}
section
variable {P : Program} {N : Nat} {ops : Array Oper} {Q : Kq} {ρ : Rf} {w w0 : World} {rest : List Oper} {d : Nat} {ty : TypeId} {pos : String} {af : Array Edge}
theorem sA {t e u : TypeId} {x y : Operand} {A : Option Addr} {n c n' c' : Nat} (ht : P.underlying t = some (.slice e)) (hx : ev ρ x = .slice A n c) (hy : ev ρ y = .slice none n' c') (hN : d < N)
  (kk : WL ro P N ops Q rest (cG ρ d (.bool A.isNone)) w) : WL ro P N ops Q (⟨some d, .binOp .eql t x y u, ty, pos, af, none⟩ :: rest) ρ w :=
 aQ rfl rfl hN (by
  have h1 := Go.Lib.run_eql_slice_nil (P := P) w t e A n c n' c' ht;simp only [execOp, hx, hy];simp [eqGuard, h1]) kk
end
end
theorem sW (A : Option Addr) (n c : Nat) (l : List TR) (g : FuncId) (cap : List Value) (p : TR → Bool) (w : World) (hS : Sl w A n 4 (az TR.cells l)) (hn : n ≤ 1000000) [ak Tryz.prog g]
  (hg : ∀ (z : TR) (w1 : World), z ∈ l → Below w.heap.size w w1 → Calls Tryz.prog g (.agg #[.string z.m, .bool z.c.neg, .string z.c.bo, .int .i64 z.c.e] :: cap).toArray w1 fun r w' => r = .returned (.bool (p z)) ∧ Below w1.heap.size w1 w') :
  Calls Tryz.prog 205 #[.slice A n c, .func (.func g) #[] cap.toArray] w fun r w' => ∃ v, r = .returned (.int .i64 v) ∧ ((l.any p = false ∧ v = -1) ∨ ∃ (i : Nat) (z : TR), i < n ∧ v = i ∧ (l.take i).any p = false ∧ l[i]? = some z ∧ p z = true) ∧ Below w.heap.size w w' := by
 have hh := Hp.start w;have hln := hS.bk TR.len Ty;refine aj (N := 19) (l := [.slice A n c, .func (.func g) #[] cap.toArray]) Tryz.func205 rfl rfl (by simp) ?_;refine yS ?_;refine aP [4, 5, 8, 9, 10, 11, 12, 13, 14, 15, 16, 17, 18] 8
  (fun v w' => ∃ i : Nat, i ≤ n ∧ v = .int .i64 i ∧ (l.take i).any p = false ∧ Hp w [] w')
  (fun v _ => n - (intOf v).toNat) ?_ ?_
 ·exact ⟨0, Nat.zero_le _, rfl, rfl, hh⟩
 ·clear hh;rintro ρ' v w' ⟨i, hi, rfl, hall, hh⟩;by_cases hlt : i < n
  ·obtain ⟨z, hz⟩ := ao (l := l) (k := i) Tx;obtain ⟨ad, rfl, hr⟩ := hS.at_ Tx;have hc := fun w1 => hg z w1 (List.mem_of_getElem? hz)
   cases gz : p z with
   | true =>
    rw [gz] at hc;refine sr ?_;refine ra ?_;refine iI ?_;refine mL (mI ?_);refine cn ?_;refine ct (vs := [_, _, _, _]) aN.out rfl ((hr.ext hh.below).recAt TR.len hz) rfl Ty ?_;refine fY (hc _ hh.below) ak.out rfl rfl Ty ?_;rintro e_ w16 ⟨rfl, hb_⟩;refine ⟨_, rfl, ?_⟩;replace hh := hh.ext hb_;refine aa (cT (sr (mI (aI (aa (av (bY (aG (aG (bY (aG ?_)))))))))));refine cX ?_;exact ⟨_, rfl, .inr ⟨i, z, hlt, rfl, hall, hz, gz⟩, hh.below⟩
   | false =>
    rw [gz] at hc;refine sr ?_;refine ra ?_;refine iI ?_;refine mL (mI ?_);refine cn ?_;refine ct (vs := [_, _, _, _]) aN.out rfl ((hr.ext hh.below).recAt TR.len hz) rfl Ty ?_;exact EF
  ·rw [List.take_of_length_le Tx] at hall;refine sr ?_;refine Ea ?_;refine cX ?_;exact ⟨_, rfl, .inl ⟨hall, rfl⟩, hh.below⟩
theorem Da (A : Option Addr) (n c : Nat) (l : List TR) (g : FuncId) (cap : List Value) (p : TR → Bool) (w : World) (hS : Sl w A n 4 (az TR.cells l)) (hn : n ≤ 1000000) [ak Tryz.prog g]
  (hg : ∀ (z : TR) (w1 : World), z ∈ l → Below w.heap.size w w1 → Calls Tryz.prog g (.agg #[.string z.m, .bool z.c.neg, .string z.c.bo, .int .i64 z.c.e] :: cap).toArray w1 fun r w' => r = .returned (.bool (p z)) ∧ Below w1.heap.size w1 w') :
  Calls Tryz.prog 157 #[.slice A n c, .func (.func g) #[] cap.toArray] w fun r w' => r = .returned (.bool (l.any p)) ∧ Below w.heap.size w w' := by
 have hh := Hp.start w;refine aj (N := 9) (l := [.slice A n c, .func (.func g) #[] cap.toArray]) Tryz.func157 rfl rfl (by simp) ?_;refine sr (aB (aa (sr (mL ?_))));refine iI ?_;refine aE (sW A n c l g cap p _ (hS.ext hh.below) hn hg) ak.out rfl Ty ?_;rintro e_ w7 ⟨v_, rfl, hv_, hb_⟩;refine ⟨_, rfl, ?_⟩;replace hh := hh.ext hb_
 rcases hv_ with ⟨ha, rfl⟩ | ⟨i, z, hi, rfl, ht, hz, hp⟩
 ·rw [ha];exact Dv
 ·rw [show l.any p = true from List.any_eq_true.2 ⟨z, List.mem_of_getElem? hz, hp⟩];exact Dv
theorem lO (A : Option Addr) (n c : Nat) (l : List TR) (w : World) (hS : Sl w A n 4 (az TR.cells l)) (hn : n ≤ 1000000) :
  Calls Tryz.prog 79 #[.slice A n c] w fun r w' => ∃ A' c', r = .returned (.slice A' n c') ∧ w'.ownsRow w.heap.size 96 4 (.slice A' n c') n (az TR.cells l) ∧ Below w.heap.size w w' := by
 have hh := Hp.start w;have oX := cq TR.one l
 rcases A with _ | ad
 ·have hn0 : n = 0 := by
   exact OC
  subst hn0;have hl : l = [] := List.eq_nil_of_length_eq_zero (by have := hS.bk TR.len Ty; omega);subst hl;refine aj (N := 8) (l := [.slice none 0 c]) Tryz.func79 rfl rfl (by simp) ?_;exact OX
 ·refine aj (N := 8) (l := [.slice (some ad) n c]) Tryz.func79 rfl rfl (by simp) ?_;refine sr (aL (aa (ah (sr (mL ?_)))));refine sA bg.out rfl rfl Ty ?_;refine qZ ?_;refine jL hh bg.out aN.out Ty ?_;intro b5 w5 hh;refine mL ?_;refine cJ hh (i := 0) rfl rfl rfl (hS.ext hh.below) bg.out aN.out rfl Ty ?one7 Tx Tx Ty ?kk7
  case one7 => first | rfl | assumption | exact bX _ | exact oneCells_u8s _
  exact O9
theorem zz {α : Type} {l : List α} {i j : Nat} (h : i < j) (x : α) : (l.set i x).drop j = l.drop j := by
 refine List.ext_getElem? fun k => ?_;rw [List.getElem?_drop, List.getElem?_drop, List.getElem?_set, if_neg Tx]
theorem vd {α : Type} {l : List α} {i : Nat} (h : i < l.length) (x : α) : (l.set i x).take (i + 1) = l.take i ++ [x] := by
 rw [ay (show (l.set i x)[i]? = some x by rw [List.getElem?_set, if_pos rfl, if_pos h]), List.take_set_of_le (Nat.le_refl _)]
theorem Dh {w0 : World} {Hr : List HE} (A : Option Addr) (n c : Nat) (l : List TR) (g : FuncId) (p : TR → Bool) (w : World) (hh : Hp w0 (.row A n c 96 4 (az TR.cells l) :: Hr) w) (hl : l.length = n) (hn : n ≤ 1000000) [ak Tryz.prog g]
  (hg : ∀ (z : TR) (w1 : World), z ∈ l → Calls Tryz.prog g (.agg #[.string z.m, .bool z.c.neg, .string z.c.bo, .int .i64 z.c.e] :: []).toArray w1 fun r w' => r = .returned (.bool (p z)) ∧ Below w1.heap.size w1 w') :
  Calls Tryz.prog 161 #[.slice A n c, .func (.func g) #[] #[]] w fun r w' => r = .returned (.slice A (l.filter fun z => !p z).length c) ∧ Hp w0 (.row A (l.filter fun z => !p z).length c 96 4 (az TR.cells (l.filter fun z => !p z)) :: Hr) w' := by
 have hc := hh.eO (i := 0) rfl;have hsl := hh.aC (i := 0) rfl;refine aj (N := 42) (l := [.slice A n c, .func (.func g) #[] #[]]) Tryz.func161 rfl rfl (by simp) ?_;refine sr (aL (aa (sr (mL ?_))));refine iI ?_;refine aE (sW A n c l g [] p _ hsl hn (fun z w1 hz _ => hg z w1 hz)) ak.out rfl Ty ?_;rintro e_ w10 ⟨v_, rfl, hv_, hb_⟩;refine ⟨_, rfl, ?_⟩;replace hh := hh.ext hb_
 rcases hv_ with ⟨ha, rfl⟩ | ⟨i0, z0, hi0, rfl, ht0, hz0, hp0⟩
 ·have hf : (l.filter fun z => !p z) = l := List.filter_eq_self.2 fun z hz => by
   have := List.any_eq_false.1 ha z hz;simpa using this
  rw [hf, hl];refine aI (aa (ah (sr (mI ?_))));refine cW (aa (cT (sr (mL (aL (aa (av (aG ?_))))))));refine cX ?_;exact ⟨rfl, hh⟩
 ·have hf0 : ((l.take (i0 + 1)).filter fun z => !p z) = l.take i0 := by
   rw [ay hz0, List.filter_append, List.filter_cons_of_neg (by rw [hp0]; decide), List.filter_nil, List.append_nil];exact List.filter_eq_self.2 fun z hz => by
    have := List.any_eq_false.1 ht0 z hz;simpa using this
  obtain ⟨g0, rfl⟩ := hh.cd (i := 0) rfl Tx;refine aI (aa (ah (sr (mI ?_))));refine cW (aa (cF (ar (ai (ah (sr (mI ?_)))))));refine bh (aI (aa (aq ?_)));refine bJ [5, 6, 7, 16, 17, 18, 19, 20, 21, 22, 23, 24, 25, 26, 27, 28, 29, 30, 31, 32, 33, 34, 35] 5 6
   (fun v5 v6 w' => ∃ (i j : Nat) (X : List TR), i < j ∧ j ≤ n ∧ v5 = .int .i64 i ∧ v6 = .int .i64 j ∧ X.length = n ∧ i = ((l.take j).filter fun z => !p z).length ∧ X.take i = ((l.take j).filter fun z => !p z) ∧ X.drop j = l.drop j ∧ Hp w0 (.row (some ⟨g0, 0, none⟩) n c 96 4 (az TR.cells X) :: Hr) w')
   (fun _ v _ => n - (intOf v).toNat) ?_ ?_
  ·exact ⟨i0, i0 + 1, l, Tx, Tx, rfl, rfl, hl, by rw [hf0, List.length_take]; omega, hf0.symm, rfl, hh⟩
  ·clear hh;rintro ρ' v5 v6 w' ⟨i, j, X, hij, hj, rfl, rfl, hX, hi, htk, hdr, hh⟩;by_cases hlt : j < n
   ·obtain ⟨z, hz⟩ := ao (l := l) (k := j) Tx;have hXj : X[j]? = some z := by
     have h1 : (X.drop j)[0]? = (l.drop j)[0]? := by rw [hdr]
     rw [List.getElem?_drop, List.getElem?_drop, Nat.add_zero] at h1;rw [h1, hz]
    have hgz := fun w1 => hg z w1 (List.mem_of_getElem? hz);have hdr2 : X.drop (j + 1) = l.drop (j + 1) := by rw [← List.drop_drop, ← List.drop_drop, hdr]
    have hrl := eF TR.len X;refine ah (sr (mI (mL (aJ ?_))));refine mD ?_;refine rn ?_;refine ct (vs := [_, _, _, _]) aN.out rfl (hh.eU (f := TR.cells) (x := z) (l := X) (i := 0) rfl TR.len Ty hXj) rfl Ty ?_;refine bR hh ?_;intro b7 w7 hh;refine bW hh 0 [_,_,_,_] ?_;intro ws hh;replace hh : Hp _ (.blk _ _ [_, _, _, _] _ :: _) _ := hh;refine aa (sr ?_);refine iI ?_;refine cD hh 0 [_,_,_,_] ?_
    cases hpz : p z with
    | true =>
     rw [hpz] at hgz;have hfl : ((l.take (j + 1)).filter fun z => !p z) = ((l.take j).filter fun z => !p z) := by rw [ay hz, List.filter_append, List.filter_cons_of_neg (by rw [hpz]; decide), List.filter_nil, List.append_nil]
     refine fY (hgz _) ak.out rfl rfl Ty ?_;rintro e_ w28 ⟨rfl, hb_⟩;refine ⟨_, rfl, ?_⟩;replace hh := hh.ext hb_;refine gC ?_;refine oS ?_;refine bh (aI (aA (ai ?_)));replace hh := hh.sub (List.Sublist.cons _ (List.Sublist.cons_cons _ (List.Sublist.refl _)));refine ⟨⟨i, j + 1, X, Tx, Tx, rfl, rfl, hX, by rw [hfl]; exact hi, by rw [hfl]; exact htk, hdr2, hh⟩, by show n - (j + 1) < n - j; omega, ?_⟩;exact dL
    | false =>
     rw [hpz] at hgz;have hfl : ((l.take (j + 1)).filter fun z => !p z) = ((l.take j).filter fun z => !p z) ++ [z] := by rw [ay hz, List.filter_append, List.filter_cons_of_pos (by rw [hpz]; decide), List.filter_nil]
     refine fY (hgz _) ak.out rfl rfl Ty ?_;rintro e_ w28 ⟨rfl, hb_⟩;refine ⟨_, rfl, ?_⟩;replace hh := hh.ext hb_;refine gC ?_;refine aa (cT (sr (mL (mI ?_))));refine cD hh 0 [_,_,_,_] ?_;refine gh ?_;refine bL hh (i := 1) (vs := [_, _, _, _]) rfl rfl (gO rfl) rfl aN.out rfl Tx rfl ?_;intro ws hh;simp only [List.set_cons_zero, List.set_cons_succ] at hh;rw [show cm (az TR.cells X) (i * 4) [.string z.m, .bool z.c.neg, .string z.c.bo, .int .i64 z.c.e] = az TR.cells (X.set i z) from jg TR.len Tx] at hh;refine aa (al (mI ?_));refine bh (aI (aA (bA (ai (al (mI ?_))))));refine bh (aI (aA (ai ?_)));replace hh := hh.sub (List.Sublist.cons _ (List.Sublist.cons_cons _ (List.Sublist.refl _)));refine ⟨⟨i + 1, j + 1, X.set i z, Tx, Tx, rfl, rfl, by rw [List.length_set]; exact hX, by rw [hfl, List.length_append, ← hi]; rfl, by rw [hfl, vd Tx, htk], by rw [zz Tx]; exact hdr2, hh⟩, by show n - (j + 1) < n - j; omega, ?_⟩;exact dL
   ·obtain rfl : j = n := Tx;rw [show l.take j = l from List.take_of_length_le Tx] at hi htk;have hcap := hh.eO (i := 0) rfl;have hp31 : (if c = i then some (⟨g0, 0, none⟩ : Addr) else (some (⟨g0, 0, none⟩ : Addr)).map (·.add (i * 4))) = some ⟨g0, i * 4, none⟩ := by
     rw [if_neg Tx];show some ((⟨g0, 0, none⟩ : Addr).add (i * 4)) = _;rw [eY, Nat.zero_add]
    have htt : (az TR.cells X).take (i * 4) = az TR.cells (l.filter fun z => !p z) := by rw [kR TR.len, htk]
    refine ah (sr (mI (mL (aJ ?_))));refine bf (aa (cF (aZ (aD (aD (bq (ai (sr (mL (mI ?_))))))))));refine aQ rfl rfl Ty (iU (l := i) (h := j) bg.out aN.size rfl ⟨_, _, rfl, rfl⟩ rfl Tx Tx) ?_;rw [hp31];replace hh := hh.CS (k := i) Tx;rw [htt] at hh;refine yr hh (i := 0) (o := i * 4) (m := j - i) rfl rfl Tx Tx Tx bg.out aN.out rfl rfl ?_;intro w38 hh;refine aa (sr (mL (mI ?_)));refine pO (h := i) bg.out aN.size rfl rfl Tx Tx Ty ?_;refine aL (aa (av ?_));refine cX ?_;rw [← hi];exact ⟨rfl, hh⟩
structure PX where
 v : Int
 A : Option Addr
 n : Nat
 c : Nat
 ts : List TR
def PX.row (g : PX) : HE := .row g.A g.n g.c 96 4 (az TR.cells g.ts)
def PX.at_ (g : PX) (w : World) : Prop := Sl w g.A g.n 4 (az TR.cells g.ts)
theorem PX.at_.ext {g : PX} {w w' : World} (h : g.at_ w) (hb : Below w.heap.size w w') : g.at_ w' := Sl.ext h hb
theorem PX.at_.ln {g : PX} {w : World} (h : g.at_ w) : g.ts.length = g.n := Sl.bk h TR.len Ty
structure eK (E v : Int) (ts : List TR) (g : PX) : Prop where
 v : g.v = if E = 0 then v else 0
 ts : g.ts = if E = 0 then ts else []
def PX.nil : PX := ⟨0, none, 0, 0, []⟩
theorem eK.err {E v : Int} {ts : List TR} (h : E ≠ 0) : eK E v ts PX.nil := ⟨by rw [if_neg h]; rfl, by rw [if_neg h]; rfl⟩
theorem Hp.Cs {w0 w : World} {H : List HE} (h : Hp w0 H w) : Hp w0 (PX.nil.row :: H) w := h.db 96 4
theorem uY {w0 : World} {Hr : List HE} (A : Option Addr) (n c : Nat) (l : List TR) (k : Nat) (w : World) (hT : ee w) (hh : Hp w0 (.row A n c 96 4 (az TR.cells l) :: Hr) w) (hl : l.length = n) (hn : n ≤ 1000000) (hk : k + n ≤ 3999980) (ho : iO k l) :
  Calls Tryz.prog 162 #[.slice A n c, .func (.func 76) #[] #[], .func (.func 77) #[] #[]] w fun r w' => ∃ (L : List TR) (A' : Option Addr) (c' : Nat), MD (k + n) l L ∧ r = .returned (.slice A' L.length c') ∧ Hp w0 (.row A' L.length c' 96 4 (az TR.cells L) :: Hr) w' := by
 refine (mG k n A n c l w (Nat.le_refl _) hT (hh.aC (i := 0) rfl) (hh.eO (i := 0) rfl) hn hk ho).mono fun r w' h => ?_
 rcases h with ⟨h1, rfl, hb⟩ | ⟨h1, L, A', c', hm, rfl, h3⟩
 ·exact ⟨l, A, c, (MD.self (wH Tx) ho).mono Tx, by rw [hl], by rw [hl]; exact hh.ext hb⟩
 ·refine ⟨L, A', c', hm, rfl, ?_⟩;exact (hh.join h3).sub (List.Sublist.cons_cons _ (List.Sublist.cons _ (List.Sublist.refl _)))
def RK (t : TR) : Bool := decide (t.c.d = 0)
theorem Dj (l : List TR) : (l.filter fun z => !RK z) = l.filter yK := rfl
theorem xt (z : TR) (w : World) : Calls Tryz.prog 163 #[.agg #[.string z.m, .bool z.c.neg, .string z.c.bo, .int .i64 z.c.e]] w fun r w' => r = .returned (.bool (RK z)) ∧ Below w.heap.size w w' := by
 have hh := Hp.start w;refine aj (N := 7) (l := [.agg #[.string z.m, .bool z.c.neg, .string z.c.bo, .int .i64 z.c.e]]) Tryz.func163 rfl rfl (by simp) ?_;refine sr ?_;refine cx hh [_,_,_,_] ?_;intro b1 w1 hh;refine aB (aa (sr (bD ?_)));refine cD hh 0 [_,_,_] ?_;refine bz hh (g8 z.c _) rfl ?_;intro w5 hh;have hz : z.c.i.sign = 0 ↔ z.c.d = 0 := by
  rw [Int.sign_eq_zero_iff_zero];exact ⟨fun h => by unfold NR.d; rw [h]; rfl, qS⟩
 unfold RK;by_cases h0 : z.c.d = 0
 ·have hs := hz.2 h0;rw [decide_eq_true h0];refine cW (aB (aa (av ?_)));refine cX ?_;exact ⟨rfl, hh.below⟩
 ·have hs : ¬ z.c.i.sign = 0 := fun h => h0 (hz.1 h);rw [decide_eq_false h0];refine cW (aB (aa (av ?_)));refine cX ?_;exact ⟨rfl, hh.below⟩
def gR (l : List TR) : Int := if 4096 < (aF l).length then 3 else 0
theorem zV {xs ys : List Value} {o : Nat} {v : Value} (h : xs[o]? = some v) : cm xs o (v :: ys) = cm xs (o + 1) ys := by
 unfold cm;rw [ay h, List.length_cons, show o + (ys.length + 1) = o + 1 + ys.length by omega];simp
def Sv (t : TR) : TR := ⟨t.m, nR t.c.d⟩
theorem vE {X : List TR} {i : Nat} {z : TR} (h : X[i]? = some z) (y : NR) : cm (az TR.cells X) (i * 4 + 1) [.bool y.neg, .string y.bo, .int .i64 y.e] = az TR.cells (X.set i ⟨z.m, y⟩) := by
 have h0 : (az TR.cells X)[i * 4]? = some (.string z.m) := by
  have h1 := tP TR.len h;have h2 : (((az TR.cells X).drop (i * 4)).take 4)[0]? = some (.string z.m) := by rw [h1]; rfl
  rwa [List.getElem?_take_of_lt Ty, List.getElem?_drop, Nat.add_zero] at h2
 rw [← zV h0];exact jg TR.len (y := ⟨z.m, y⟩) (List.getElem?_eq_some_iff.1 h).1
theorem ko {w0 : World} {Hr : List HE} (v : Int) (A : Option Addr) (n c : Nat) (l : List TR) (k : Nat) (w : World) (hT : ee w0) (hh : Hp w0 (.row A n c 96 4 (az TR.cells l) :: Hr) w) (hl : l.length = n) (hn : n ≤ 1000000) (hk : k + n ≤ 3999980) (ho : iO k l) :
  Calls Tryz.prog 78 #[.int .i64 v, .slice A n c] w fun r w' => ∃ g : PX, eK (gR l) v (aF l) g ∧ r = .returned (.tuple #[.agg #[.int .i64 g.v, .slice g.A g.n g.c], .int .i64 (gR l)]) ∧ Hp w0 (g.row :: Hr) w' := by
 refine aj (N := 33) (l := [.int .i64 v, .slice A n c]) Tryz.func78 rfl rfl (by simp) ?_;refine sr ?_;refine bR hh ?_;intro b4 w4 hh;refine aI (aa (sr (mL ?_)));replace hh := hh.perm (List.perm_middle (l₁ := [_]));simp only [List.cons_append, List.nil_append] at hh;refine aE (uY A n c l k _ (hT.hp hh) hh hl hn hk ho) ak.out rfl Ty ?_;rintro e_ w8 ⟨L, A1, c1, hmd, rfl, hh⟩;refine ⟨_, rfl, ?_⟩;have hlen := hmd.len;refine aE (Dh A1 L.length c1 L _ RK _ hh rfl Tx (fun z w1 _ => xt z w1)) ak.out rfl Ty ?_;rintro e_ w9 ⟨rfl, hh⟩;refine ⟨_, rfl, ?_⟩;rw [Dj] at hh ⊢;have hML : (L.filter yK).length ≤ L.length := List.length_filter_le _ _;have hgl : (aF l).length = (L.filter yK).length := by rw [← hmd.aF, List.length_map]
 have hgm := hmd.aF;have hok : iO (k + n) (L.filter yK) := fun t ht => hmd.ok t (List.mem_filter.1 ht).1;generalize hM : L.filter yK = M at *;by_cases h4 : 4096 < M.length
 ·rw [show gR l = 3 by unfold gR; rw [if_pos Tx]];refine aL (aa (ah (sr (mL (aJ ?_)))));refine bM (aa (cT (sr ?_)));refine gj [_,_] ?_;refine bW hh 1 [_,_] ?_;intro ws hh;replace hh : Hp _ (_ :: .blk _ _ [_, _] _ :: _) _ := hh;refine aI (aa (av (aG ?_)));replace hh := hh.sub (List.Sublist.cons _ (List.Sublist.cons_cons _ (List.Sublist.refl _)));refine yZ ?_;exact ⟨PX.nil, eK.err Ty, rfl, (hh.sub (List.sublist_cons_self _ _)).Cs⟩
 ·rw [show gR l = 0 by unfold gR; rw [if_neg Tx]];refine aL (aa (ah (sr (mL (aJ ?_)))));refine bM (aa (cF (ar (ai (ah (sr (mL (aJ (mI (aa (aq ?_)))))))))));refine aP [6, 16, 17, 18, 19, 20, 21, 22, 23, 24, 25, 26, 27, 28, 29] 16
   (fun v w' => ∃ (i : Nat) (X : List TR), i ≤ M.length ∧ v = .int .i64 i ∧ X.length = M.length ∧ X = (M.take i).map Sv ++ M.drop i ∧ Hp w0 (.row A1 M.length c1 96 4 (az TR.cells X) :: .blk b4 24 [.int .i64 0, .slice none 0 0] (0, 0) :: Hr) w')
   (fun v _ => M.length - (intOf v).toNat) ?_ ?_
  ·exact ⟨0, M, Nat.zero_le _, rfl, rfl, rfl, hh⟩
  ·clear hh;rintro ρ' v w' ⟨i, X, hi, rfl, hX, hXe, hh⟩;by_cases hlt : i < M.length
   ·obtain ⟨z, hz⟩ := ao (l := M) (k := i) Tx;have hXz : X[i]? = some z := by
     rw [hXe, List.getElem?_append_right (by rw [List.length_map, List.length_take]; omega), List.length_map, List.length_take, Nat.min_eq_left Tx, Nat.sub_self, List.getElem?_drop];exact hz
    have hzo := hok z (List.mem_of_getElem? hz);have hXn : X.set i ⟨z.m, nR z.c.d⟩ = (M.take (i + 1)).map Sv ++ M.drop (i + 1) := by
     rw [ay hz, List.map_append, hXe, List.set_append_right _ _ (by rw [List.length_map, List.length_take]; omega), List.length_map, List.length_take, Nat.min_eq_left Tx, Nat.sub_self, List.append_assoc];congr 1;obtain ⟨h1, h2⟩ := List.getElem?_eq_some_iff.1 hz;rw [List.drop_eq_getElem_cons h1, h2]
     rfl
    have hrl := eF TR.len X;obtain ⟨g0, rfl⟩ := hh.cd (i := 0) rfl Tx;refine sr ?_;refine bf (aa (ah (cT (ar (ai (ah (aq (sr (mI (aI (aa (al (mL (mI (mL (mI ?_))))))))))))))));refine gh ?_;refine bD ?_;refine ct (vs := [_, _, _]) aN.out rfl ((hh.eU (f := TR.cells) (x := z) (l := X) (i := 0) rfl TR.len Ty hXz).drop 1) rfl Ty ?_;refine bz hh (ep z.c _ (hT.hp hh) (by have := hzo.1.1; omega) (by have := hzo.1.2.1; omega) (by have := hzo.1.2.2; omega)) rfl ?_;intro w26 hh;refine gh ?_;refine bD ?_;refine bL hh (i := 0) (vs := [_, _, _]) rfl rfl (gO rfl) rfl aN.out rfl Tx rfl ?_;intro ws hh;simp only [List.set_cons_zero] at hh;rw [vE hXz, hXn] at hh;refine fL ?_;refine bh (mI (aA (ai ?_)));refine ⟨⟨i + 1, _, Tx, rfl, ?_, rfl, hh⟩, by show M.length - (i + 1) < M.length - i; omega, ?_⟩
    ·rw [← hXn, List.length_set, hX]
    ·exact dL
   ·obtain rfl : i = M.length := Tx;rw [List.take_of_length_le (Nat.le_refl _), List.drop_of_length_le (Nat.le_refl _), List.append_nil] at hXe;have hXg : X = aF l := by rw [hXe]; exact hgm
    rw [hXg] at hh;refine sr ?_;refine bf (aa (ah (cF (aZ (aD (aD (bq (ai (sr (mI (mL ?_)))))))))));refine gj [_,_] ?_;refine bW hh 1 [_,_] ?_;intro ws hh;replace hh : Hp _ (_ :: .blk _ _ [_, _] _ :: _) _ := hh;refine aI (aa (av ?_));refine Dx ?_;exact ⟨⟨v, A1, M.length, c1, aF l⟩, ⟨rfl, rfl⟩, rfl, hh.sub (List.Sublist.cons_cons _ (List.Sublist.cons _ (List.Sublist.refl _)))⟩
theorem kN (s : ByteArray) (n : Int) (w : World) (hs : s.size ≤ 9223372036854775807) :
  Calls Tryz.prog 159 #[.string s, .int .i64 n] w fun e w' => e = .returned (.bool (eE s.data.toList && decide ((s.size : Int) = n))) ∧ Below w.heap.size w w' := by
 refine aj (N := 20) (l := [.string s, .int .i64 n]) Tryz.func159 rfl rfl (by simp) ?_;refine sr (aB (aa (ah (sr (mS ?_)))));refine bG bg.out rfl Ty ?_;refine mI (aa (aq ?_));refine aP [4, 5, 8, 9, 10, 11, 12, 13, 14, 15] 8
  (fun v w' => ∃ k : Nat, k ≤ s.size ∧ v = .int .i64 k ∧ eE (s.data.toList.take k) = true ∧ w' = w)
  (fun v _ => s.size - (intOf v).toNat) ?_ ?_
 ·exact ⟨0, Nat.zero_le _, rfl, rfl, rfl⟩
 ·rintro ρ' v w' ⟨k, hk, rfl, hm, rfl⟩;by_cases hlt : k < s.size
  ·obtain ⟨c, hc⟩ := ao (l := s.data.toList) (k := k) (by rw [← dA]; exact hlt);have hb := c.toNat_lt;by_cases h8 : c.toNat < 128
   ·refine sr ?_;refine bf (aa (ah (cT (ar (ai (ah (aq (sr (mI (aI (aa (sr (mS (mI ?_))))))))))))));refine jG ?_;refine bM (aa (cF (ar (bA (ai (al ?_))))));refine bh (mI (aA (ai ?_)));refine ⟨⟨k + 1, Tx, rfl, by rw [ay hc, FP, hm]; simpa using h8, rfl⟩, by show s.size - (k + 1) < s.size - k; omega, ?_⟩;exact dL
   ·refine sr ?_;refine bf (aa (ah (cT (ar (ai (ah (aq (sr (mI (aI (aa (sr (mS (mI ?_))))))))))))));refine jG ?_;refine bM (aa (cT (sr (aB (aa (av (bY (aG (aG (bY (aG ?_)))))))))));refine cX ?_;rw [Ie hc h8];exact ⟨rfl, Below.refl _ _⟩
  ·refine sr ?_;refine bf (aa (ah (cF (aZ (aD (aD (bq (ai (sr (mS ?_))))))))));refine bG bg.out rfl Ty ?_;refine mI ?_;refine Et rfl rfl Ty ?_;refine aB (aa (av ?_));refine cX ?_;rw [List.take_of_length_le (by rw [← dA]; omega)] at hm;rw [hm];exact ⟨rfl, Below.refl _ _⟩
theorem mA (s : ByteArray) (w : World) (hs : s.size ≤ 9223372036854775807) :
  Calls Tryz.prog 159 #[.string s, .int .i64 s.size] w fun e w' => e = .returned (.bool (eE s.data.toList)) ∧ Below w.heap.size w w' := by
 have h := kN s s.size w hs;simpa using h
theorem AX (A : Option Addr) (n c : Nat) (xs : List Int) (w : World) (hsl : Sl w A n 1 (bF xs)) (hn : n ≤ 100000) :
  Calls Tryz.prog 187 #[.slice A n c] w fun e w' => e = .returned (.tuple #[.string (str (HW xs)), .int .i64 (Kx xs)]) ∧ Below w.heap.size w w' := by
 have hlen : xs.length = n := by have := hsl.1; rw [bU] at this; omega
 have hh := Hp.start w;refine aj (N := 27) (l := [.slice A n c]) Tryz.func187 rfl rfl (by simp) ?_;refine sr (aS (aI (aa (sr (aL (aa (ah (sr (mL (aJ (mI (aa (aq ?_)))))))))))));refine bJ [2, 3, 4, 6, 9, 10, 11, 12, 13, 14, 15, 16, 17, 18, 19, 20, 21, 22, 23, 24] 4 9
  (fun b i w' => ∃ (k c' : Nat) (A' : Option Addr), k ≤ n ∧ i = .int .i64 k ∧ b = .slice A' k c' ∧ (xs.take k).all cw = true ∧ Hp w [.row A' k c' 5 1 (nC ((xs.take k).map xM))] w')
  (fun _ v _ => n - (intOf v).toNat) ?_ ?_
 ·exact ⟨0, 0, none, Nat.zero_le _, rfl, rfl, rfl, hh.db _ _⟩
 ·clear hh;rintro ρ' b i w' ⟨k, c', A', hk, rfl, rfl, hall, hh⟩;by_cases hlt : k < n
  ·obtain ⟨x, hx⟩ := ao (l := xs) (k := k) Tx;obtain ⟨ad, rfl, hr⟩ := (hsl.ext hh.below).at_ Tx;by_cases h0 : x < 0
   ·refine sr ?_;refine dH ?_;refine uR ?_;refine bT aN.out rfl (fe hr (cj hx) rfl) Ty ?_;refine aI (aa (ah (sr (mI ?_))));refine bf (mB ?_);refine gS (gS ?_);refine fu ?_;exact QB
   ·by_cases h1 : 127 < x
    ·refine sr ?_;refine dH ?_;refine uR ?_;refine bT aN.out rfl (fe hr (cj hx) rfl) Ty ?_;refine aI (aa (ah (sr (mI ?_))));refine bf (mB (gT (mI (gT ?_))));refine bM ?_;refine dK ?_;exact QB
    ·have hok : cw x = true := by simp [cw]; omega
     refine sr ?_;refine dH ?_;refine uR ?_;refine bT aN.out rfl (fe hr (cj hx) rfl) Ty ?_;refine aI (aa (ah (sr (mI ?_))));refine bf (mB (gT (mI (gT ?_))));refine bM ?_;refine dK ?_;refine aa (cF (ar (ai (al (mL (mI ?_))))));refine sV bg.out bg.out rfl Ty ?_;refine vP ?_;intro b22 w22 hh;refine cJ hh (i := 1) rfl rfl rfl (hh.aC (i := 0) rfl) bg.out aN.out rfl Ty rfl Tx Tx Ty ?_;intro A23 c23 w23 hh;simp only [List.set_cons_zero, List.set_cons_succ] at hh;replace hh := hh.sub (List.sublist_cons_self _ _);refine k8 ?_;refine bh (mI (aA (ai ?_)));refine ⟨⟨k + 1, c23, A23, Tx, rfl, rfl, Io hx hall hok, ?_⟩, by show n - (k + 1) < n - k; omega, ?_⟩
     ·rw [KC Tx Tx, HU hx hok] at hh;exact hh
     ·exact dL
  ·obtain rfl : k = n := Tx;rw [List.take_of_length_le Tx] at hall hh;obtain ⟨e1, e2⟩ := pz hall;refine sr ?_;refine nH ?_;refine rH bg.out bg.out bg.out rfl (hh.aC (i := 0) rfl) Ty ?_;refine aS (aI (aa (av ?_)));refine Kl ?_;rw [e1, e2];exact ⟨rfl, hh.below⟩
theorem gW (s : ByteArray) (w : World) (hs : s.size ≤ 100000) :
  Calls Tryz.prog 91 #[.string s] w fun e w' => ∃ A c, e = .returned (.slice A (iq s.data.toList).length c) ∧ w'.ownsRow w.heap.size 3 1 (.slice A (iq s.data.toList).length c) (iq s.data.toList).length (bF (iq s.data.toList)) ∧ Below w.heap.size w w' := by
 have hh := Hp.start w;have hsz := dA s
 cases hm : eE s.data.toList with
 | false =>
  refine aj (N := 22) (l := [.string s]) Tryz.func91 rfl rfl (by simp) ?_;refine sr (aL (aa (ah (sr (mS (mS ?_))))));refine bG bg.out rfl Ty ?_;refine bz hh (mA s _ Tx) rfl ?_;intro w9 hh;rw [hm];refine gC ?_;refine aa (cT (sr (aL (aa (av (aG ?_))))));refine cX ?_;rw [J5 hm];exact Jt
 | true =>
  refine aj (N := 22) (l := [.string s]) Tryz.func91 rfl rfl (by simp) ?_;refine sr (aL (aa (ah (sr (mS (mS ?_))))));refine bG bg.out rfl Ty ?_;refine bz hh (mA s _ Tx) rfl ?_;intro w9 hh;rw [hm];refine gC ?_;refine aa (cF (ar (ai (sr (aL (aa (ah (sr (mS ?_)))))))));refine yh hh bg.out rfl Ty ?_;intro b12 w12 hh;skip;refine aa (aq ?_);refine aP [3, 5, 13, 14, 15, 16, 17, 18, 19, 20] 3
   (fun v w' => ∃ (k c' : Nat) (A' : Option Addr), k ≤ s.size ∧ v = .slice A' k c' ∧ Hp w [.row A' k c' 3 1 (bF (ints (s.data.toList.take k))), .it b12 s k] w')
   (fun v _ => s.size - lenOf v) ?_ ?_
  ·exact ⟨0, 0, none, Nat.zero_le _, rfl, hh.db _ _⟩
  ·clear hh;rintro ρ' v w' ⟨k, c', A', hk, rfl, hh⟩;by_cases hlt : k < s.size
   ·obtain ⟨c, hc⟩ := ao (l := s.data.toList) (k := k) Tx;have h8 := sa hm hc;refine sr ?_;refine yt hh (i := 1) rfl rfl hc h8 Ty ?_;intro w13 hh;simp only [List.set_cons_zero, List.set_cons_succ] at hh;skip;refine dq ?_;refine aa (ah (cT (ar (ai (aq (sr ?_))))));refine dq ?_;refine aI (aa (al (mL (mI ?_))));refine Bx ?_;refine vP ?_;intro b19 w19 hh;refine cJ hh (i := 1) rfl rfl rfl (hh.aC (i := 0) rfl) bg.out aN.out rfl Ty rfl Tx Tx Ty ?_;intro A20 c20 w20 hh;simp only [List.set_cons_zero, List.set_cons_succ] at hh;replace hh := hh.sub (List.sublist_cons_self _ _);refine aL (aA (bA (ai ?_)));rw [uU hc] at hh;refine ⟨⟨k + 1, c20, A20, Tx, rfl, hh⟩, by show s.size - (k + 1) < s.size - k; omega, ?_⟩;exact dL
   ·refine sr ?_;refine xh hh (i := 1) rfl rfl hlt Ty ?_;skip;refine dq ?_;refine aa (ah (cF (aZ (aD (aD (bq (ai (sr (mL (aL (aa (av ?_))))))))))));refine cX ?_;obtain rfl : k = s.size := Tx;rw [List.take_of_length_le Tx] at hh;have h1 := hh.at_ (i := 0) rfl;rw [jC hm, cU, ← hsz];exact ⟨A', c', rfl, h1, hh.below⟩
theorem sT (a b : ByteArray) (g : FuncId) (f : Int → Int → Int) (w : World) (ha : a.size ≤ 100000) (hb : b.size ≤ 100000) [ak Tryz.prog g]
  (hg : ∀ (x y : Int) (w : World), 0 ≤ x → x ≤ 127 → 0 ≤ y → y ≤ 127 → Calls Tryz.prog g #[.int .i64 x, .int .i64 y] w fun e w' => e = .returned (.int .i64 (f x y)) ∧ Below w.heap.size w w') :
  Calls Tryz.prog 206 #[.string a, .string b, .func (.func g) #[] #[]] w fun e w' =>
   (jd f a.data.toList b.data.toList = none ∧ e = .returned (.tuple #[.slice none 0 0, .bool false]) ∧ Below w.heap.size w w') ∨
   ∃ l, jd f a.data.toList b.data.toList = some l ∧ l.length = b.size ∧ ∃ A c, e = .returned (.tuple #[.slice A l.length c, .bool true]) ∧ w'.ownsRow w.heap.size 3 1 (.slice A l.length c) l.length (bF l) ∧ Below w.heap.size w w' := by
 have hh := Hp.start w;have hsa := dA a;have hsb := dA b
 cases hma : eE a.data.toList with
 | false =>
  refine JZ ?_;refine sr (aL (aB (aa (sr (mS ?_)))));refine aE (gW b _ hb) ak.out rfl Ty ?_;rintro e_ w12 ⟨A12, c12, rfl, hown_, hb_⟩;refine ⟨_, rfl, ?_⟩;replace hh := hh.aV (x := .row _ _ _ _ _ _) hb_ hown_;refine aL (aa (ah (sr (mS (mS ?_)))));refine bG bg.out rfl Ty ?_;refine bz hh (mA a _ Tx) rfl ?_;intro w16 hh;rw [hma];refine gC ?_;refine mB ?_;refine gS (gS (gS ?_));refine iJ ?_;refine gS ?_;refine fu ?_;refine aa (cT (sr (aL (aB (aa (av (aG ?_)))))));refine Kl ?_;exact .inl ⟨by simp [jd, hma], rfl, hh.below⟩
 | true =>
  cases hmb : (eE b.data.toList && decide ((b.size : Int) = a.size)) with
  | false =>
   refine JZ ?_;refine sr (aL (aB (aa (sr (mS ?_)))));refine aE (gW b _ hb) ak.out rfl Ty ?_;rintro e_ w12 ⟨A12, c12, rfl, hown_, hb_⟩;refine ⟨_, rfl, ?_⟩;replace hh := hh.aV (x := .row _ _ _ _ _ _) hb_ hown_;refine aL (aa (ah (sr (mS (mS ?_)))));refine bG bg.out rfl Ty ?_;refine bz hh (mA a _ Tx) rfl ?_;intro w16 hh;rw [hma];refine gC ?_;refine mB (gT (mS (gT (mS (gT ?_)))));refine bG bg.out rfl Ty ?_;refine aH rfl rfl ?_;refine bz hh (kN b _ _ Tx) rfl ?_;intro w22 hh;rw [hmb];refine gT ?_;refine gC ?_;refine dK ?_;refine aa (cT (sr (aL (aB (aa (av (aG ?_)))))));refine Kl ?_;have : (eE b.data.toList && decide ((b.data.toList.length : Int) = a.data.toList.length)) = false := by rw [← hsa, ← hsb]; exact hmb
   exact .inl ⟨by simp only [jd, hma, this]; rfl, rfl, hh.below⟩
  | true =>
   have hmb2 := hmb;simp only [Bool.and_eq_true, decide_eq_true_eq] at hmb2;have hbl : jd f a.data.toList b.data.toList = some (List.zipWith f (ints a.data.toList) (ints b.data.toList)) := by
    have : (eE b.data.toList && decide ((b.data.toList.length : Int) = a.data.toList.length)) = true := by rw [← hsa, ← hsb]; exact hmb
    simp only [jd, hma, this]; rfl
   have hea := jC hma;have heb := jC hmb2.1;have hlab : (ints a.data.toList).length = (ints b.data.toList).length := by rw [cU, cU]; omega
   have hlb := cU b.data.toList;have hla := cU a.data.toList;have hA := gW a;have hB := gW b;rw [hea] at hA;rw [heb] at hB;generalize hia : ints a.data.toList = ia at *;generalize hib : ints b.data.toList = ib at *;have bda : ∀ (k : Nat) (x : Int), ia[k]? = some x → 0 ≤ x ∧ x ≤ 127 := fun k x h => EP (l := a.data.toList) (by rw [hea]; exact h);have bdb : ∀ (k : Nat) (x : Int), ib[k]? = some x → 0 ≤ x ∧ x ≤ 127 := fun k x h => EP (l := b.data.toList) (by rw [heb]; exact h);clear hea heb;refine JZ ?_;refine sr (aL (aB (aa (sr (mS ?_)))));refine aE (hB _ hb) ak.out rfl Ty ?_;rintro e_ w12 ⟨A12, c12, rfl, hown_, hb_⟩;refine ⟨_, rfl, ?_⟩;replace hh := hh.aV (x := .row _ _ _ _ _ _) hb_ hown_;refine aL (aa (ah (sr (mS (mS ?_)))));refine bG bg.out rfl Ty ?_;refine bz hh (mA a _ Tx) rfl ?_;intro w16 hh;rw [hma];refine gC ?_;refine mB (gT (mS (gT (mS (gT ?_)))));refine bG bg.out rfl Ty ?_;refine aH rfl rfl ?_;refine bz hh (kN b _ _ Tx) rfl ?_;intro w22 hh;rw [hmb];refine gT ?_;refine gC ?_;refine dK ?_;refine aa (cF (ar (ai (ah (sr (mS ?_))))));refine aE (hA _ ha) ak.out rfl Ty ?_;rintro e_ w26 ⟨A26, c26, rfl, hown_, hb_⟩;refine ⟨_, rfl, ?_⟩
   replace hh := hh.aV (x := .row _ _ _ _ _ _) hb_ hown_;refine aJ (mI (aa (aq ?_)));refine aP [9, 10, 28, 29, 30, 31, 32, 33, 34, 35, 36, 37, 38, 39, 40, 41, 42, 43] 28
    (fun i w' => ∃ k : Nat, k ≤ ib.length ∧ i = .int .i64 k ∧ Hp w [.row A26 ia.length c26 3 1 (bF ia), .row A12 ib.length c12 3 1 (bF (mV f ia ib k))] w')
    (fun i _ => ib.length - (intOf i).toNat) ?_ ?_
   ·exact ⟨0, Nat.zero_le _, rfl, by rw [IG]; exact hh⟩
   ·clear hh hown_ hb_;rintro ρ' i w' ⟨k, hk, rfl, hh⟩;by_cases hlt : k < ib.length
    ·obtain ⟨x, hx⟩ := ao (l := ia) (k := k) Tx;obtain ⟨y, hy⟩ := ao hlt;have bx := bda k x hx;have byy := bdb k y hy;have hx2 := cj hx;have hy2 := cj (OJ (f := f) hlab hy);have hml := L7 (f := f) hlab hk;have hml2 := bU (mV f ia ib k);obtain ⟨ga, rfl⟩ := hh.cd (i := 0) rfl Tx;obtain ⟨gb, rfl⟩ := hh.cd (i := 1) rfl Tx;refine sr ?_;refine dZ ?_;refine tM ?_;refine jm ?_;refine aI (aI (aa (al (mL (mI ?_)))));refine iI ?_;refine mI (mL (mI ?_));refine tM ?_;refine HV ?_;refine fY (hg x y _ bx.1 bx.2 byy.1 byy.2) ak.out rfl rfl Ty ?_;rintro e_ w41 ⟨rfl, hb_⟩;refine ⟨_, rfl, ?_⟩;replace hh := hh.ext hb_;refine tM ?_;refine bL hh (i := 1) (vs := [_]) rfl rfl (cH rfl) rfl aN.out rfl Tx rfl ?_;intro ws hh;simp only [List.set_cons_zero, List.set_cons_succ] at hh;refine fL ?_;refine bh (mI (aA (ai ?_)));rw [Nat.mul_one, KX hlab hx hy] at hh;refine ⟨⟨k + 1, Tx, rfl, hh⟩, by show _ - (k + 1) < _ - k; omega, ?_⟩;exact dL
    ·refine sr ?_;refine bf (aa (ah (cF (aZ (aD (aD (bq (ai (sr (mL (aL (aB (aa (av ?_))))))))))))));refine Kl ?_;obtain rfl : k = ib.length := Tx;rw [ID hlab] at hh;have h1 := hh.at_ (i := 1) rfl;have hzl : (List.zipWith f ia ib).length = ib.length := by simp [hlab]
     refine .inr ⟨_, hbl, Tx, A12, c12, ?_⟩;rw [hzl];exact ⟨rfl, h1, hh.below⟩
theorem Fy (a b : ByteArray) (g : FuncId) (f : Int → Int → Int) (w : World) (ha : a.size ≤ 100000) (hb : b.size ≤ 100000) [ak Tryz.prog g]
  (hg : ∀ (x y : Int) (w : World), 0 ≤ x → x ≤ 127 → 0 ≤ y → y ≤ 127 → Calls Tryz.prog g #[.int .i64 x, .int .i64 y] w fun e w' => e = .returned (.int .i64 (f x y)) ∧ Below w.heap.size w w')
  (h : jd f a.data.toList b.data.toList = none) :
  Calls Tryz.prog 206 #[.string a, .string b, .func (.func g) #[] #[]] w fun e w' => e = .returned (.tuple #[.slice none 0 0, .bool false]) ∧ Below w.heap.size w w' :=
 (sT a b g f w ha hb hg).mono fun e w' hq => by
  rcases hq with hq | ⟨l, hl, _⟩
  ·exact hq.2
  ·rw [h] at hl; cases hl
theorem GV (a b : ByteArray) (g : FuncId) (f : Int → Int → Int) (w : World) (ha : a.size ≤ 100000) (hb : b.size ≤ 100000) [ak Tryz.prog g]
  (hg : ∀ (x y : Int) (w : World), 0 ≤ x → x ≤ 127 → 0 ≤ y → y ≤ 127 → Calls Tryz.prog g #[.int .i64 x, .int .i64 y] w fun e w' => e = .returned (.int .i64 (f x y)) ∧ Below w.heap.size w w')
  {l : List Int} (h : jd f a.data.toList b.data.toList = some l) :
  Calls Tryz.prog 206 #[.string a, .string b, .func (.func g) #[] #[]] w fun e w' => ∃ A c, e = .returned (.tuple #[.slice A l.length c, .bool true]) ∧ w'.ownsRow w.heap.size 3 1 (.slice A l.length c) l.length (bF l) ∧ Below w.heap.size w w' :=
 (sT a b g f w ha hb hg).mono fun e w' hq => by
  rcases hq with ⟨hn, _⟩ | ⟨l', hl, _, hq⟩
  ·rw [h] at hn; cases hn
  ·rw [h] at hl; injection hl with hl; subst hl; exact hq
theorem Gr {f : Int → Int → Int} {a b : List UInt8} {l : List Int} (h : jd f a b = some l) : l.length ≤ b.length := by
 unfold jd at h;split at h
 ·injection h with h; subst h; simp [ints]; omega
 ·cases h
theorem td (x y : Int) (w : World) (h1 : 0 ≤ x) (h2 : x ≤ 127) (h3 : 0 ≤ y) (h4 : y ≤ 127) :
  Calls Tryz.prog 207 #[.int .i64 x, .int .i64 y] w fun e w' => e = .returned (.int .i64 (x + y)) ∧ Below w.heap.size w w' := by
 refine aj (N := 8) (l := [.int .i64 x, .int .i64 y]) Tryz.func207 rfl rfl (by simp) ?_;refine sr (aI (aa (sr (mI (mI ?_)))));refine bh (aI (aa (av ?_)));refine cX ?_;exact ⟨rfl, Below.refl _ _⟩
theorem GI (a b : ByteArray) (w : World) (ha : a.size ≤ 100000) (hb : b.size ≤ 100000) :
  Calls Tryz.prog 165 #[.string a, .string b] w fun e w' => e = .returned (.tuple #[.string (str (mulL a.data.toList b.data.toList).1), .int .i64 (mulL a.data.toList b.data.toList).2]) ∧ Below w.heap.size w w' := by
 have hh := Hp.start w;have hsb := dA b
 cases hbo : jd (· + ·) a.data.toList b.data.toList with
 | none =>
  refine aj (N := 20) (l := [.string a, .string b]) Tryz.func165 rfl rfl (by simp) ?_;refine sr (aS (aI (aa (sr (mS (mS ?_))))));refine bz hh (Fy a b _ _ _ ha hb td hbo) rfl ?_;intro w11 hh;refine mT ?_;refine dq ?_;refine dq ?_;refine aL (aB (aa (ah (sr (mB ?_)))));refine gC ?_;refine aa (cT (sr (aS (aI (aa (av (aG ?_)))))));refine Kl ?_;simp only [mulL, hbo];exact ⟨rfl, hh.below⟩
 | some l =>
  have hl := Gr hbo;refine aj (N := 20) (l := [.string a, .string b]) Tryz.func165 rfl rfl (by simp) ?_;refine sr (aS (aI (aa (sr (mS (mS ?_))))));refine aE (GV a b _ _ _ ha hb td hbo) ak.out rfl Ty ?_;rintro e_ w11 ⟨A11, c11, rfl, hown_, hb_⟩;refine ⟨_, rfl, ?_⟩;replace hh := hh.aV (x := .row _ _ _ _ _ _) hb_ hown_;refine mT ?_;refine dq ?_;refine dq ?_;refine aL (aB (aa (ah (sr (mB ?_)))));refine gC ?_;refine aa (cF (ar (ai (sr (mL ?_)))));refine bz hh (AX _ _ _ _ _ (hh.aC (i := 0) rfl) Tx) rfl ?_;intro w17 hh;refine dq ?_;refine dq ?_;refine aS (aI (aa (av ?_)));refine Kl ?_;simp only [mulL, hbo];exact ⟨trivial, hh.below⟩
def ja (v : Int) : Bool := decide (0 ≤ v) && decide (v ≤ 12)
theorem iD {v : Int} : ja v = true ↔ 0 ≤ v ∧ v ≤ 12 := by unfold ja; rw [Bool.and_eq_true, decide_eq_true_eq, decide_eq_true_eq]
theorem m8 (v : Int) (w : World) : Calls Tryz.prog 134 #[.int .i64 v] w fun r w' => r = .returned (.bool (ja v)) ∧ Below w.heap.size w w' := by
 have hh := Hp.start w;unfold ja;by_cases h1 : 0 ≤ v
 ·rw [decide_eq_true h1, Bool.true_and];by_cases h2 : v ≤ 12
  ·rw [decide_eq_true h2];exact M1
  ·rw [decide_eq_false h2];exact M1
 ·rw [decide_eq_false h1, Bool.false_and];refine aj (N := 9) (l := [.int .i64 v]) Tryz.func134 rfl rfl (by simp) ?_;refine sr (aB (aa (sr (mI ?_))));refine dR (mB ?_);refine gS (gS ?_);refine dK ?_;exact vi
def RF (a : NR) : Bool := decide ((nR a.d).neg = a.neg) && (decide ((nR a.d).bo = a.bo) && decide ((nR a.d).e = a.e))
theorem sF (a : NR) : RF a = true ↔ nR a.d = a := by
 unfold RF;rw [Bool.and_eq_true, Bool.and_eq_true, decide_eq_true_eq, decide_eq_true_eq, decide_eq_true_eq];constructor
 ·rintro ⟨h1, h2, h3⟩;obtain ⟨s, m, e⟩ := a;generalize nR (NR.d ⟨s, m, e⟩) = b at *;obtain ⟨s', m', e'⟩ := b;simp only at h1 h2 h3;rw [h1, h2, h3]
 ·intro h;rw [h];exact ⟨rfl, rfl, rfl⟩
def nS (v : Int) (t : TR) : Bool := eE t.m.data.toList && decide ((t.m.size : Int) = v) && (yK t && RF t.c)
def ua : List TR → Bool
 | [] => true
 | [_] => true
 | a :: b :: l => jb a.m b.m && ua (b :: l)
theorem we : ∀ (l : List TR) (p x : TR), ua (l ++ [p, x]) = (ua (l ++ [p]) && jb p.m x.m)
 | [], p, x => by show (jb p.m x.m && true) = (true && jb p.m x.m); rw [Bool.and_true, Bool.true_and]
 | [a], p, x => by
  show (jb a.m p.m && (jb p.m x.m && true)) = ((jb a.m p.m && true) && jb p.m x.m);rw [Bool.and_true, Bool.and_true]
 | a :: b :: l, p, x => by
  show (jb a.m b.m && ua ((b :: l) ++ [p, x])) = ((jb a.m b.m && ua ((b :: l) ++ [p])) && jb p.m x.m);rw [we (b :: l) p x, Bool.and_assoc]
theorem DB : ∀ {l : List TR} {i : Nat} {p x : TR}, ua l = true → l[i]? = some p → l[i + 1]? = some x → jb p.m x.m = true
 | [], i, p, x, _, h, _ => by simp at h
 | [a], i, p, x, _, _, h => by simp at h
 | a :: b :: l, 0, p, x, h, h1, h2 => by
  simp only [List.getElem?_cons_zero, Option.some.injEq, Nat.zero_add, List.getElem?_cons_succ] at h1 h2;subst h1 h2;exact (Bool.and_eq_true_iff.1 h).1
 | a :: b :: l, i + 1, p, x, h, h1, h2 => by
  rw [List.getElem?_cons_succ] at h1 h2;exact DB (Bool.and_eq_true_iff.1 h).2 h1 h2
theorem uM : ∀ {l : List TR}, ua l = true ↔ r9 l
 | [] => ⟨fun _ => List.Pairwise.nil, fun _ => rfl⟩
 | [a] => ⟨fun _ => List.pairwise_singleton _ _, fun _ => rfl⟩
 | a :: b :: l => by
  show (jb a.m b.m && ua (b :: l)) = true ↔ _;rw [Bool.and_eq_true, uM (l := b :: l)];constructor
  ·rintro ⟨h1, h2⟩;refine List.pairwise_cons.2 ⟨fun t ht => ?_, h2⟩
   rcases List.mem_cons.1 ht with rfl | ht
   ·exact h1
   ·exact jE h1 ((List.pairwise_cons.1 h2).1 t ht)
  ·intro h;have := List.pairwise_cons.1 h;exact ⟨this.1 b List.mem_cons_self, this.2⟩
def okB (v : Int) (ts : List TR) : Bool := ts.all (nS v) && ua ts
def fH (v : Int) (ts : List TR) : Int := if ja v = false then 1 else if 4096 < ts.length then 3 else if okB v ts = true then 0 else 1
theorem Jb {v : Int} {ts : List TR} (h1 : ja v = true) (h2 : ¬ 4096 < ts.length) (h : okB v ts = false) : fH v ts = 1 := by
 unfold fH;rw [if_neg (by rw [h1]; decide), if_neg h2, if_neg (by rw [h]; decide)]
theorem yp {v : Int} {ts : List TR} {i : Nat} {x : TR} (hx : ts[i]? = some x) (h : nS v x = false) : okB v ts = false := by
 unfold okB;rw [Bool.and_eq_false_iff];refine .inl (Bool.eq_false_iff.2 fun h2 => ?_);rw [List.all_eq_true.1 h2 x (List.mem_of_getElem? hx)] at h
 cases h
theorem JT {v : Int} {ts : List TR} {i : Nat} {p x : TR} (hp : ts[i]? = some p) (hx : ts[i + 1]? = some x) (h : jb p.m x.m = false) : okB v ts = false := by
 unfold okB;rw [Bool.and_eq_false_iff];refine .inr (Bool.eq_false_iff.2 fun h2 => ?_);rw [DB h2 hp hx] at h
 cases h
theorem yl (v : Int) (A : Option Addr) (n c : Nat) (ts : List TR) (w : World) (hT : ee w) (hS : Sl w A n 4 (az TR.cells ts)) (hn : n ≤ 1000000) (ho : ∀ t ∈ ts, t.c.ok ∧ t.m.size ≤ 100000) :
  Calls Tryz.prog 142 #[.agg #[.int .i64 v, .slice A n c]] w fun r w' => r = .returned (.int .i64 (fH v ts)) ∧ Below w.heap.size w w' := by
 have hh := Hp.start w;have hln := hS.bk TR.len Ty;have hfw := fun w1 => m8 v w1
 cases hf : ja v with
 | false =>
  rw [hf] at hfw;rw [show fH v ts = 1 by unfold fH; rw [if_pos hf]];refine Ht ?_;refine sr ?_;refine cx hh [_,_] ?_;intro b1 w1 hh;refine aI (aa (ah (sr (bD ?_))));refine bB hh 0 ?_;refine bz hh (hfw _) rfl ?_;intro w7 hh;refine gC ?_;exact Jr
 | true =>
  rw [hf] at hfw;by_cases h4 : 4096 < n
  ·rw [show fH v ts = 3 by unfold fH; rw [if_neg (by rw [hf]; decide), if_pos Tx]];refine Ht ?_;refine sr ?_;refine cx hh [_,_] ?_;intro b1 w1 hh;refine aI (aa (ah (sr (bD ?_))));refine bB hh 0 ?_;refine bz hh (hfw _) rfl ?_;intro w7 hh;refine gC ?_;refine DQ ?_;refine bB hh 0 ?_;refine aJ ?_;refine bM (aa (cT (sr (aI (aa (av (aG ?_)))))));refine cX ?_;exact ⟨rfl, hh.below⟩
  ·have hbad := fun h => Jb (v := v) (ts := ts) hf Tx h;refine Ht ?_;refine sr ?_;refine cx hh [_,_] ?_;intro b1 w1 hh;refine aI (aa (ah (sr (bD ?_))));refine bB hh 0 ?_;refine bz hh (hfw _) rfl ?_;intro w7 hh;refine gC ?_;refine DQ ?_;refine bB hh 0 ?_;refine aJ ?_;refine bM (aa (cF (ar (ai (ah (sr (bD ?_)))))));refine bB hh 0 ?_;refine aJ (mI (aa (aq ?_)));refine aP [2, 3, 4, 16, 17, 18, 19, 20, 21, 22, 23, 24, 25, 26, 27, 28, 29, 30, 31, 32, 33, 34, 35, 36, 37, 38, 39, 40, 41, 42, 43, 44, 45, 46, 47, 48, 49, 50, 51, 52, 53, 54, 55, 56, 57] 16
    (fun x w' => ∃ i : Nat, i ≤ n ∧ x = .int .i64 i ∧ (ts.take i).all (nS v) = true ∧ ua (ts.take i) = true ∧ Hp w [.blk b1 24 [.int .i64 v, .slice A n c] (0, 0)] w')
    (fun x _ => n - (intOf x).toNat) ?_ ?_
   ·exact ⟨0, Nat.zero_le _, rfl, rfl, rfl, hh⟩
   ·clear hh;rintro ρ' x_ w' ⟨i, hi, rfl, hall, hris, hh⟩;by_cases hlt : i < n
    ·obtain ⟨x, hx⟩ := ao (l := ts) (k := i) Tx;obtain ⟨ad, rfl, hr⟩ := hS.at_ Tx;obtain ⟨hxo, hxm⟩ := ho x (List.mem_of_getElem? hx);have hmay := fun w1 => kN x.m v w1 Tx;have hsg := fun w1 => g8 x.c w1;have hfo := fun w1 hT1 => ep x.c w1 hT1 (by have := hxo.1; omega) (by have := hxo.2.1; omega) (by have := hxo.2.2; omega);have hzz : x.c.i.sign = 0 ↔ x.c.d = 0 := by
      rw [Int.sign_eq_zero_iff_zero];exact ⟨fun h => by unfold NR.d; rw [h]; rfl, qS⟩
     cases hm : eE x.m.data.toList && decide ((x.m.size : Int) = v) with
     | false =>
      rw [hm] at hmay;rw [hbad (yp hx (by unfold nS; rw [hm]; rfl))];refine sr ?_;refine dZ ?_;refine cn ?_;refine qV ?_;refine bR hh ?_;intro b4 w4 hh;refine aI ?_;refine bW hh 0 [_,_,_,_] ?_;intro ws hh;replace hh : Hp _ (.blk _ _ [_, _, _, _] _ :: _) _ := hh;refine aa (ah ?_)
      refine ef [] [] zL1 33 zL0 [(32, 53), (31, 52), (30, 51), (29, 50), (28, 49), (27, 48), (26, 47), (25, 46), (24, 45), (23, 44), (22, 43), (21, 42), (20, 41), (19, 40), (18, 39), (17, 38), (16, 37), (15, 36), (14, 35), (13, 34), (12, 33), (11, 32), (10, 31), (9, 30), (8, 29), (7, 28), (6, 27), (5, 26), (4, 25), (3, 24), (2, 23), (1, 22), (0, 21)] hh mixed Tz e8 rfl (by repeat (first | exact cB | refine bO ?_ | refine cA ?_)) ?_
      refine dV ?_;refine fJ 0 ?_;refine dV ?_;refine fJ 1 ?_;refine dC (fun _ hj => hmay _) ?_;refine FB ?_;refine nJ ?_;refine dS (dS (dS (dS ?_)));refine FJ ?_;exact Oa
     | true =>
      rw [hm] at hmay;by_cases hz : x.c.d = 0
      ·have hs := hzz.2 hz;rw [hbad (yp hx (by unfold nS yK; rw [hm, decide_eq_true hz]; rfl))];refine sr ?_;refine dZ ?_;refine cn ?_;refine qV ?_;refine bR hh ?_;intro b4 w4 hh;refine aI ?_;refine bW hh 0 [_,_,_,_] ?_;intro ws hh;replace hh : Hp _ (.blk _ _ [_, _, _, _] _ :: _) _ := hh;refine aa (ah ?_)
       refine ef [] [] zL1 33 zL0 [(32, 53), (31, 52), (30, 51), (29, 50), (28, 49), (27, 48), (26, 47), (25, 46), (24, 45), (23, 44), (22, 43), (21, 42), (20, 41), (19, 40), (18, 39), (17, 38), (16, 37), (15, 36), (14, 35), (13, 34), (12, 33), (11, 32), (10, 31), (9, 30), (8, 29), (7, 28), (6, 27), (5, 26), (4, 25), (3, 24), (2, 23), (1, 22), (0, 21)] hh mixed Tz e8 rfl (by repeat (first | exact cB | refine bO ?_ | refine cA ?_)) ?_
       refine dV ?_;refine fJ 0 ?_;refine dV ?_;refine fJ 1 ?_;refine dC (fun _ hj => hmay _) ?_;refine FB ?_;refine nJ ?_;refine dG (dV ?_);refine dG (fT 0 [_,_,_] ?_);refine Bk ?_;refine dG (yi ?_);refine KH ?_;exact Oa
      ·have hs : ¬ x.c.i.sign = 0 := fun h => hz (hzz.1 h);by_cases hnf : nR x.c.d = x.c
       ·have hgood : nS v x = true := by unfold nS yK; rw [hm, decide_eq_false hz, (sF x.c).2 hnf]; rfl
        have hall2 : (ts.take (i + 1)).all (nS v) = true := by rw [ay hx, List.all_append, hall]; simp [hgood]
        by_cases h0 : i = 0
        ·refine sr ?_;refine dZ ?_;refine cn ?_;refine qV ?_;refine bR hh ?_;intro b4 w4 hh;refine aI ?_;refine bW hh 0 [_,_,_,_] ?_;intro ws hh;replace hh : Hp _ (.blk _ _ [_, _, _, _] _ :: _) _ := hh;refine aa (ah ?_)
         refine ef [] [] zL1 33 zL0 [(32, 53), (31, 52), (30, 51), (29, 50), (28, 49), (27, 48), (26, 47), (25, 46), (24, 45), (23, 44), (22, 43), (21, 42), (20, 41), (19, 40), (18, 39), (17, 38), (16, 37), (15, 36), (14, 35), (13, 34), (12, 33), (11, 32), (10, 31), (9, 30), (8, 29), (7, 28), (6, 27), (5, 26), (4, 25), (3, 24), (2, 23), (1, 22), (0, 21)] hh mixed Tz e8 rfl (by repeat (first | exact cB | refine bO ?_ | refine cA ?_)) ?_
         refine dV ?_;refine fJ 0 ?_;refine dV ?_;refine fJ 1 ?_;refine dC (fun _ hj => hmay _) ?_;refine FB ?_;refine nJ ?_;refine dG (dV ?_);refine dG (fT 0 [_,_,_] ?_);refine Bk ?_;refine dG (yi ?_);refine KH ?_;refine nJ ?_;refine dG (dV ?_);refine dG (fT 0 [_,_,_] ?_);refine DZ ?_;refine dG (dV ?_);refine dG (fT 0 [_,_,_] ?_);refine G7 ?_;refine KH ?_;refine nJ ?_;refine dG (dE ?_);refine dG (PG ?_);refine dG (nJ ?_);refine dS (dS (dS (dS ?_)));refine yk (i := 28) rfl (fun ρ1 w1 hj hR => (show ρ1 44 = Value.bool _ from hR.2.2.1)) Ty ?_;refine dS (dS (dS (dS ?_)));refine aT ?_;intro f W hJ hV _;have hb_8 := hJ.bl;obtain ⟨v53, v52, v51, v50, v49, v48, v47, v46, v45, v44, v43, v42, v41, v40, v39, v38, v37, v36, v35, v34, v33, v32, v31, v30, v29, v28, v27, v26, v25, v24, v23, v22, v21, _⟩ := hV;replace hh := hJ.hp;refine El ?_;dsimp only [cg];clear hJ;refine gS (gT ?_)
         (first | refine fu ?_ | refine dK ?_)
         refine dK ?_;refine Be ?_;refine bh (mI (aA (ai ?_)));replace hh := hh.sub (List.Sublist.cons _ (List.Sublist.cons_cons _ List.Sublist.slnil));refine ⟨⟨i + 1, Tx, rfl, hall2, by rw [ay hx, h0]; rfl, hh⟩, by show n - (i + 1) < n - i; omega, ?_⟩;exact dL
        ·obtain ⟨q, hq⟩ : ∃ q, i = q + 1 := ⟨i - 1, Tx⟩;obtain ⟨p, hp⟩ := ao (l := ts) (k := q) Tx
         cases hlp : jb p.m x.m with
         | false =>
          rw [hbad (JT hp (hq ▸ hx) hlp)];have hge : (!(Op.bytesLess p.m.toList x.m.toList)) = true := by rw [pP, hlp]; rfl
          refine sr ?_;refine dZ ?_;refine cn ?_;refine qV ?_;refine bR hh ?_;intro b4 w4 hh;refine aI ?_;refine bW hh 0 [_,_,_,_] ?_;intro ws hh;replace hh : Hp _ (.blk _ _ [_, _, _, _] _ :: _) _ := hh;refine aa (ah ?_)
          refine ef [] [] zL1 33 zL0 [(32, 53), (31, 52), (30, 51), (29, 50), (28, 49), (27, 48), (26, 47), (25, 46), (24, 45), (23, 44), (22, 43), (21, 42), (20, 41), (19, 40), (18, 39), (17, 38), (16, 37), (15, 36), (14, 35), (13, 34), (12, 33), (11, 32), (10, 31), (9, 30), (8, 29), (7, 28), (6, 27), (5, 26), (4, 25), (3, 24), (2, 23), (1, 22), (0, 21)] hh mixed Tz e8 rfl (by repeat (first | exact cB | refine bO ?_ | refine cA ?_)) ?_
          refine dV ?_;refine fJ 0 ?_;refine dV ?_;refine fJ 1 ?_;refine dC (fun _ hj => hmay _) ?_;refine FB ?_;refine nJ ?_;refine dG (dV ?_);refine dG (fT 0 [_,_,_] ?_);refine Bk ?_;refine dG (yi ?_);refine KH ?_;refine nJ ?_;refine dG (dV ?_);refine dG (fT 0 [_,_,_] ?_);refine DZ ?_;refine dG (dV ?_);refine dG (fT 0 [_,_,_] ?_);refine G7 ?_;refine KH ?_;refine nJ ?_;refine dG (dE ?_);refine dG (PG ?_);refine dG (nJ ?_);refine dG (dV ?_);refine dG (fJ 1 ?_);refine dG (dE ?_);refine dG (uX ?_);refine dG (nT (q) ?_);refine dG (MT ?_);refine dG (rX (fun _ hj => ((hr.ext hj.hp.below).recAt TR.len hp).cell (i := 0) rfl) ?_);refine dG (dV ?_);refine dG (fJ 0 ?_);refine aT ?_;intro f W hJ hV _;have hb_8 := hJ.bl;obtain ⟨v53, v52, v51, v50, v49, v48, v47, v46, v45, v44, v43, v42, v41, v40, v39, v38, v37, v36, v35, v34, v33, v32, v31, v30, v29, v28, v27, v26, v25, v24, v23, v22, v21, _⟩ := hV;replace hh := hJ.hp;refine El ?_;dsimp only [cg];clear hJ;refine gT ?_;refine wm rfl rfl Ty ?_;refine gT ?_
          (first | refine fu ?_ | refine dK ?_)
          refine dK ?_;refine aa ?_;rw [hge];refine cT (sr (aI (aa (av (bY (aG (aG (bY (aG ?_)))))))));refine cX ?_;exact ⟨rfl, hh.below⟩
         | true =>
          have hge : (!(Op.bytesLess p.m.toList x.m.toList)) = false := by rw [pP, hlp]; rfl
          refine sr ?_;refine dZ ?_;refine cn ?_;refine qV ?_;refine bR hh ?_;intro b4 w4 hh;refine aI ?_;refine bW hh 0 [_,_,_,_] ?_;intro ws hh;replace hh : Hp _ (.blk _ _ [_, _, _, _] _ :: _) _ := hh;refine aa (ah ?_)
          refine ef [] [] zL1 33 zL0 [(32, 53), (31, 52), (30, 51), (29, 50), (28, 49), (27, 48), (26, 47), (25, 46), (24, 45), (23, 44), (22, 43), (21, 42), (20, 41), (19, 40), (18, 39), (17, 38), (16, 37), (15, 36), (14, 35), (13, 34), (12, 33), (11, 32), (10, 31), (9, 30), (8, 29), (7, 28), (6, 27), (5, 26), (4, 25), (3, 24), (2, 23), (1, 22), (0, 21)] hh mixed Tz e8 rfl (by repeat (first | exact cB | refine bO ?_ | refine cA ?_)) ?_
          refine dV ?_;refine fJ 0 ?_;refine dV ?_;refine fJ 1 ?_;refine dC (fun _ hj => hmay _) ?_;refine FB ?_;refine nJ ?_;refine dG (dV ?_);refine dG (fT 0 [_,_,_] ?_);refine Bk ?_;refine dG (yi ?_);refine KH ?_;refine nJ ?_;refine dG (dV ?_);refine dG (fT 0 [_,_,_] ?_);refine DZ ?_;refine dG (dV ?_);refine dG (fT 0 [_,_,_] ?_);refine G7 ?_;refine KH ?_;refine nJ ?_;refine dG (dE ?_);refine dG (PG ?_);refine dG (nJ ?_);refine dG (dV ?_);refine dG (fJ 1 ?_);refine dG (dE ?_);refine dG (uX ?_);refine dG (nT (q) ?_);refine dG (MT ?_);refine dG (rX (fun _ hj => ((hr.ext hj.hp.below).recAt TR.len hp).cell (i := 0) rfl) ?_);refine dG (dV ?_);refine dG (fJ 0 ?_);refine aT ?_;intro f W hJ hV _;have hb_8 := hJ.bl;obtain ⟨v53, v52, v51, v50, v49, v48, v47, v46, v45, v44, v43, v42, v41, v40, v39, v38, v37, v36, v35, v34, v33, v32, v31, v30, v29, v28, v27, v26, v25, v24, v23, v22, v21, _⟩ := hV;replace hh := hJ.hp;refine El ?_;dsimp only [cg];clear hJ;refine gT ?_;refine wm rfl rfl Ty ?_;refine gT ?_
          (first | refine fu ?_ | refine dK ?_)
          refine dK ?_;refine aa ?_;rw [hge];refine cF (ar (bA (ai (al ?_))));refine bh (mI (aA (ai ?_)));replace hh := hh.sub (List.Sublist.cons _ (List.Sublist.cons_cons _ List.Sublist.slnil));refine ⟨⟨i + 1, Tx, rfl, hall2, ?_, hh⟩, by show n - (i + 1) < n - i; omega, ?_⟩
          ·rw [hq, ay hp] at hris;rw [ay hx, hq, ay hp, List.append_assoc];show ua (ts.take q ++ [p, x]) = true;rw [we, hris, hlp]
           rfl
          ·exact dL
       ·rw [hbad (yp hx (by unfold nS yK; rw [hm, decide_eq_false hz, Bool.eq_false_iff.2 (fun h => hnf ((sF x.c).1 h))]; rfl))];refine sr ?_;refine dZ ?_;refine cn ?_;refine qV ?_;refine bR hh ?_;intro b4 w4 hh;refine aI ?_;refine bW hh 0 [_,_,_,_] ?_;intro ws hh;replace hh : Hp _ (.blk _ _ [_, _, _, _] _ :: _) _ := hh;refine aa (ah ?_)
        refine ef [] [] zL1 33 zL0 [(32, 53), (31, 52), (30, 51), (29, 50), (28, 49), (27, 48), (26, 47), (25, 46), (24, 45), (23, 44), (22, 43), (21, 42), (20, 41), (19, 40), (18, 39), (17, 38), (16, 37), (15, 36), (14, 35), (13, 34), (12, 33), (11, 32), (10, 31), (9, 30), (8, 29), (7, 28), (6, 27), (5, 26), (4, 25), (3, 24), (2, 23), (1, 22), (0, 21)] hh mixed Tz e8 rfl (by repeat (first | exact cB | refine bO ?_ | refine cA ?_)) ?_
        refine dV ?_;refine fJ 0 ?_;refine dV ?_;refine fJ 1 ?_;refine dC (fun _ hj => hmay _) ?_;refine FB ?_;refine nJ ?_;refine dG (dV ?_);refine dG (fT 0 [_,_,_] ?_);refine Bk ?_;refine dG (yi ?_);refine KH ?_;refine nJ ?_;refine dG (dV ?_);refine dG (fT 0 [_,_,_] ?_);refine DZ ?_;refine dG (dV ?_);refine dG (fT 0 [_,_,_] ?_);refine xk (i := 18) rfl (fun ρ1 w1 hj hR => (show ρ1 33 = Value.bool _ from hR.2.2.1)) (fun ρ1 w1 hj hR => Fc (show ρ1 36 = Value.agg (List.toArray _) from hR.1) (show ρ1 38 = Value.agg (List.toArray _) from hR.2.1) (by assumption)) ?_;refine KH ?_;exact SE
    ·rw [List.take_of_length_le Tx] at hall hris;rw [show fH v ts = 0 by unfold fH okB; rw [if_neg (by rw [hf]; decide), if_neg Tx, hall, hris]; rfl];refine sr ?_;refine Ea ?_;refine cX ?_;exact ⟨rfl, hh.below⟩
def eH (v : Int) (t : TR) : Bool := eE t.m.data.toList && decide ((t.m.size : Int) = v)
theorem zK (z : TR) (v : Int) (b : Nat) (w : World) (hp : w.cell? ⟨b, 0, none⟩ = some (.int .i64 v)) (hz : z.m.size ≤ 100000) : Calls Tryz.prog 158 #[.agg #[.string z.m, .bool z.c.neg, .string z.c.bo, .int .i64 z.c.e], .pointer (some ⟨b, 0, none⟩)] w fun r w' => r = .returned (.bool (!eH v z)) ∧ Below w.heap.size w w' := by
 have hh := Hp.start w;have hmay := fun w1 => kN z.m v w1 Tx;unfold eH;refine aj (N := 9) (l := [.agg #[.string z.m, .bool z.c.neg, .string z.c.bo, .int .i64 z.c.e], .pointer (some ⟨b, 0, none⟩)]) Tryz.func158 rfl rfl (by simp) ?_;refine sr ?_;refine cx hh [_,_,_,_] ?_;intro b2 w2 hh;refine aB (aa (sr (bD ?_)));refine bB hh 0 ?_;refine bT aN.out rfl (cE hh.below hp) Ty ?_;refine bz hh (hmay _) rfl ?_;intro w7 hh
 cases eE z.m.data.toList && decide ((z.m.size : Int) = v) with
 | false =>
  refine gC ?_;exact vi
 | true =>
  refine gC ?_;exact vi
theorem u7 (A : Option Addr) (n c : Nat) (l : List TR) (v : Int) (b : Nat) (w : World) (hS : Sl w A n 4 (az TR.cells l)) (hn : n ≤ 1000000) (hp : w.cell? ⟨b, 0, none⟩ = some (.int .i64 v)) (hz : ∀ t ∈ l, t.m.size ≤ 100000) :
  Calls Tryz.prog 157 #[.slice A n c, .func (.func 158) #[] #[.pointer (some ⟨b, 0, none⟩)]] w fun r w' => r = .returned (.bool (l.any fun t => !eH v t)) ∧ Below w.heap.size w w' :=
 Da A n c l 158 [.pointer (some ⟨b, 0, none⟩)] (fun t => !eH v t) w hS hn fun z w1 hz2 hb => zK z v b w1 (cE hb hp) (hz z hz2)
def pT (v : Int) (l : List TR) : Int := if ja v = false ∨ (l.any fun t => !eH v t) = true then 1 else if 65536 < l.length then 3 else gR l
theorem mE (v : Int) (A : Option Addr) (n c : Nat) (l : List TR) (k : Nat) (w : World) (hT : ee w) (hS : Sl w A n 4 (az TR.cells l)) (hn : n ≤ 1000000) (hk : k ≤ 2999980) (ho : iO k l) (hz : ∀ t ∈ l, t.m.size ≤ 100000) :
  Calls Tryz.prog 72 #[.int .i64 v, .slice A n c] w fun r w' => ∃ g : PX, eK (pT v l) v (aF l) g ∧ r = .returned (.tuple #[.agg #[.int .i64 g.v, .slice g.A g.n g.c], .int .i64 (pT v l)]) ∧ Hp w [g.row] w' := by
 have hh := Hp.start w;have hln := hS.bk TR.len Ty;have hfw := fun w1 => m8 v w1;have han := fun b w1 hb hp => u7 A n c l v b w1 (hS.ext hb) hn hp hz
 cases hf : ja v with
 | false =>
  rw [hf] at hfw;rw [show pT v l = 1 by unfold pT; rw [if_pos (.inl hf)]];refine EZ ?_;refine sr ?_;refine cx hh [_] ?_;intro b2 w2 hh;refine bR hh ?_;intro b4 w4 hh;refine aI (aa (ah (sr ?_)));refine bB hh 1 ?_;refine bz hh (hfw _) rfl ?_;intro w7 hh;refine gC ?_;refine mB ?_;refine gS (gS ?_);refine iJ ?_;refine fu ?_;refine aa (cT (sr ?_));exact L5
 | true =>
  rw [hf] at hfw
  cases ha : l.any fun t => !eH v t with
  | true =>
   rw [ha] at han;rw [show pT v l = 1 by unfold pT; rw [if_pos (.inr ha)]];refine EZ ?_;refine sr ?_;refine cx hh [_] ?_;intro b2 w2 hh;refine bR hh ?_;intro b4 w4 hh;refine aI (aa (ah (sr ?_)));refine bB hh 1 ?_;refine bz hh (hfw _) rfl ?_;intro w7 hh;refine gC ?_;refine mB (gT (mL (gT ?_)));refine vk ?_;refine aH rfl rfl ?_;refine bz hh (han _ _ hh.below (hh.dX (i := 1) (o := 0) rfl rfl)) rfl ?_;intro w12 hh;refine dK ?_;refine aa (cT (sr ?_));exact L5
  | false =>
   rw [ha] at han;have e1 : pT v l = if 65536 < l.length then 3 else gR l := by unfold pT; rw [if_neg (by rw [hf, ha]; decide)]
   by_cases h6 : 65536 < n
   ·rw [e1, if_pos Tx];refine EZ ?_;refine sr ?_;refine cx hh [_] ?_;intro b2 w2 hh;refine bR hh ?_;intro b4 w4 hh;refine aI (aa (ah (sr ?_)));refine bB hh 1 ?_;refine bz hh (hfw _) rfl ?_;intro w7 hh;refine gC ?_;refine mB (gT (mL (gT ?_)));refine vk ?_;refine aH rfl rfl ?_;refine bz hh (han _ _ hh.below (hh.dX (i := 1) (o := 0) rfl rfl)) rfl ?_;intro w12 hh;refine dK ?_;refine aa (cF (ar (ai (ah (sr (mL (aJ ?_)))))));refine bM (aa (cT (sr ?_)));exact L5
   ·rw [e1, if_neg Tx];refine EZ ?_;refine sr ?_;refine cx hh [_] ?_;intro b2 w2 hh;refine bR hh ?_;intro b4 w4 hh;refine aI (aa (ah (sr ?_)));refine bB hh 1 ?_;refine bz hh (hfw _) rfl ?_;intro w7 hh;refine gC ?_;refine mB (gT (mL (gT ?_)));refine vk ?_;refine aH rfl rfl ?_;refine bz hh (han _ _ hh.below (hh.dX (i := 1) (o := 0) rfl rfl)) rfl ?_;intro w12 hh;refine dK ?_;refine aa (cF (ar (ai (ah (sr (mL (aJ ?_)))))));refine bM (aa (cF (ar (ai (ah ?_)))));refine qB [] [0, 0, 2, 7, 15, 15, 63, 127] 3 [[(2, none)], [(1, none)], [(20, some 1)]] [(2, 21), (1, 20), (0, 19)] [([], 4, [(2, 21), (1, 20), (0, 19)])] hh mixed Tz Tz Ty ?_;refine fJ 1 ?_;refine gk ?_;refine aR (i := 2) (ve hh.sz 96 n 4 (az TR.cells l)) (ve.ext) ?_ ?_
    ·intro ρ1 w1 hj hR;exact a8 rfl (aM ak.out (aw (show ρ1 20 = Value.slice _ _ _ from hR.1) aX)) (lO A n c l w1 (hS.ext hj.hp.below) hn) (fun _ _ ⟨A, c, hq, ho, hb⟩ => ⟨_, hq, hb, A, c, rfl, oL ho hj.bl.size⟩)
    refine aT ?_;intro p_ hp_;simp only [List.mem_cons, List.not_mem_nil, or_false] at hp_
    rcases hp_ with rfl
    intro f W hJ hV;have hb_5 := hJ.bl;obtain ⟨v21, v20, v19, _⟩ := hV;simp only [mJ];have e19 : f 0 = _ := v19;rw [e19];have e20 : f 1 = _ := v20;rw [e20];obtain ⟨A21, c21, e21, o21⟩ : ve _ _ _ _ _ (f 2) W := v21;rw [e21];replace hh := JJ.Hy hh hJ.hp o21;clear o21;clear e19 e20 e21 hJ;refine aE (ko v A21 n c21 l k _ hT hh hln Tx Tx ho) ak.out rfl Ty ?_; rintro e_ w22 ⟨g, og, rfl, hh⟩; refine ⟨_, rfl, ?_⟩;refine fa ?_;refine cV (i := 4) (by repeat (first | exact cB | refine bO ?_ | refine cA ?_ | refine np_scope ?_)) rfl Tz Tz Tz (fun _ => fi (show _ = Value.tuple (List.toArray _) from rfl) rfl) Ty ?_;refine cV (i := 5) (by repeat (first | exact cB | refine bO ?_ | refine cA ?_ | refine np_scope ?_)) rfl Tz Tz Tz (fun _ => fi (show _ = Value.tuple (List.toArray _) from rfl) rfl) Ty ?_;refine kt 6 Ty Tz Ty Tz Tz ?_;exact Eg
def PX.cells (g : PX) : List Value := [.int .i64 g.v, .slice g.A g.n g.c]
theorem PX.len (g : PX) : (PX.cells g).length = 2 := rfl
structure PX.kO (g : PX) (k : Nat) : Prop where
 n : g.n ≤ 1000000
 cap : g.n ≤ g.c
 ok : iO k g.ts
 sz : ∀ t ∈ g.ts, t.m.size ≤ 100000
def PX.e (g : PX) : Int := fH g.v g.ts
theorem nj (g : PX) (k : Nat) (w : World) (hT : ee w) (h : g.at_ w) (hl : g.kO k) :
  Calls Tryz.prog 142 #[.agg #[.int .i64 g.v, .slice g.A g.n g.c]] w fun r w' => r = .returned (.int .i64 g.e) ∧ Below w.heap.size w w' :=
 yl g.v g.A g.n g.c g.ts w hT h hl.n fun t ht => ⟨(hl.ok t ht).1, hl.sz t ht⟩
def u2 (ps : List PX) : Bool := ps.any fun g => decide (g.v ≠ (ps.map PX.v).headD 0)
def eS (ps : List PX) : Int := match ps.find? (fun g => decide (g.e ≠ 0)) with | some g => g.e | none => if ps.length = 0 ∨ u2 ps = true then 1 else 0
theorem C7 (L : Option Addr) (n c : Nat) (ps : List PX) (f : PX) (p : Addr) (w : World) (hL : Sl w L n 2 (az PX.cells ps)) (hp : w.cell? p = some (.slice L n c)) (hn : 0 < n) :
  Calls Tryz.prog 160 #[.agg #[.int .i64 f.v, .slice f.A f.n f.c], .pointer (some p)] w fun r w' => r = .returned (.bool (decide (f.v ≠ (ps.map PX.v).headD 0))) ∧ Below w.heap.size w w' := by
 have hh := Hp.start w;have hln := hL.bk PX.len Ty;obtain ⟨g, ps, rfl⟩ : ∃ g l, ps = g :: l := by
  cases ps with
  | nil => exact absurd hln (by show ¬ 0 = n; omega)
  | cons g l => exact ⟨g, l, rfl⟩
 obtain ⟨ad, rfl, hr⟩ := hL.at_ hn;have hd : (((g :: ps).map PX.v).headD 0) = g.v := rfl;rw [hd];have h0 : (g :: ps)[0]? = some g := rfl;by_cases hg : f.v = g.v
 ·refine aj (N := 11) (l := [.agg #[.int .i64 f.v, .slice f.A f.n f.c], .pointer (some p)]) Tryz.func160 rfl rfl (by simp) ?_;refine sr ?_;refine cx hh [_,_] ?_;intro b2 w2 hh;refine aB (aa (ah ?_));refine MQ ?_;refine dV ?_;refine fJ 0 ?_;refine rX (fun _ hj => (hj.hp.below.cell (lh hp)).trans hp) ?_;refine bp (i := 3) (fun ρ1 w1 hj hR => dy bg.out aN.size (show ρ1 6 = Value.slice _ _ _ from hR.1) rfl Tx Tx) ?_;refine MT ?_;refine rX (fun _ hj => cE hj.hp.below (((hr.recAt PX.len h0)) 0 _ rfl)) ?_;refine aT ?_;intro f W hJ hV;have hb_1 := hJ.bl;obtain ⟨v9, v8, v7, v6, v5, v4, _⟩ := hV;replace hh := hJ.hp;refine a6 (bm (ae v9 (ae v8 (ae v7 (ae v6 (ae v5 (ae v4 a0))))))) ?_;dsimp only [cg];clear hJ;exact Mx
 ·refine aj (N := 11) (l := [.agg #[.int .i64 f.v, .slice f.A f.n f.c], .pointer (some p)]) Tryz.func160 rfl rfl (by simp) ?_;refine sr ?_;refine cx hh [_,_] ?_;intro b2 w2 hh;refine aB (aa (ah ?_));refine MQ ?_;refine dV ?_;refine fJ 0 ?_;refine rX (fun _ hj => (hj.hp.below.cell (lh hp)).trans hp) ?_;refine bp (i := 3) (fun ρ1 w1 hj hR => dy bg.out aN.size (show ρ1 6 = Value.slice _ _ _ from hR.1) rfl Tx Tx) ?_;refine MT ?_;refine rX (fun _ hj => cE hj.hp.below (((hr.recAt PX.len h0)) 0 _ rfl)) ?_;refine aT ?_;intro f W hJ hV;have hb_1 := hJ.bl;obtain ⟨v9, v8, v7, v6, v5, v4, _⟩ := hV;replace hh := hJ.hp;refine a6 (bm (ae v9 (ae v8 (ae v7 (ae v6 (ae v5 (ae v4 a0))))))) ?_;dsimp only [cg];clear hJ;exact NM
theorem BU (A : Option Addr) (n c : Nat) (l : List PX) (g : FuncId) (cap : List Value) (p : PX → Bool) (w : World) (hS : Sl w A n 2 (az PX.cells l)) (hn : n ≤ 1000000) [ak Tryz.prog g]
  (hg : ∀ (z : PX) (w1 : World), z ∈ l → Below w.heap.size w w1 → Calls Tryz.prog g (.agg #[.int .i64 z.v, .slice z.A z.n z.c] :: cap).toArray w1 fun r w' => r = .returned (.bool (p z)) ∧ Below w1.heap.size w1 w') :
  Calls Tryz.prog 204 #[.slice A n c, .func (.func g) #[] cap.toArray] w fun r w' => ∃ v, r = .returned (.int .i64 v) ∧ (0 ≤ v ↔ l.any p = true) ∧ Below w.heap.size w w' := by
 have hh := Hp.start w;have hln := hS.bk PX.len Ty;refine aj (N := 19) (l := [.slice A n c, .func (.func g) #[] cap.toArray]) Tryz.func204 rfl rfl (by simp) ?_;refine yS ?_;refine aP [4, 5, 8, 9, 10, 11, 12, 13, 14, 15, 16, 17, 18] 8
  (fun v w' => ∃ i : Nat, i ≤ n ∧ v = .int .i64 i ∧ (l.take i).any p = false ∧ Hp w [] w')
  (fun v _ => n - (intOf v).toNat) ?_ ?_
 ·exact ⟨0, Nat.zero_le _, rfl, rfl, hh⟩
 ·clear hh;rintro ρ' v w' ⟨i, hi, rfl, hall, hh⟩;by_cases hlt : i < n
  ·obtain ⟨z, hz⟩ := ao (l := l) (k := i) Tx;obtain ⟨ad, rfl, hr⟩ := hS.at_ Tx;have hc := fun w1 => hg z w1 (List.mem_of_getElem? hz)
   cases gz : p z with
   | true =>
    rw [gz] at hc;refine sr ?_;refine ra ?_;refine iI ?_;refine mL (mI ?_);refine cn ?_;refine ct (vs := [_, _]) aN.out rfl ((hr.ext hh.below).recAt PX.len hz) rfl Ty ?_;exact Pw
   | false =>
    rw [gz] at hc;refine sr ?_;refine ra ?_;refine iI ?_;refine mL (mI ?_);refine cn ?_;refine ct (vs := [_, _]) aN.out rfl ((hr.ext hh.below).recAt PX.len hz) rfl Ty ?_;exact EF
  ·exact Oq
theorem ug (A : Option Addr) (n c : Nat) (l : List PX) (g : FuncId) (cap : List Value) (p : PX → Bool) (w : World) (hS : Sl w A n 2 (az PX.cells l)) (hn : n ≤ 1000000) [ak Tryz.prog g]
  (hg : ∀ (z : PX) (w1 : World), z ∈ l → Below w.heap.size w w1 → Calls Tryz.prog g (.agg #[.int .i64 z.v, .slice z.A z.n z.c] :: cap).toArray w1 fun r w' => r = .returned (.bool (p z)) ∧ Below w1.heap.size w1 w') :
  Calls Tryz.prog 154 #[.slice A n c, .func (.func g) #[] cap.toArray] w fun r w' => r = .returned (.bool (l.any p)) ∧ Below w.heap.size w w' := by
 have hh := Hp.start w;refine aj (N := 9) (l := [.slice A n c, .func (.func g) #[] cap.toArray]) Tryz.func154 rfl rfl (by simp) ?_;refine sr (aB (aa (sr (mL ?_))));refine iI ?_;refine aE (BU A n c l g cap p _ (hS.ext hh.below) hn hg) ak.out rfl Ty ?_;exact Ok
theorem qT (L : Option Addr) (n c : Nat) (ps : List PX) (k : Nat) (w : World) (hT : ee w) (hL : Sl w L n 2 (az PX.cells ps)) (hn : n ≤ 1000000) (hf : ∀ g ∈ ps, g.at_ w) (hl : ∀ g ∈ ps, g.kO k) :
  Calls Tryz.prog 74 #[.slice L n c] w fun r w' => r = .returned (.int .i64 (eS ps)) ∧ Below w.heap.size w w' := by
 have hh := Hp.start w;have hln := hL.bk PX.len Ty;refine aj (N := 26) (l := [.slice L n c]) Tryz.func74 rfl rfl (by simp) ?_;refine sr ?_;refine cx hh [_] ?_;intro b1 w1 hh;refine aI (aa (ah (sr ?_)));refine bB hh 0 ?_;refine aJ (mI (aa (aq ?_)));refine aP [2, 4, 5, 8, 9, 10, 11, 12, 13, 14, 15, 16, 17] 8
  (fun v w' => ∃ i : Nat, i ≤ n ∧ v = .int .i64 i ∧ (ps.take i).any (fun g => decide (g.e ≠ 0)) = false ∧ Hp w [.blk b1 104 [.slice L n c] (0, 0)] w')
  (fun v _ => n - (intOf v).toNat) ?_ ?_
 ·exact ⟨0, Nat.zero_le _, rfl, rfl, hh⟩
 ·clear hh;rintro ρ' v w' ⟨i, hi, rfl, hall, hh⟩;by_cases hlt : i < n
  ·obtain ⟨g, hx⟩ := ao (l := ps) (k := i) Tx;have hmem := List.mem_of_getElem? hx;have hc := fun w1 hT1 hb => nj g k w1 hT1 ((hf g hmem).ext hb) (hl g hmem);obtain ⟨ad, rfl, hr⟩ := hL.at_ Tx;by_cases he : g.e = 0
   ·refine sr ?_;refine dH ?_;refine cn ?_;refine Hs ?_;refine bR hh ?_;intro b4 w4 hh;refine bW hh 0 [_,_] ?_;intro ws hh;replace hh : Hp _ (.blk _ _ [_, _] _ :: _) _ := hh;refine aa (sr ?_);refine cD hh 0 [_,_] ?_;refine bz hh (hc _ (hT.hp hh) hh.below) rfl ?_;intro w13 hh;refine aI (aa (sr (mI ?_)));refine cK (aa (cF (ar (bA (ai (al ?_))))));refine bh (mI (aA (ai ?_)));replace hh := hh.sub (List.Sublist.cons _ (List.Sublist.cons_cons _ List.Sublist.slnil));refine ⟨⟨i + 1, Tx, rfl, by rw [ay hx, List.any_append, hall, List.any_cons, List.any_nil, decide_eq_false Tx]; rfl, hh⟩, by show n - (i + 1) < n - i; omega, ?_⟩;exact dL
   ·refine sr ?_;refine dH ?_;refine cn ?_;refine Hs ?_;refine bR hh ?_;intro b4 w4 hh;refine bW hh 0 [_,_] ?_;intro ws hh;replace hh : Hp _ (.blk _ _ [_, _] _ :: _) _ := hh;refine aa (sr ?_);refine cD hh 0 [_,_] ?_;refine bz hh (hc _ (hT.hp hh) hh.below) rfl ?_;intro w13 hh;refine aI (aa (sr (mI ?_)));refine cK (aa (cT (sr (mI (aI (aa (av (bY (aG (aG (bY (aG ?_))))))))))));refine cX ?_;refine ⟨?_, hh.below⟩;unfold eS;rw [wk hall hx (decide_eq_true he)]
  ·rw [List.take_of_length_le Tx] at hall;have hlk : eS ps = if ps.length = 0 ∨ u2 ps = true then 1 else 0 := by unfold eS; rw [iP hall]
   rw [hlk];by_cases h0 : n = 0
   ·refine sr ?_;refine G9 ?_;refine bB hh 0 ?_;refine aJ ?_;refine cW (mB ?_);refine gS (gS ?_);refine iJ ?_;refine fu ?_;refine Ay ?_;refine cX ?_;exact ⟨by rw [if_pos (.inl Tx)], hh.below⟩
   ·have hcell : w'.cell? ⟨b1, 0, none⟩ = some (.slice L n c) := hh.dX (i := 0) rfl rfl;have ho := fun w1 hb => ug L n c ps 160 [.pointer (some ⟨b1, 0, none⟩)] (fun g => decide (g.v ≠ (ps.map PX.v).headD 0)) w1 (hL.ext (hh.below.trans (hb.mono hh.below.size))) hn (fun z w2 hz hb2 => C7 L n c ps z ⟨b1, 0, none⟩ w2 ((hL.ext (hh.below.trans (hb.mono hh.below.size))).ext hb2) (cE hb2 (cE hb hcell)) Tx)
    cases hod : u2 ps with
    | true =>
     have hod2 : ps.any (fun g => decide (g.v ≠ (ps.map PX.v).headD 0)) = true := hod;rw [hod2] at ho;refine sr ?_;refine G9 ?_;refine bB hh 0 ?_;refine aJ ?_;refine cW (mB (gT ?_));refine bB hh 0 ?_;refine gT ?_;refine vk ?_;refine aH rfl rfl ?_;refine bz hh (ho _ (Below.refl _ _)) rfl ?_;intro w24 hh;refine dK ?_;refine Ay ?_;refine cX ?_;exact ⟨by rw [if_pos (.inr rfl)], hh.below⟩
    | false =>
     have hod2 : ps.any (fun g => decide (g.v ≠ (ps.map PX.v).headD 0)) = false := hod;rw [hod2] at ho;refine sr ?_;refine G9 ?_;refine bB hh 0 ?_;refine aJ ?_;refine cW (mB (gT ?_));refine bB hh 0 ?_;refine gT ?_;refine vk ?_;refine aH rfl rfl ?_;refine bz hh (ho _ (Below.refl _ _)) rfl ?_;intro w24 hh;refine dK ?_;refine Ex ?_;refine cX ?_;refine ⟨?_, hh.below⟩;rw [if_neg];rintro (h | h)
     ·omega
     ·cases h
set_option maxRecDepth 100000 in
theorem CK {H : Type} {enc : TypeId × Value → H} {W : World} {base fuel : Nat} {sp : Nat → Bool} {held : Bool} {cs : List Value} {x : DataW H × List MemPlace} (h : DataW.trod enc Tryz.prog W base sp held fuel 96 cs = some x) :
  ∃ t : TR, cs = t.cells ∧ True := by
 have c0 : Tryz.prog.cellsOf 96 = 4 := by kernel_rfl
 have c1 : Tryz.prog.cellsOf 9 = 1 := by kernel_rfl
 have c2 : Tryz.prog.cellsOf 65 = 3 := by kernel_rfl
 obtain ⟨y0, y1, n, _, hl, h0, h1⟩ := trod_struct2 Tryz.underlying96 h;obtain ⟨s, e0, _, _⟩ := DataW.trod_string Tryz.underlying9 h0;obtain ⟨a, e1, _⟩ := ng h1;rw [c0] at hl
 match cs, hl with
 | [x0, x1, x2, x3], _ =>
  simp only [c1, c2] at e0 e1;unfold NR.cells at e1;simp at e0 e1;obtain ⟨e1, e2, e3⟩ := e1;subst e0 e1 e2 e3;exact ⟨⟨s, a⟩, rfl, trivial⟩
set_option maxRecDepth 100000 in
theorem Cw {H : Type} {enc : TypeId × Value → H} {W : World} {base fuel : Nat} {sp : Nat → Bool} {held : Bool} {cs : List Value} {x : DataW H × List MemPlace} (h : DataW.trod enc Tryz.prog W base sp held fuel 24 cs = some x) :
  ∃ g : PX, cs = g.cells ∧ (g.at_ W ∧ g.n ≤ g.c) := by
 have c0 : Tryz.prog.cellsOf 24 = 2 := by kernel_rfl
 have c1 : Tryz.prog.cellsOf 3 = 1 := by kernel_rfl
 have c2 : Tryz.prog.cellsOf 22 = 1 := by kernel_rfl
 obtain ⟨y0, y1, n, _, hl, h0, h1⟩ := trod_struct2 Tryz.underlying24 h;obtain ⟨z, e0, _, _⟩ := DataW.trod_int Tryz.underlying3 h0;obtain ⟨B, m, b, k, e1, s1, _⟩ := BZ TR.len Ty Tryz.underlying22 Tz (fun _ _ _ h => CK h) h1;rw [e1] at h1;have hroom := wb Tryz.underlying22 h1;rw [c0] at hl
 match cs, hl with
 | [x0, x1], _ =>
  simp only [c1, c2] at e0 e1;simp at e0 e1;subst e0 e1;exact ⟨⟨z, B, m, b, k⟩, rfl, s1, hroom⟩
set_option maxRecDepth 100000 in
theorem vO {H : Type} {enc : TypeId × Value → H} {W : World} {r : Reach} {base b0 : Nat} {sp : Nat → Bool} {held : Bool} {v : Value} {d : DataW H} {ps : List MemPlace}
  (hval : Value.okWide Tryz.prog W r b0 24 v) (hd : DataW.Trod enc Tryz.prog W base sp held 24 v d ps) : ∃ g : PX, v = .agg #[.int .i64 g.v, .slice g.A g.n g.c] ∧ g.at_ W ∧ g.n ≤ g.c := by
 obtain ⟨cs, rfl, _⟩ := okWide_struct Tryz.underlying24 hval;obtain ⟨fuel, hf⟩ := hd;obtain ⟨f, h1, h2⟩ := Cw hf;refine ⟨f, ?_, h2⟩;have h3 : cs.toList = f.cells := h1;rw [← Array.toList_inj.1 (show cs.toList = (#[.int .i64 f.v, .slice f.A f.n f.c] : Array Value).toList from h3)]
structure SR where
 lo : NR
 hi : NR
def SR.cells (s : SR) : List Value := [.bool s.lo.neg, .string s.lo.bo, .int .i64 s.lo.e, .bool s.hi.neg, .string s.hi.bo, .int .i64 s.hi.e]
theorem SR.len (s : SR) : (SR.cells s).length = 6 := rfl
def P4 (x y : Dyadic) : Dyadic := if y < x then y else x
def P5 (x y : Dyadic) : Dyadic := if x < y then y else x
theorem Hn (x y : Dyadic) : iy (fun x y => decide (x < y)) [x, y] = P4 x y := by simp [iy, P4]
theorem IM (x y : Dyadic) : iy (fun x y => decide (y < x)) [x, y] = P5 x y := by simp [iy, P5]
def SR.L (s : SR) : Dyadic := P4 s.lo.d s.hi.d
def SR.H (s : SR) : Dyadic := P5 s.lo.d s.hi.d
def SR.f (s : SR) : SR := ⟨nR s.L, nR s.H⟩
def SR.ok (s : SR) : Prop := s.lo.ok ∧ s.hi.ok
def SR.has (s : SR) (x : Dyadic) : Bool := decide (¬ x < s.L ∧ ¬ s.H < x)
def SR.wid (s : SR) : Dyadic := s.H - s.L
def SR.Tc (s : SR) : Dyadic := (s.lo.d + s.hi.d) * pU (-1)
theorem PN (x y : Dyadic) : P4 x y = x ∨ P4 x y = y := by unfold P4; split <;> simp
theorem Pp (x y : Dyadic) : P5 x y = x ∨ P5 x y = y := by unfold P5; split <;> simp
structure Ro (k : Nat) (a : NR) : Prop where
 ok : a.ok
 sz : Sz k a.d
def SR.fin (k : Nat) (s : SR) : Prop := Ro k s.lo ∧ Ro k s.hi
theorem SR.Ko {k : Nat} {s : SR} (h : s.fin k) : Sz k s.L := by
 unfold SR.L
 rcases PN s.lo.d s.hi.d with e | e <;> rw [e]
 ·exact h.1.sz
 ·exact h.2.sz
theorem SR.P1 {k : Nat} {s : SR} (h : s.fin k) : Sz k s.H := by
 unfold SR.H
 rcases Pp s.lo.d s.hi.d with e | e <;> rw [e]
 ·exact h.1.sz
 ·exact h.2.sz
theorem B0 (L : Option Addr) (n c : Nat) (l : List NR) (w : World) (hT : ee w) (hS : Sl w L n 3 (az NR.cells l)) (hl : ∀ a ∈ l, a.ok) (hn : n ≤ 1000000) :
  Calls Tryz.prog 236 #[.slice L n c] w fun r w' => r = .returned (.agg (SR.cells ⟨nR (iy (fun x y => decide (x < y)) (l.map NR.d)), nR (iy (fun x y => decide (y < x)) (l.map NR.d))⟩).toArray) ∧ Below w.heap.size w w' := by
 have hh := Hp.start w;refine aj (N := 8) (l := [.slice L n c]) Tryz.func236 rfl rfl (by simp) ?_;refine sr ?_;refine bR hh ?_;intro b2 w2 hh;refine aa (sr (mL ?_));refine bz hh (Cm L n c l _ (hT.hp hh) (hS.ext hh.below) hl hn) rfl ?_;intro w4 hh;refine mL ?_;refine bz hh (Dl L n c l _ (hT.hp hh) (hS.ext hh.below) hl hn) rfl ?_;intro w6 hh;refine gj [_,_,_,_,_,_] ?_;exact Q9
theorem Cr (s : SR) (w : World) (hT : ee w) (hs : s.ok) :
  Calls Tryz.prog 203 #[.agg s.cells.toArray] w fun r w' => r = .returned (.agg s.f.cells.toArray) ∧ Below w.heap.size w w' := by
 have hh := Hp.start w;have hc := fun L c w1 hT1 hS1 => B0 L 2 c [s.lo, s.hi] w1 hT1 hS1 (by simpa using show s.lo.ok ∧ s.hi.ok from hs) Tx;simp only [List.map_cons, List.map_nil, Hn, IM] at hc;refine aj (N := 10) (l := [.agg s.cells.toArray]) Tryz.func203 rfl rfl (by simp) ?_;refine sr ?_;refine cx hh [_,_,_,_,_,_] ?_;intro b1 w1 hh;refine bR hh ?_;intro b2 w2 hh;refine aa (sr (bD ?_));refine cD hh 1 [_,_,_] (bD ?_);refine cD hh 1 [_,_,_] ?_;refine wg ?_;intro b7 w7 hh;refine bz hh (hc _ _ _ (hT.hp hh) (hh.aC (i := 0) rfl)) rfl ?_;intro w8 hh;refine gj [_,_,_,_,_,_] ?_;refine bW hh 1 [_,_,_,_,_,_] ?_;intro ws hh;replace hh : Hp _ (_ :: .blk _ _ [_, _, _, _, _, _] _ :: _) _ := hh;refine aa (av ?_);refine KT (eI rfl (eJ (vs := [_, _, _, _, _, _]) aN.out (hh.ck (i := 1) (n := 6) rfl rfl) rfl) gg) ?_;exact ⟨rfl, hh.below⟩
theorem yq (s : SR) (w : World) (hT : ee w) (hs : s.ok) :
  Calls Tryz.prog 171 #[.agg s.cells.toArray] w fun r w' => r = .returned (.agg s.f.cells.toArray) ∧ Below w.heap.size w w' := by
 have hh := Hp.start w;refine aj (N := 6) (l := [.agg s.cells.toArray]) Tryz.func171 rfl rfl (by simp) ?_;refine sr ?_;refine cx hh [_,_,_,_,_,_] ?_;intro b1 w1 hh;refine bR hh ?_;intro b2 w2 hh;refine aa (sr ?_);refine cD hh 1 [_,_,_,_,_,_] ?_;refine bz hh (Cr s _ (hT.hp hh) hs) rfl ?_;intro w4 hh;refine Mi eL.out aN.out rfl rfl Ty ?_;exact Q9
set_option maxRecDepth 100000 in
theorem Cf {H : Type} {enc : TypeId × Value → H} {W : World} {base fuel : Nat} {sp : Nat → Bool} {held : Bool} {cs : List Value} {x : DataW H × List MemPlace} (h : DataW.trod enc Tryz.prog W base sp held fuel 81 cs = some x) :
  ∃ a : SR, cs = a.cells ∧ True := by
 have c0 : Tryz.prog.cellsOf 81 = 6 := by kernel_rfl
 have c1 : Tryz.prog.cellsOf 65 = 3 := by kernel_rfl
 obtain ⟨y0, y1, n, _, hl, h0, h1⟩ := trod_struct2 Tryz.underlying81 h;obtain ⟨a, e0, _⟩ := ng h0;obtain ⟨b, e1, _⟩ := ng h1;rw [c0] at hl
 match cs, hl with
 | [x0, x1, x2, x3, x4, x5], _ =>
  simp only [c1] at e0 e1;simp [NR.cells] at e0 e1;obtain ⟨rfl, rfl, rfl⟩ := e0;obtain ⟨rfl, rfl, rfl⟩ := e1;exact ⟨⟨a, b⟩, rfl, trivial⟩
set_option maxRecDepth 100000 in
theorem JF {H : Type} {enc : TypeId × Value → H} {W : World} {r : Reach} {base b0 : Nat} {sp : Nat → Bool} {held : Bool} {v : Value} {d : DataW H} {ps : List MemPlace}
  (hval : Value.okWide Tryz.prog W r b0 34 v) (hd : DataW.Trod enc Tryz.prog W base sp held 34 v d ps) : ∃ (A : Option Addr) (n c : Nat) (l : List SR), v = .slice A n c ∧ Sl W A n 6 (az SR.cells l) ∧ ∀ a ∈ l, True :=
 wq SR.len Ty Tryz.underlying34 Tz (fun _ _ _ h => Cf h) hval hd
end Go.Proofs.YteeckcbbnegmcaaGreatDoor
