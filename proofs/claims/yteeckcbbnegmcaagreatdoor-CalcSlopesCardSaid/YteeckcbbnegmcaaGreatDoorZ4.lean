/- Lemmas for calcSlopes, part 4. -/
import Derived.LaidMore
import Derived.Lay
import Derived.Deep.Slices
import Derived.Stop.Joined
import Derived.Deep.Strs
import Derived.Laws.OwnMore
import Derived.Lib.SliceRun
import Derived.Test.YteeckcbbnegmcaaGreatDoorZ3
/- Several texts in one: RefA, RefB, RefC, RefD. -/
namespace Go.Proofs.YteeckcbbnegmcaaGreatDoor
open Go.RowKit
theorem Sl.Cs {w : World} {A : Option Addr} {n : Nat} {xs : List Nat} (h : Sl w A n 1 (fo xs)) {k : Nat} (hk : k ≤ n) : Sl w A k 1 (fo (xs.take k)) := by
 have hl := h.1;rw [cm] at hl;refine ⟨by rw [cm, List.length_take]; omega, fun h0 => ?_⟩;obtain ⟨ad, he, hr⟩ := h.2 Dq;exact ⟨ad, he, by rw [sT]; exact hr.take k⟩
theorem Sl.Cj {w : World} {A : Option Addr} {n : Nat} {xs : List Nat} (h : Sl w A n 1 (fo xs)) : Sl w A (dz xs).length 1 (fo (dz xs)) := by
 have hl := h.1;rw [cm] at hl;have := eI xs;have h2 := h.Cs (k := (dz xs).length) Dq;rwa [← gX] at h2
theorem Hp.BO {w0 w : World} {H : List HE} {A : Option Addr} {n c : Nat} {t : TypeId} {xs : List Nat} (h : Hp w0 (.row A n c t 1 (fo xs) :: H) w) (hl : xs.length = n) : Hp w0 (.row A (dz xs).length c t 1 (fo (dz xs)) :: H) w := by
 have h1 := eI xs;have h2 := h.um (k := (dz xs).length) Dq;rw [Nat.mul_one, ← sT, ← gX] at h2;exact h2
theorem jg (A : Option Addr) (n c : Nat) (xs : List Nat) (w : World) (hx : Sl w A n 1 (fo xs)) (hc : n ≤ c) (hn : n ≤ 1000000000000) :
  Calls Tryz.prog 243 #[.slice A n c] w fun e w' => e = .returned (.slice A (dz xs).length c) ∧ Below w.heap.size w w' := by
 have hlen : xs.length = n := by have := hx.1; rw [cm] at this; omega
 have hh := Hp.start w;refine aj (N := 21) (l := [.slice A n c]) Tryz.func243 rfl rfl (by simp) ?_;refine sr (aL (aa (sr (mL (a4 (aI (aa (ah (ao ?_)))))))));refine bF [3, 6, 7, 8, 9, 10, 11, 12, 13, 14, 15, 16, 17] 3
  (fun v w' => ∃ k : Nat, k ≤ n ∧ v = .int .i64 k ∧ dz (xs.take k) = dz xs ∧ w' = w)
  (fun v _ => (intOf v).toNat) ?_ ?_
 ·exact ⟨n, Nat.le_refl _, rfl, by rw [List.take_of_length_le Dq], rfl⟩
 ·rintro ρ' v w' ⟨k, hk, rfl, hcut, rfl⟩;by_cases h0 : k = 0
  ·subst h0;refine ah (sr (mI ?_));refine ct (mB ?_);first | refine gS ?_ | (refine gT ?_; refine mL ?_) | refine gV ?_
   first | refine gS ?_ | (refine gT ?_; refine mI ?_) | refine gV ?_
   first | refine gS ?_ | (refine gT ?_; refine ek ?_) | refine gV ?_
   first | refine gS ?_ | (refine gT ?_; refine fC aF.out aC.size rfl rfl Dq Dq Dr ?_) | refine gV ?_
   first | (refine cb Dr rfl rfl Dr ?_) | (refine fR Dr rfl rfl ?_)
   first | refine gS ?_ | (refine gT ?_; refine cu ?_) | refine gV ?_
   first | refine cW ?_ | refine cX ?_
   refine aa (cF (aV (aA (aA (a8 (ai (sr (mL (mI ?_)))))))));refine lE (h := 0) aF.out aC.size rfl rfl Dq Dq Dr ?_;refine aL (aa (al ?_));refine cA ?_;rw [← hcut];exact ⟨rfl, hh.below⟩
  ·obtain ⟨j, rfl⟩ : ∃ j, k = j + 1 := ⟨k - 1, Dq⟩;obtain ⟨d, hd⟩ := aG (l := xs) (k := j) Dq;obtain ⟨ad, rfl, hr⟩ := hx.at_ Dq;have hd2 := mg hd;rw [aT hd] at hcut;by_cases hz : d = 0
   ·subst hz;rw [oE] at hcut;refine ah (sr (mI ?_));refine ct (mB ?_);first | refine gS ?_ | (refine gT ?_; refine mL ?_) | refine gV ?_
    first | refine gS ?_ | (refine gT ?_; refine mI ?_) | refine gV ?_
    first | refine gS ?_ | (refine gT ?_; refine ek ?_) | refine gV ?_
    first | refine gS ?_ | (refine gT ?_; refine aZ (k := j) aF.out aC.size rfl rfl Dq Dq Dr ?_) | refine gV ?_
    first | refine gS ?_ | (refine gT ?_; refine bp aC.out rfl ((hr.ext hh.below).nT (by assumption)) Dr ?_) | refine gV ?_
    first | refine gS ?_ | (refine gT ?_; refine cu ?_) | refine gV ?_
    first | refine cW ?_ | refine cX ?_
    refine aa (cT (ak (ai (ao (ar (mI ?_))))));refine ek (aI (aE (aX (ai ?_))));refine ⟨⟨j, Dq, by show Value.int _ _ = Value.int _ _; congr 1; omega, hcut, rfl⟩, by show (((j + 1 : Nat) : Int) - 1).toNat < (((j + 1 : Nat) : Int)).toNat; omega, ?_⟩;exact Du
   ·rw [qi hz] at hcut;refine ah (sr (mI ?_));refine ct (mB ?_);first | refine gS ?_ | (refine gT ?_; refine mL ?_) | refine gV ?_
    first | refine gS ?_ | (refine gT ?_; refine mI ?_) | refine gV ?_
    first | refine gS ?_ | (refine gT ?_; refine ek ?_) | refine gV ?_
    first | refine gS ?_ | (refine gT ?_; refine aZ (k := j) aF.out aC.size rfl rfl Dq Dq Dr ?_) | refine gV ?_
    first | refine gS ?_ | (refine gT ?_; refine bp aC.out rfl ((hr.ext hh.below).nT (by assumption)) Dr ?_) | refine gV ?_
    first | refine gS ?_ | (refine gT ?_; refine cu ?_) | refine gV ?_
    first | refine cW ?_ | refine cX ?_
    refine aa (cF (aV (aA (aA (a8 (ai (sr (mL (mI ?_)))))))));refine lE (h := j + 1) aF.out aC.size rfl rfl Dq Dq Dr ?_;refine aL (aa (al ?_));refine cA ?_;rw [← hcut, List.length_append, List.length_take, Nat.min_eq_left Dq];exact ⟨rfl, hh.below⟩
theorem wb {s : List UInt8} {j k : Nat} {c : UInt8} (hc : (sl s)[j]? = some c.toNat) (hk : k < 8) : c.toNat / 2 ^ k % 2 = bn s / 2 ^ (8 * j + k) % 2 := by
 have h1 := nK (rf s) hc;rw [← h1, ← bn, Nat.pow_add, Nat.pow_mul, show (2 ^ 8 : Nat) = 256 from rfl, ← Nat.div_div_eq_div_mul];generalize bn s / 256 ^ j = m;have e : (256 : Nat) = 2 ^ k * 2 ^ (8 - k) := by rw [← Nat.pow_add, show k + (8 - k) = 8 by omega]
 have e2 : 2 ^ (8 - k) = 2 * 2 ^ (7 - k) := by rw [← Nat.pow_succ']; congr 1; omega
 rw [e, Nat.mod_mul_right_div_self, e2, Nat.mod_mul_right_mod]
theorem dv (a : ByteArray) (w : World) (ha : a.size ≤ 1000000000) :
  Calls Tryz.prog 218 #[.string a] w fun e w' => ∃ A c, e = .returned (.slice A (aR 2 (bN a)).length c) ∧ w'.ownsRow w.heap.size 5 1 (.slice A (aR 2 (bN a)).length c) (aR 2 (bN a)).length (fo (aR 2 (bN a))) ∧ Below w.heap.size w w' := by
 have hsz := ca a;have hh := Hp.start w;refine aj (N := 28) (l := [.string a]) Tryz.func218 rfl rfl (by simp) ?_;refine sr (aL (aa (sr (aL (aa (ah (sr (mS ?_))))))));refine bs aF.out rfl Dr ?_;refine ek (aI (aa (ao ?_)));replace hh := hh.eN 5 1;refine de [3, 4, 5, 9, 10, 11, 12, 13, 14, 15, 16, 17, 18, 19, 20, 21, 22, 23, 24, 25] 3 4
  (fun o v w' => ∃ (j : Nat) (A : Option Addr) (c : Nat), j ≤ a.size ∧ v = .int .i64 ((a.size : Int) - 1 - j) ∧ o = .slice A (8 * j) c ∧ Hp w [.row A (8 * j) c 5 1 (fo (bH 2 (8 * j) (bN a)))] w')
  (fun _ v _ => (intOf v + 1).toNat) ?_ ?_
 ·exact ⟨0, none, 0, Nat.zero_le _, by show Value.int _ _ = Value.int _ _; congr 1; omega, rfl, hh⟩
 ·clear hh;rintro ρ' o v w' ⟨j, A, c, hj, rfl, rfl, hh⟩;by_cases hlt : j < a.size
  ·obtain ⟨ch, hc⟩ := aG (l := a.data.toList) (k := ((a.size : Int) - 1 - j).toNat) Dq;have hlo := xB (s := a.data.toList) (i := j) (c := ch) Dq (by rw [← hc]; congr 1; omega);have hc8 := ch.toNat_lt;refine ah (sr (mI ?_));refine dE (aa (cT (ak (ai (ah (ao (sr (aI (aa (ao ?_))))))))));refine de [3, 5, 13, 14, 15, 16, 17, 18, 19, 20, 21, 22, 23, 24, 25] 3 5
    (fun o v w' => ∃ (k : Nat) (A : Option Addr) (c : Nat), k ≤ 8 ∧ v = .int .i64 (k : Int) ∧ o = .slice A (8 * j + k) c ∧ Hp w [.row A (8 * j + k) c 5 1 (fo (bH 2 (8 * j + k) (bN a)))] w')
    (fun _ v _ => 8 - (intOf v).toNat) ?_ ?_
   ·exact ⟨0, A, c, Nat.zero_le _, rfl, rfl, hh⟩
   ·clear hh;rintro ρ2 o v w2 ⟨k, A2, c2, hk, rfl, rfl, hh⟩;by_cases hk8 : k < 8
    ·have hst := wb hlo hk8;have hand : ∀ z : Nat, z &&& 1 = z % 2 := fun z => Nat.and_one_is_mod z;have hcl : ch.toNat / 2 ^ (k : Int).toNat < 256 := Nat.lt_of_le_of_lt (Nat.div_le_self _ _) hc8;refine ah (sr (mI ?_));refine a3 (aa (cT (ak (ai (ah (ao (ar (mL (mS (mI ?_))))))))));refine bu aF.out rfl rfl Dq (by assumption) Dr ?_;refine mI ?_;refine uD rfl rfl Dq Dr ?_;refine jJ (b := 1) rfl rfl (by first | assumption | omega) (by first | assumption | omega) Dr ?_;refine bf hh (cs := [_]) aF.out aC.out (aY (bK rfl) bQ) rfl rfl Dr Dr Dr rfl Dr ?_;intro b24 w24 hh;refine ck hh (i := 1) rfl rfl rfl (hh.aD (i := 0) rfl) aF.out aC.out rfl Dr (by first | rfl | exact cw _ | exact bU _ | exact oneCells_i64s _ | exact bL NR.one _) Dq Dq Dr ?_;intro A25 c25 w25 hh;simp only [List.set_cons_zero, List.set_cons_succ] at hh;replace hh := hh.sub (List.sublist_cons_self _ _);refine aL (aE (aX (ai (ar (mI ?_)))));refine bO (aI (aE (ai ?_)));have e1 : fo (bH 2 (8 * j + k) (bN a)) ++ [Value.int .u8 ((ch.toNat / 2 ^ (k : Int).toNat &&& 1 : Nat) : Int)] = fo (bH 2 (8 * j + (k + 1)) (bN a)) := by
      rw [hand, Int.toNat_natCast, hst, ← Nat.add_assoc, iT, n4]; rfl
     rw [e1] at hh;refine ⟨⟨k + 1, A25, c25, Dq, rfl, rfl, hh⟩, by show 8 - (k + 1) < 8 - k; omega, ?_⟩;exact Du
    ·obtain rfl : k = 8 := Dq;refine ah (sr (mI ?_));refine a3 (aa (cF (aV (aA (aA (a8 (aX (ai (ar (mI ?_))))))))));refine ek (aI (aE (ai ?_)));refine ⟨⟨j + 1, A2, c2, Dq, by show Value.int _ _ = Value.int _ _; congr 1; omega, rfl, hh⟩, by show ((a.size : Int) - 1 - j - 1 + 1).toNat < ((a.size : Int) - 1 - j + 1).toNat; omega, ?_⟩;exact Du
  ·obtain rfl : j = a.size := Dq;refine ah (sr (mI ?_));refine dE (aa (cF (aV (aA (aA (a8 (ai (sr (mL ?_)))))))));refine bB hh (jg _ _ _ (bH 2 (8 * a.size) (bN a)) _ (hh.aD (i := 0) rfl) (hh.dy (i := 0) rfl) Dq) rfl ?_;intro w27 hh;refine aL (aa (al ?_));refine cA ?_;have hb := ql a;rw [show (256 : Nat) = 2 ^ 8 from rfl, ← Nat.pow_mul] at hb;have hd : dz (bH 2 (8 * a.size) (bN a)) = aR 2 (bN a) := by
    rw [eL Dq (eB Dq _ _), cq hb]
   have h1 := (Hp.BO (xs := bH 2 (8 * a.size) (bN a)) hh (aM _ _)).at_ (i := 0) rfl;rw [hd] at h1;rw [hd];exact ⟨_, _, rfl, h1, hh.below⟩
theorem Ab {l : List Nat} {j v : Nat} (h : j < l.length) : l.reverse.set (l.length - 1 - j) v = (l.set j v).reverse := by
 apply List.ext_getElem?;intro i
 rcases Nat.lt_or_ge i l.length with hi | hi
 ·rw [List.getElem?_reverse (by rw [List.length_set]; exact hi), List.length_set, List.getElem?_set, List.getElem?_set, List.getElem?_reverse hi, List.length_reverse];by_cases he : l.length - 1 - j = i
  ·rw [if_pos he, if_pos Dq, if_pos Dq, if_pos h]
  ·rw [if_neg he, if_neg Dq]
 ·rw [List.getElem?_eq_none (by simp; omega), List.getElem?_eq_none (by simp; omega)]
theorem ug {i b k : Nat} (P : Nat) (hP : P < 2 ^ i) (hb : b < 2) (hk : i / 8 < k) : P / 256 ^ (i / 8) % 256 + b * 2 ^ (i % 8) < 256 ∧ (bH 256 k P).set (i / 8) (P / 256 ^ (i / 8) % 256 + b * 2 ^ (i % 8)) = bH 256 k (P + 2 ^ i * b) := by
 have hp : 2 ^ i = 256 ^ (i / 8) * 2 ^ (i % 8) := by
  rw [show (256 : Nat) = 2 ^ 8 from rfl, ← Nat.pow_mul, ← Nat.pow_add]; congr 1; omega
 have h1 : P / 256 ^ (i / 8) < 2 ^ (i % 8) := by
  rw [Nat.div_lt_iff_lt_mul (Nat.pow_pos Dq), Nat.mul_comm, ← hp]; exact hP
 have h2 : 2 ^ (i % 8) ≤ 128 := by
  have := Nat.pow_le_pow_right (show 0 < 2 by omega) (show i % 8 ≤ 7 by omega);omega
 have h3 : P / 256 ^ (i / 8) % 256 < 2 ^ (i % 8) := Nat.lt_of_le_of_lt (Nat.mod_le _ _) h1;have h4 : b * 2 ^ (i % 8) ≤ 1 * 2 ^ (i % 8) := Nat.mul_le_mul_right _ Dq;have h5 : 2 ^ i * b = 256 ^ (i / 8) * (b * 2 ^ (i % 8)) := by rw [hp, Nat.mul_assoc, Nat.mul_comm b]
 refine ⟨Dq, ?_⟩;rw [h5];refine k7 Dq hk ?_ Dq;rw [← h5];have h6 : 2 ^ i * b ≤ 2 ^ i * 1 := Nat.mul_le_mul_left _ Dq;have h7 : 2 ^ (i + 1) ≤ 256 ^ k := by
  rw [show (256 : Nat) = 2 ^ 8 from rfl, ← Nat.pow_mul];exact Nat.pow_le_pow_right Dq Dq
 rw [Nat.pow_succ] at h7;omega
theorem er (A : Option Addr) (n c : Nat) (xs : List Nat) (w : World) (hx : Sl w A n 1 (fo xs)) (hd : Dg 2 xs) (hc : n ≤ c) (hn : n ≤ 100000000000) :
  Calls Tryz.prog 237 #[.slice A n c] w fun e w' => e = .returned (.string (sN (bh 2 xs))) ∧ Below w.heap.size w w' := by
 have hl := hx.1;rw [cm] at hl;have hcl := eI xs;have hcx := hx.Cj;have hcan := eL Dq hd;have hlen := tR (bh 2 xs);rw [hcan] at hcl hcx;have hcd := (dw (B := 2) Dq (bh 2 xs)).1;have hcv := dF (B := 2) Dq (bh 2 xs);have hbl : (aR 2 (bh 2 xs)).length = bz (bh 2 xs) := rfl;have hh := Hp.start w;refine aj (N := 38) (l := [.slice A n c]) Tryz.func237 rfl rfl (by simp) ?_;refine sr (aS (aa (sr (mL ?_))));refine bB hh (jg _ _ _ xs _ hx hc Dq) rfl ?_;intro w6 hh;rw [hcan];generalize bh 2 xs = M at *;generalize aR 2 M = xs' at *;refine aL (aa (sr (mL (a4 ?_))));refine bO ?_;refine iF rfl rfl Dq Dq Dq Dr ?_;refine gw (n := (xs'.length + 7) / 8) hh rfl rfl Dq Dq aF.out aC.out rfl Dq Dq Dr ?_;intro b11 w11 hh;refine aL (aa (ah (sr (aI (aa (ao ?_))))));rw [lQ] at hh;refine bF [4, 12, 13, 14, 15, 16, 17, 18, 19, 20, 21, 22, 23, 24, 25, 26, 27, 28, 29, 30, 31, 32, 33, 34, 35] 4
  (fun v w' => ∃ i : Nat, i ≤ xs'.length ∧ v = .int .i64 i ∧ Hp w [.row (some ⟨b11, 0, none⟩) ((xs'.length + 7) / 8) ((xs'.length + 7) / 8) 5 1 (fo (bH 256 ((xs'.length + 7) / 8) (bh 2 (xs'.take i))).reverse)] w')
  (fun v _ => xs'.length - (intOf v).toNat) ?_ ?_
 ·exact ⟨0, Nat.zero_le _, rfl, by rw [List.take_zero, bh, mH, List.reverse_replicate]; exact hh⟩
 ·clear hh;rintro ρ' v w' ⟨i, hi, rfl, hh⟩;by_cases hlt : i < xs'.length
  ·obtain ⟨d, hdi⟩ := aG (l := xs') (k := i) Dq;obtain ⟨ad, rfl, hr⟩ := hcx.at_ Dq;have hd2 := mg hdi;have hdw := hcd.at_ hdi;have hP := fY (hcd.take i);rw [List.length_take, Nat.min_eq_left Dq] at hP;obtain ⟨s1, s2⟩ := ug (k := (xs'.length + 7) / 8) (bh 2 (xs'.take i)) hP hdw Dq;have hg : (bH 256 ((xs'.length + 7) / 8) (bh 2 (xs'.take i))).reverse[(xs'.length + 7) / 8 - 1 - i / 8]? = some (bh 2 (xs'.take i) / 256 ^ (i / 8) % 256) := by
    rw [List.getElem?_reverse (by rw [aM]; omega), aM, show (xs'.length + 7) / 8 - 1 - ((xs'.length + 7) / 8 - 1 - i / 8) = i / 8 by omega];exact fP _ _ _ Dq
   have hg2 := mg hg;have e1 : ((i : Int) % 8).toNat = i % 8 := Dq;have hset := Ab (l := bH 256 ((xs'.length + 7) / 8) (bh 2 (xs'.take i))) (j := i / 8) (v := bh 2 (xs'.take i) / 256 ^ (i / 8) % 256 + d * 2 ^ (i % 8)) (by rw [aM]; omega);rw [aM, s2] at hset;refine ah (sr (mI (mL (a4 ?_))));refine a3 (aa (cT (ak (ai (ah (ao ?_))))));refine bg 16 [[(3, none)], [(3, none)], [(19, some 1)], [(20, some 2)], [(4, none)], [(22, some 4)], [(21, some 3), (23, some 5)], [(18, some 0), (24, some 6)], [(25, some 7)], [(0, none)], [(4, none)], [(27, some 9), (28, some 10)], [(29, some 11)], [(4, none)], [(31, some 13)], [(30, some 12), (32, some 14)]] [(15, 33), (14, 32), (13, 31), (12, 30), (11, 29), (10, 28), (9, 27), (8, 26), (7, 25), (6, 24), (5, 23), (4, 22), (3, 21), (2, 20), (1, 19), (0, 18)] hh mixed Dt ?_;refine jv ?_;refine jv ?_;refine BR ?_;refine nD ?_;refine fW ?_;refine bo (i := 5) (fun ρ1 w1 hj hR => rR (show ρ1 22 = Value.int _ _ from hR.1) rfl Dq Dq Dq) ?_;refine nD ?_;refine BQ ((xs'.length + 7) / 8 - 1 - i / 8) ?_;refine bo (i := 8) (fun ρ1 w1 hj hR => gP aC.out (show ρ1 25 = Value.pointer _ from hR.1) (hj.hp.cE (i := 0) rfl (by rw [Nat.mul_one]; exact hg2))) ?_;refine jv ?_
   refine fW ?_;refine mf (i) ?_;refine kP (fun _ hj => (hr.ext hj.hp.below).nT hd2) ?_;refine fW ?_;refine bo (i := 14) (fun ρ1 w1 hj hR => mv (show ρ1 31 = Value.int _ _ from hR.1) rfl Dq Dq) ?_;refine bo (i := 15) (fun ρ1 w1 hj hR => qX (show ρ1 30 = Value.int _ _ from hR.1) (show ρ1 32 = Value.int _ _ from hR.2.1) Dq) ?_;refine bq ?_;intro f W hJ hV;have hb_6 := hJ.bl;obtain ⟨v33, v32, v31, v30, v29, v28, v27, v26, v25, v24, v23, v22, v21, v20, v19, v18, _⟩ := hV;replace hh := hJ.hp;refine a6 (bk (ae v33 (ae v32 (ae v31 (ae v30 (ae v29 (ae v28 (ae v27 (ae v26 (ae v25 (ae v24 (ae v23 (ae v22 (ae v21 (ae v20 (ae v19 (ae v18 a5))))))))))))))))) ?_;dsimp only [cJ];clear hJ;refine fM rfl rfl Dr ?_;refine bm (k := (xs'.length + 7) / 8 - 1 - i / 8) aF.out aC.size rfl rfl Dq Dq Dr ?_;refine bA hh (i := 0) (vs := [_]) rfl rfl (bK rfl) rfl aC.out rfl (by rw [cm, List.length_reverse, aM]; omega) rfl ?_;intro ws hh;simp only [List.set_cons_zero] at hh;rw [e1, Nat.mod_eq_of_lt (show d * 2 ^ (i % 8) < 256 by omega), Nat.mod_eq_of_lt s1, Nat.mul_one, bY (by rw [cm, List.length_reverse, aM]; omega), j6, hset, ← eM hdi] at hh;refine aE (aX (ai (ar (mI ?_))));refine bO (aI (aE (ai ?_)))
   refine ⟨⟨i + 1, Dq, rfl, hh⟩, by show xs'.length - (i + 1) < xs'.length - i; omega, ?_⟩;exact Du
  ·obtain rfl : i = xs'.length := Dq;rw [List.take_length, hcv, hbl] at hh;have hfin : fo (bH 256 ((bz M + 7) / 8) M).reverse = jj (sb M) := by
    rw [← hlen];have h1 : M < 256 ^ (aR 256 M).length := j9 Dq M;rw [rX Dq h1, Nat.sub_self, List.replicate_zero, List.append_nil, qk (fun d hd => (dw (B := 256) Dq M).1 d (List.mem_reverse.1 hd)), sb, List.map_reverse]
   rw [hfin, ← hbl] at hh;refine ah (sr (mI (mL (a4 ?_))));refine a3 (aa (cF (aV (aA (aA (a8 (ai (sr (mL ?_)))))))));refine jL aF.out aF.out aF.out rfl (hh.aD (i := 0) rfl) Dr ?_;refine aS (aa (al ?_));refine cA ?_;exact ⟨rfl, hh.below⟩
end Go.Proofs.YteeckcbbnegmcaaGreatDoor
namespace Go.Proofs.YteeckcbbnegmcaaGreatDoor
open Go.RowKit
theorem zj {xs : List Nat} (h : Dg 2 xs) (i : Nat) : bh 2 xs / 2 ^ i % 2 = (xs[i]?).getD 0 := by
 cases hi : xs[i]? with
 | some d => exact nK h hi
 | none =>
  rw [oU h (List.getElem?_eq_none_iff.1 hi) Dq]; rfl
theorem cR (A : Option Addr) (n c i : Nat) (xs : List Nat) (w : World) (hx : Sl w A n 1 (fo xs)) (hd : Dg 2 xs) (hn : n ≤ 1000000000000) (hi : i ≤ 1000000000000) :
  Calls Tryz.prog 259 #[.slice A n c, .int .i64 (i : Int)] w fun e w' => e = .returned (.int .u8 ((bh 2 xs / 2 ^ i % 2 : Nat) : Int)) ∧ Below w.heap.size w w' := by
 have hl := hx.1;rw [cm] at hl;have hh := Hp.start w;rw [zj hd];by_cases hlt : i < n
 ·obtain ⟨d, hdi⟩ := aG (l := xs) (k := i) Dq;obtain ⟨ad, rfl, hr⟩ := hx.at_ Dq;have hd2 := mg hdi;rw [hdi];refine aj (N := 13) (l := [.slice (some ad) n c, .int .i64 (i : Int)]) Tryz.func259 rfl rfl (by simp) ?_;refine sr (aI (aa (ah (sr (mI (mL (a4 ?_)))))));refine a3 (aa (cT (sr (mL (mI ?_)))));refine aZ (k := i) aF.out aC.size rfl rfl Dq Dq Dr ?_;refine bp aC.out rfl ((hr.ext hh.below).nT (by assumption)) Dr ?_;refine aI (aa (al (aH ?_)));refine cA ?_;exact ⟨rfl, hh.below⟩
 ·rw [List.getElem?_eq_none Dq];refine aj (N := 13) (l := [.slice A n c, .int .i64 (i : Int)]) Tryz.func259 rfl rfl (by simp) ?_;refine sr (aI (aa (ah (sr (mI (mL (a4 ?_)))))));refine a3 (aa (cF (ak (ai (sr (aI (aa (al ?_))))))));refine cA ?_;exact ⟨rfl, hh.below⟩
theorem je (X i : Nat) : X / 2 ^ i = 2 * (X / 2 ^ (i + 1)) + X / 2 ^ i % 2 := by
 rw [Nat.pow_succ, ← Nat.div_div_eq_div_mul]; omega
theorem pZ {X Y k : Nat} (h : X / 2 ^ k < Y / 2 ^ k) : X < Y := by
 refine Nat.lt_of_not_le fun h2 => ?_;have := Nat.div_le_div_right (c := 2 ^ k) h2;omega
theorem jz (A B : Option Addr) (n c m c' : Nat) (xs ys : List Nat) (w : World) (hx : Sl w A n 1 (fo xs)) (hy : Sl w B m 1 (fo ys)) (hdx : Dg 2 xs) (hdy : Dg 2 ys) (hn : n ≤ 100000000000) (hm : m ≤ 100000000000) :
  Calls Tryz.prog 258 #[.slice A n c, .slice B m c'] w fun e w' => e = .returned (.int .i64 (iK (bh 2 xs) (bh 2 ys))) ∧ Below w.heap.size w w' := by
 have hlx := hx.1;have hly := hy.1;rw [cm] at hlx hly;have hh := Hp.start w;have e1 : (if (m : Int) > (n : Int) then (m : Int) else (n : Int)) - 1 = ((max n m : Nat) : Int) - 1 := by split <;> omega
 refine aj (N := 30) (l := [.slice A n c, .slice B m c']) Tryz.func258 rfl rfl (by simp) ?_;refine sr (aI (aa (ah (sr (mL (a4 (mL (a4 ?_))))))));refine ku rfl rfl Dr ?_;refine ek (aI (aa (ao ?_)));rw [e1];refine bF [4, 5, 12, 13, 14, 15, 16, 17, 18, 19, 20, 21, 22, 23, 24, 25, 26, 27, 28, 29] 5
  (fun v w' => ∃ k : Nat, k ≤ max n m ∧ v = .int .i64 ((k : Int) - 1) ∧ bh 2 xs / 2 ^ k = bh 2 ys / 2 ^ k ∧ Hp w [] w')
  (fun v _ => (intOf v + 1).toNat) ?_ ?_
 ·exact ⟨max n m, Nat.le_refl _, rfl, by rw [oU hdx Dq Dq, oU hdy Dq Dq], hh⟩
 ·clear hh;rintro ρ' v w' ⟨k, hk, rfl, heq, hh⟩;by_cases h0 : k = 0
  ·subst h0;refine ah (sr (mI ?_));refine dE (aa (cF (aV (aA (aA (a8 (ai (sr (aI (aa (al ?_)))))))))));refine cA ?_;rw [Nat.pow_zero, Nat.div_one, Nat.div_one] at heq;exact ⟨by rw [vi heq], hh.below⟩
  ·obtain ⟨j, rfl⟩ : ∃ j, k = j + 1 := ⟨k - 1, Dq⟩;have hj : ((j + 1 : Nat) : Int) - 1 = (j : Int) := Dq;have hXb := je (bh 2 xs) j;have hYb := je (bh 2 ys) j;by_cases hlt : bh 2 xs / 2 ^ j % 2 < bh 2 ys / 2 ^ j % 2
   ·have hf : bh 2 xs < bh 2 ys := pZ (k := j) Dq;rw [hj];refine ah (sr (mI ?_));refine dE (aa (cT (ak (ai (ah (ao (ah (sr (mL (mI ?_))))))))));refine bB hh (cR A n c j xs _ (hx.ext hh.below) hdx Dq Dq) rfl ?_;intro w18 hh;refine mL (mI ?_);refine bB hh (cR B m c' j ys _ (hy.ext hh.below) hdy Dq Dq) rfl ?_;intro w21 hh;refine a3 (aa (cT (sr (aI (aa (al (aH (bT (aH (aH (bT (aH ?_))))))))))));refine cA ?_;exact ⟨by rw [jk hf], hh.below⟩
   ·by_cases hgt : bh 2 ys / 2 ^ j % 2 < bh 2 xs / 2 ^ j % 2
    ·have hf : bh 2 ys < bh 2 xs := pZ (k := j) Dq;rw [hj];refine ah (sr (mI ?_));refine dE (aa (cT (ak (ai (ah (ao (ah (sr (mL (mI ?_))))))))));refine bB hh (cR A n c j xs _ (hx.ext hh.below) hdx Dq Dq) rfl ?_;intro w18 hh;refine mL (mI ?_);refine bB hh (cR B m c' j ys _ (hy.ext hh.below) hdy Dq Dq) rfl ?_;intro w21 hh;refine a3 (aa (cF (ak (ai (sr (mL (mI ?_)))))));refine bB hh (cR A n c j xs _ (hx.ext hh.below) hdx Dq Dq) rfl ?_;intro w25 hh;refine mL (mI ?_);refine bB hh (cR B m c' j ys _ (hy.ext hh.below) hdy Dq Dq) rfl ?_;intro w28 hh;refine ct (aa (cT (sr (aI (aa (al (bT (aH (aH (bT (aH ?_)))))))))));refine cA ?_;exact ⟨by rw [rI hf], hh.below⟩
    ·rw [hj];refine ah (sr (mI ?_));refine dE (aa (cT (ak (ai (ah (ao (ah (sr (mL (mI ?_))))))))));refine bB hh (cR A n c j xs _ (hx.ext hh.below) hdx Dq Dq) rfl ?_;intro w18 hh;refine mL (mI ?_);refine bB hh (cR B m c' j ys _ (hy.ext hh.below) hdy Dq Dq) rfl ?_;intro w21 hh;refine a3 (aa (cF (ak (ai (sr (mL (mI ?_)))))));refine bB hh (cR A n c j xs _ (hx.ext hh.below) hdx Dq Dq) rfl ?_;intro w25 hh;refine mL (mI ?_);refine bB hh (cR B m c' j ys _ (hy.ext hh.below) hdy Dq Dq) rfl ?_;intro w28 hh;refine ct (aa (cF (ak (aX (ai (ar (mI ?_)))))));refine ek (aI (aE (ai ?_)));refine ⟨⟨j, Dq, rfl, Dq, hh⟩, by show ((j : Int) - 1 + 1).toNat < ((j : Int) + 1).toNat; omega, ?_⟩;exact Du
theorem zh (S T i : Nat) : (S + T) / 2 ^ i % 2 = (S / 2 ^ i % 2 + (S % 2 ^ i + T % 2 ^ i) / 2 ^ i + T / 2 ^ i % 2) % 2 ∧ (S % 2 ^ (i + 1) + T % 2 ^ (i + 1)) / 2 ^ (i + 1) = (S / 2 ^ i % 2 + (S % 2 ^ i + T % 2 ^ i) / 2 ^ i + T / 2 ^ i % 2) / 2 ∧ (S % 2 ^ i + T % 2 ^ i) / 2 ^ i ≤ 1 := by
 have hS := Nat.div_add_mod S (2 ^ i);have hT := Nat.div_add_mod T (2 ^ i);have hp : 0 < 2 ^ i := Nat.pow_pos Dq;have hS2 : S % 2 ^ (i + 1) = S % 2 ^ i + 2 ^ i * (S / 2 ^ i % 2) := by rw [Nat.pow_succ, Nat.mod_mul]
 have hT2 : T % 2 ^ (i + 1) = T % 2 ^ i + 2 ^ i * (T / 2 ^ i % 2) := by rw [Nat.pow_succ, Nat.mod_mul]
 have hSl := Nat.mod_lt S hp;have hTl := Nat.mod_lt T hp;have hc := Nat.div_add_mod (S % 2 ^ i + T % 2 ^ i) (2 ^ i);have hcl := Nat.mod_lt (S % 2 ^ i + T % 2 ^ i) hp;have hc1 : (S % 2 ^ i + T % 2 ^ i) / 2 ^ i ≤ 1 := by
  have : (S % 2 ^ i + T % 2 ^ i) / 2 ^ i < 2 := by rw [Nat.div_lt_iff_lt_mul hp]; omega
  omega
 have e1 : (S + T) / 2 ^ i = S / 2 ^ i + T / 2 ^ i + (S % 2 ^ i + T % 2 ^ i) / 2 ^ i := by
  have : S + T = (S % 2 ^ i + T % 2 ^ i) % 2 ^ i + 2 ^ i * (S / 2 ^ i + T / 2 ^ i + (S % 2 ^ i + T % 2 ^ i) / 2 ^ i) := by
   rw [Nat.mul_add, Nat.mul_add]; omega
  conv => lhs; rw [this]
  rw [Nat.add_mul_div_left _ _ hp, Nat.div_eq_of_lt hcl, Nat.zero_add]
 refine ⟨by rw [e1]; omega, ?_, hc1⟩;rw [hS2, hT2];have e2 : S % 2 ^ i + 2 ^ i * (S / 2 ^ i % 2) + (T % 2 ^ i + 2 ^ i * (T / 2 ^ i % 2)) = (S % 2 ^ i + T % 2 ^ i) % 2 ^ i + 2 ^ i * (S / 2 ^ i % 2 + (S % 2 ^ i + T % 2 ^ i) / 2 ^ i + T / 2 ^ i % 2) := by
  rw [Nat.mul_add, Nat.mul_add]; omega
 rw [e2, Nat.pow_succ, ← Nat.div_div_eq_div_mul, Nat.add_mul_div_left _ _ hp, Nat.div_eq_of_lt hcl, Nat.zero_add]
theorem BA (Y up i : Nat) : Y * 2 ^ up / 2 ^ i % 2 = if up ≤ i then Y / 2 ^ (i - up) % 2 else 0 := by
 split
 ·rename_i h;have e : 2 ^ i = 2 ^ up * 2 ^ (i - up) := by rw [← Nat.pow_add]; congr 1; omega
  rw [e, ← Nat.div_div_eq_div_mul, Nat.mul_div_cancel _ (Nat.pow_pos Dq)]
 ·rename_i h;have e : 2 ^ up = 2 ^ i * 2 * 2 ^ (up - i - 1) := by rw [← Nat.pow_succ, ← Nat.pow_add]; congr 1; omega
  have e2 : Y * 2 ^ up = 2 ^ i * (2 * (Y * 2 ^ (up - i - 1))) := by rw [e]; simp only [Nat.mul_assoc, Nat.mul_left_comm]
  rw [e2, Nat.mul_div_cancel_left _ (Nat.pow_pos Dq)];omega
theorem AQ {K i N : Nat} (h : i < K) : (bH 2 i N ++ List.replicate (K - i) 0).set i (N / 2 ^ i % 2) = bH 2 (i + 1) N ++ List.replicate (K - (i + 1)) 0 := by
 rw [show K - i = (K - (i + 1)) + 1 by omega, List.replicate_succ, List.set_append_right _ _ (by rw [aM]; omega), aM, Nat.sub_self, List.set_cons_zero, iT];simp
theorem tg (A B : Option Addr) (n c m c' up : Nat) (xs ys : List Nat) (w : World) (hx : Sl w A n 1 (fo xs)) (hy : Sl w B m 1 (fo ys)) (hdx : Dg 2 xs) (hdy : Dg 2 ys) (hn : n ≤ 100000000000) (hm : m ≤ 100000000000) (hup : up ≤ 100000000000) :
  Calls Tryz.prog 240 #[.slice A n c, .slice B m c', .int .i64 (up : Int)] w fun e w' => ∃ b, e = .returned (.slice (some ⟨b, 0, none⟩) (max n (m + up) + 1) (max n (m + up) + 1)) ∧ w'.ownsRow w.heap.size 5 1 (.slice (some ⟨b, 0, none⟩) (max n (m + up) + 1) (max n (m + up) + 1)) (max n (m + up) + 1) (fo (bH 2 (max n (m + up) + 1) (bh 2 xs + bh 2 ys * 2 ^ up))) ∧ Below w.heap.size w w' := by
 have hlx := hx.1;have hly := hy.1;rw [cm] at hlx hly;have hh := Hp.start w;have e1 : (if ((m : Int) + (up : Int)) > (n : Int) then ((m : Int) + (up : Int)) else (n : Int)) + 1 = ((max n (m + up) + 1 : Nat) : Int) := by split <;> omega
 have hand : ∀ z : Nat, z &&& 1 = z % 2 := fun z => Nat.and_one_is_mod z;refine aj (N := 49) (l := [.slice A n c, .slice B m c', .int .i64 (up : Int)]) Tryz.func240 rfl rfl (by simp) ?_;refine sr (aL (aa (sr (mL (a4 (mL (a4 (mI ?_))))))));refine bO ?_;refine ku rfl rfl Dr ?_;refine bO ?_;rw [e1];generalize hK : max n (m + up) + 1 = K at *;refine gw (n := K) hh rfl rfl Dq Dq aF.out aC.out rfl Dq Dq Dr ?_;intro b19 w19 hh;refine aL (aa (sr (aI (aa (ah (sr (aI (aa (ao ?_)))))))));rw [lQ] at hh;refine de [8, 9, 10, 20, 21, 22, 23, 24, 25, 26, 27, 28, 29, 30, 31, 32, 33, 34, 35, 36, 37, 38, 39, 40, 41, 42, 43, 44, 45, 46, 47] 8 9
  (fun cr v w' => ∃ i : Nat, i ≤ K ∧ v = .int .i64 (i : Int) ∧ cr = .int .u8 (((bh 2 xs % 2 ^ i + bh 2 ys * 2 ^ up % 2 ^ i) / 2 ^ i : Nat) : Int) ∧ Hp w [.row (some ⟨b19, 0, none⟩) K K 5 1 (fo (bH 2 i (bh 2 xs + bh 2 ys * 2 ^ up) ++ List.replicate (K - i) 0))] w')
  (fun _ v _ => K - (intOf v).toNat) ?_ ?_
 ·exact ⟨0, Nat.zero_le _, rfl, by simp [Nat.mod_one]; rfl, hh⟩
 ·clear hh;rintro ρ' cr v w' ⟨i, hi, rfl, rfl, hh⟩;by_cases hlt : i < K
  ·obtain ⟨b1, b2, b3⟩ := zh (bh 2 xs) (bh 2 ys * 2 ^ up) i;have hbu := BA (bh 2 ys) up i;have hxb : bh 2 xs / 2 ^ i % 2 < 2 := Nat.mod_lt _ Dq;have hyb : bh 2 ys / 2 ^ (i - up) % 2 < 2 := Nat.mod_lt _ Dq;have hll : (fo (bH 2 i (bh 2 xs + bh 2 ys * 2 ^ up) ++ List.replicate (K - i) 0)).length = K := by rw [cm, List.length_append, aM, List.length_replicate]; omega
   have hfk := AQ (N := bh 2 xs + bh 2 ys * 2 ^ up) hlt;generalize hC : (bh 2 xs % 2 ^ i + bh 2 ys * 2 ^ up % 2 ^ i) / 2 ^ i = C at *;generalize hX : bh 2 xs / 2 ^ i % 2 = X at *;refine ah (sr (mI (mL (a4 ?_))));refine a3 (aa (cT (ak (ai (ah (ao (sr (mL (mI ?_)))))))));refine bB hh (cR A n c i xs _ (hx.ext hh.below) hdx Dq Dq) rfl ?_;intro w28 hh;rw [hX];by_cases hiu : up ≤ i
   ·rw [if_pos hiu] at hbu;rw [hbu] at b1 b2;generalize hY : bh 2 ys / 2 ^ (i - up) % 2 = Y at *;have es : ((X + C) % 256 + Y) % 256 = X + C + Y := Dq;have ei : (i : Int) - (up : Int) = ((i - up : Nat) : Int) := Dq;refine mI ?_;refine fM rfl rfl Dr ?_;refine aI (aa (ah (sr (mI (mI ?_)))));refine dE (aa (cT (ar (mI (mL (mI (mI ?_)))))));refine ek ?_;rw [ei];refine bB hh (cR B m c' (i - up) ys _ (hy.ext hh.below) hdy Dq Dq) rfl ?_;intro w39 hh;rw [hY];refine fM rfl rfl Dr ?_;refine aI (aa (sr (mL (mI (mI ?_)))));refine jJ (b := 1) rfl rfl (by first | assumption | omega) (by first | assumption | omega) Dr ?_;refine bm (k := i) aF.out aC.size rfl rfl Dq Dq Dr ?_;refine bA hh (i := 0) (vs := [_]) rfl rfl (bK rfl) rfl aC.out rfl (by rw [hll]; omega) rfl ?_;intro ws hh;simp only [List.set_cons_zero] at hh;rw [hand, es, Nat.mul_one, bY (by rw [hll]; omega), j6, ← b1, hfk] at hh;refine aa (ar (mI ?_));refine dZ (s := 1) (m := 2) rfl rfl Dr Dr Dr ?_;refine aI (aE (aX (ai (ar (mI ?_)))));refine bO (aI (aE (ai ?_)));rw [es];refine ⟨⟨i + 1, Dq, rfl, by rw [b2]; rfl, hh⟩, by show K - (i + 1) < K - i; omega, ?_⟩;exact Du
   ·rw [if_neg hiu] at hbu;rw [hbu] at b1 b2;have es : (X + C) % 256 = X + C + 0 := Dq;refine mI ?_;refine fM rfl rfl Dr ?_;refine aI (aa (ah (sr (mI (mI ?_)))));refine dE (aa (cF (ak (ai (sr (mL (mI (mI ?_))))))));refine jJ (b := 1) rfl rfl (by first | assumption | omega) (by first | assumption | omega) Dr ?_;refine bm (k := i) aF.out aC.size rfl rfl Dq Dq Dr ?_;refine bA hh (i := 0) (vs := [_]) rfl rfl (bK rfl) rfl aC.out rfl (by rw [hll]; omega) rfl ?_;intro ws hh;simp only [List.set_cons_zero] at hh;rw [hand, es, Nat.mul_one, bY (by rw [hll]; omega), j6, ← b1, hfk] at hh;refine aa (ar (mI ?_));refine dZ (s := 1) (m := 2) rfl rfl Dr Dr Dr ?_;refine aI (aE (aX (ai (ar (mI ?_)))));refine bO (aI (aE (ai ?_)));rw [es];refine ⟨⟨i + 1, Dq, rfl, by rw [b2]; rfl, hh⟩, by show K - (i + 1) < K - i; omega, ?_⟩;exact Du
  ·obtain rfl : i = K := Dq;rw [Nat.sub_self, List.replicate_zero, List.append_nil] at hh;refine ah (sr (mI (mL (a4 ?_))));refine a3 (aa (cF (aV (aA (aA (a8 (ai (sr (mL (aL (aa (al ?_))))))))))));refine cA ?_;exact ⟨_, rfl, hh.at_ (i := 0) rfl, hh.below⟩
end Go.Proofs.YteeckcbbnegmcaaGreatDoor
namespace Go.Proofs.YteeckcbbnegmcaaGreatDoor
open Go.RowKit
theorem Ax {X Y : Nat} (h : Y ≤ X) (i : Nat) : ((2 + X / 2 ^ i % 2 + 256 - Y / 2 ^ i % 2) % 256 + 256 - (if X % 2 ^ i < Y % 2 ^ i then 1 else 0)) % 256 % 2 = (X - Y) / 2 ^ i % 2 ∧
  (1 + 256 - ((2 + X / 2 ^ i % 2 + 256 - Y / 2 ^ i % 2) % 256 + 256 - (if X % 2 ^ i < Y % 2 ^ i then 1 else 0)) % 256 / 2) % 256 = (if X % 2 ^ (i + 1) < Y % 2 ^ (i + 1) then 1 else 0) := by
 have hX := Nat.div_add_mod X (2 ^ i);have hY := Nat.div_add_mod Y (2 ^ i);have hp : 0 < 2 ^ i := Nat.pow_pos Dq;have hX2 : X % 2 ^ (i + 1) = X % 2 ^ i + 2 ^ i * (X / 2 ^ i % 2) := by rw [Nat.pow_succ, Nat.mod_mul]
 have hY2 : Y % 2 ^ (i + 1) = Y % 2 ^ i + 2 ^ i * (Y / 2 ^ i % 2) := by rw [Nat.pow_succ, Nat.mod_mul]
 have hXl := Nat.mod_lt X hp;have hYl := Nat.mod_lt Y hp;rw [hX2, hY2];generalize hx1 : X / 2 ^ i = x1 at *;generalize hy1 : Y / 2 ^ i = y1 at *;generalize hx0 : X % 2 ^ i = x0 at *;generalize hy0 : Y % 2 ^ i = y0 at *;have key : ∀ b : Nat, b = (if x0 < y0 then 1 else 0) → (X - Y) / 2 ^ i = x1 - y1 - b ∧ y1 + b ≤ x1 := by
  intro b hb;have hle : y1 + b ≤ x1 := by
   refine Nat.le_of_not_lt fun hlt => ?_;have h1 : 2 ^ i * (x1 + 1) ≤ 2 ^ i * (y1 + b) := Nat.mul_le_mul_left _ hlt;rw [Nat.mul_add, Nat.mul_add] at h1;split at hb
   ·subst hb; omega
   ·subst hb; omega
  refine ⟨?_, hle⟩;have e : X - Y = (x0 + 2 ^ i * b - y0) + 2 ^ i * (x1 - y1 - b) := by
   have h2 : 2 ^ i * (x1 - y1 - b) = 2 ^ i * x1 - 2 ^ i * y1 - 2 ^ i * b := by rw [Nat.mul_sub, Nat.mul_sub]
   have h3 : 2 ^ i * (y1 + b) ≤ 2 ^ i * x1 := Nat.mul_le_mul_left _ hle;rw [Nat.mul_add] at h3;split at hb
   ·subst hb; omega
   ·subst hb; omega
  rw [e, Nat.add_mul_div_left _ _ hp, Nat.div_eq_of_lt, Nat.zero_add];split at hb
  ·subst hb; omega
  ·subst hb; omega
 obtain ⟨k1, k2⟩ := key _ rfl;rw [k1];have hlt : (x0 + 2 ^ i * (x1 % 2) < y0 + 2 ^ i * (y1 % 2)) ↔ (x1 % 2 < y1 % 2 ∨ x1 % 2 = y1 % 2 ∧ x0 < y0) := by
  rcases Nat.mod_two_eq_zero_or_one x1 with h1 | h1 <;> rcases Nat.mod_two_eq_zero_or_one y1 with h2 | h2 <;> rw [h1, h2] <;> omega
 by_cases hb : x0 < y0
 ·rw [if_pos hb] at k2 ⊢;refine ⟨Dq, ?_⟩;by_cases hc : x0 + 2 ^ i * (x1 % 2) < y0 + 2 ^ i * (y1 % 2)
  ·rw [if_pos hc]; rw [hlt] at hc; omega
  ·rw [if_neg hc]; rw [hlt] at hc; omega
 ·rw [if_neg hb] at k2 ⊢;refine ⟨Dq, ?_⟩;by_cases hc : x0 + 2 ^ i * (x1 % 2) < y0 + 2 ^ i * (y1 % 2)
  ·rw [if_pos hc]; rw [hlt] at hc; omega
  ·rw [if_neg hc]; rw [hlt] at hc; omega
theorem lu (A B : Option Addr) (n c m c' : Nat) (xs ys : List Nat) (w : World) (hx : Sl w A n 1 (fo xs)) (hy : Sl w B m 1 (fo ys)) (hdx : Dg 2 xs) (hdy : Dg 2 ys) (hn : n ≤ 100000000000) (hm : m ≤ 100000000000) (hle : bh 2 ys ≤ bh 2 xs) :
  Calls Tryz.prog 242 #[.slice A n c, .slice B m c'] w fun e w' => ∃ b, e = .returned (.slice (some ⟨b, 0, none⟩) n n) ∧ w'.ownsRow w.heap.size 5 1 (.slice (some ⟨b, 0, none⟩) n n) n (fo (bH 2 n (bh 2 xs - bh 2 ys))) ∧ Below w.heap.size w w' := by
 have hlx := hx.1;have hly := hy.1;rw [cm] at hlx hly;have hh := Hp.start w;have hand : ∀ z : Nat, z &&& 1 = z % 2 := fun z => Nat.and_one_is_mod z;refine aj (N := 37) (l := [.slice A n c, .slice B m c']) Tryz.func242 rfl rfl (by simp) ?_;refine sr (aL (aa (sr (mL (a4 ?_)))));refine gw (n := n) hh rfl rfl Dq Dq aF.out aC.out rfl Dq Dq Dr ?_;intro b11 w11 hh;refine aL (aa (sr (aI (aa (ah (sr (aI (aa (ao ?_)))))))));rw [lQ] at hh;refine de [6, 7, 8, 12, 13, 14, 15, 16, 17, 18, 19, 20, 21, 22, 23, 24, 25, 26, 27, 28, 29, 30, 31, 32, 33, 34, 35] 6 7
  (fun cr v w' => ∃ i : Nat, i ≤ n ∧ v = .int .i64 (i : Int) ∧ cr = .int .u8 ((if bh 2 xs % 2 ^ i < bh 2 ys % 2 ^ i then 1 else 0 : Nat) : Int) ∧ Hp w [.row (some ⟨b11, 0, none⟩) n n 5 1 (fo (bH 2 i (bh 2 xs - bh 2 ys) ++ List.replicate (n - i) 0))] w')
  (fun _ v _ => n - (intOf v).toNat) ?_ ?_
 ·exact ⟨0, Nat.zero_le _, rfl, by simp [Nat.mod_one]; rfl, hh⟩
 ·clear hh;rintro ρ' cr v w' ⟨i, hi, rfl, rfl, hh⟩;by_cases hlt : i < n
  ·obtain ⟨b1, b2⟩ := Ax hle i;have hxb : bh 2 xs / 2 ^ i % 2 < 2 := Nat.mod_lt _ Dq;have hyb : bh 2 ys / 2 ^ i % 2 < 2 := Nat.mod_lt _ Dq;have hcb : (if bh 2 xs % 2 ^ i < bh 2 ys % 2 ^ i then 1 else 0 : Nat) ≤ 1 := by split <;> omega
   have hll : (fo (bH 2 i (bh 2 xs - bh 2 ys) ++ List.replicate (n - i) 0)).length = n := by rw [cm, List.length_append, aM, List.length_replicate]; omega
   have hfk := AQ (N := bh 2 xs - bh 2 ys) hlt;refine ah (sr (mI (mL (a4 ?_))));refine a3 (aa (cT (ak (ai (ah (ao (sr (mL (mI ?_)))))))));refine bB hh (cR A n c i xs _ (hx.ext hh.below) hdx Dq Dq) rfl ?_;intro w20 hh;refine fM (a := 2) rfl rfl Dr ?_;refine mL (mI ?_);refine bB hh (cR B m c' i ys _ (hy.ext hh.below) hdy Dq Dq) rfl ?_;intro w24 hh;generalize hC : (if bh 2 xs % 2 ^ i < bh 2 ys % 2 ^ i then 1 else 0 : Nat) = C at *;generalize hX : bh 2 xs / 2 ^ i % 2 = X at *;generalize hY : bh 2 ys / 2 ^ i % 2 = Y at *;have es : ((2 + X) % 256 + 256 - Y) % 256 = (2 + X + 256 - Y) % 256 := Dq;have hS : ((2 + X + 256 - Y) % 256 + 256 - C) % 256 < 256 := Nat.mod_lt _ Dq;refine q7 rfl rfl Dq Dr ?_;refine mI ?_;rw [es];refine q7 rfl rfl Dq Dr ?_;refine aI (aa (sr (mL (mI (mI ?_)))));refine jJ (b := 1) rfl rfl (by first | assumption | omega) (by first | assumption | omega) Dr ?_;refine bm (k := i) aF.out aC.size rfl rfl Dq Dq Dr ?_;refine bA hh (i := 0) (vs := [_]) rfl rfl (bK rfl) rfl aC.out rfl (by rw [hll]; omega) rfl ?_;intro ws hh;simp only [List.set_cons_zero] at hh;rw [hand, b1, Nat.mul_one, bY (by rw [hll]; omega), j6, hfk] at hh;refine aa (ar (mI ?_))
   refine dZ (s := 1) (m := 2) rfl rfl Dr Dr Dr ?_;refine q7 (a := 1) rfl rfl Dq Dr ?_;refine aI (aE (aX (ai (ar (mI ?_)))));refine bO (aI (aE (ai ?_)));refine ⟨⟨i + 1, Dq, rfl, by rw [← b2]; rfl, hh⟩, by show n - (i + 1) < n - i; omega, ?_⟩;exact Du
  ·obtain rfl : i = n := Dq;rw [Nat.sub_self, List.replicate_zero, List.append_nil] at hh;refine ah (sr (mI (mL (a4 ?_))));refine a3 (aa (cF (aV (aA (aA (a8 (ai (sr (mL (aL (aa (al ?_))))))))))));refine cA ?_;exact ⟨_, rfl, hh.at_ (i := 0) rfl, hh.below⟩
theorem p5 (n : Nat) (w : World) (hn : n < 18446744073709551616) :
  Calls Tryz.prog 211 #[.int .u64 (n : Int)] w fun e w' => e = .returned (.string (sN n)) ∧ Below w.heap.size w w' := by
 have hh := Hp.start w;refine aj (N := 16) (l := [.int .u64 (n : Int)]) Tryz.func211 rfl rfl (by simp) ?_;refine sr (aS (aa (sr (aL (aa (ah (ao ?_)))))));replace hh := hh.eN 5 1;refine de [0, 3, 4, 5, 6, 7, 8, 9, 10, 11, 12, 13] 0 3
  (fun v o w' => ∃ (k m : Nat) (A : Option Addr) (c : Nat), v = .int .u64 (m : Int) ∧ m < 18446744073709551616 ∧ k ≤ 64 ∧ m < 2 ^ (64 - k) ∧ o = .slice A k c ∧ m = n / 2 ^ k ∧ Hp w [.row A k c 5 1 (fo (bH 2 k n))] w')
  (fun v _ _ => (intOf v).toNat) ?_ ?_
 ·exact ⟨0, n, none, 0, rfl, hn, Dq, by simpa using hn, rfl, by simp, hh⟩
 ·clear hh;rintro ρ' v o w' ⟨k, m, A, c, rfl, hm, hk, hmk, rfl, hmn, hh⟩;by_cases h0 : m = 0
  ·subst h0;refine ah (sr (mI ?_));refine ct (aa (cF (aV (aA (aA (a8 (ai (sr (mL ?_)))))))));refine bB hh (er _ _ _ (bH 2 k n) _ (hh.aD (i := 0) rfl) (eB Dq _ _) (hh.dy (i := 0) rfl) Dq) rfl ?_;intro w15 hh;have hlt : n < 2 ^ k := by
    have := Nat.div_add_mod n (2 ^ k);have h2 := Nat.mod_lt n (Nat.pow_pos (n := k) (show 0 < 2 by omega));rw [← hmn] at this;omega
   rw [cq hlt];refine aS (aa (al ?_));refine cA ?_;exact ⟨rfl, hh.below⟩
  ·have hk64 : k < 64 := by
    refine Nat.lt_of_not_le fun h => ?_;rw [show 64 - k = 0 by omega] at hmk;omega
   have hm2 : m % 2 < 256 := Dq;refine ah (sr (mI ?_));refine ct (aa (cT (ak (ai (ah (ao (ar (mL (mI ?_)))))))));refine uu (b := 2) rfl rfl Dq Dr ?_;first | refine di aF.out aF.out rfl (by first | assumption | omega) Dr ?_ | refine eY aF.out aF.out rfl Dr ?_
   refine bf hh (cs := [_]) aF.out aC.out (aY (bK rfl) bQ) rfl rfl Dr Dr Dr rfl Dr ?_;intro b12 w12 hh;refine ck hh (i := 1) rfl rfl rfl (hh.aD (i := 0) rfl) aF.out aC.out rfl Dr (by first | rfl | exact cw _ | exact bU _ | exact oneCells_i64s _ | exact bL NR.one _) Dq Dq Dr ?_;intro A13 c13 w13 hh;simp only [List.set_cons_zero, List.set_cons_succ] at hh;replace hh := hh.sub (List.sublist_cons_self _ _);refine aL (aE (aX (ai (ar (mI ?_)))));refine Bs (b := 2) rfl rfl Dq (by first | assumption | omega) Dr ?_;refine aI (aE (ai ?_));have e1 : fo (bH 2 k n) ++ [Value.int .u8 ((m % 2 : Nat) : Int)] = fo (bH 2 (k + 1) n) := by
    rw [hmn, iT, n4]; rfl
   rw [e1] at hh;refine ⟨⟨k + 1, m / 2, A13, c13, rfl, Dq, Dq, ?_, rfl, ?_, hh⟩, by show (((m / 2 : Nat) : Int)).toNat < ((m : Int)).toNat; omega, ?_⟩
   ·rw [show 64 - k = (64 - (k + 1)) + 1 by omega, Nat.pow_succ] at hmk;omega
   ·rw [hmn, Nat.div_div_eq_div_mul, Nat.pow_succ]
   ·exact Du
theorem gG (a : ByteArray) : (aR 2 (bN a)).length ≤ 8 * a.size := fq a
theorem ie (n : Nat) : Dg 2 (aR 2 n) := (dw Dq n).1
theorem fN (n : Nat) : bh 2 (aR 2 n) = n := dF Dq n
theorem oJ (a b : ByteArray) (w : World) (ha : a.size ≤ 1000000000) (hb : b.size ≤ 1000000000) :
  Calls Tryz.prog 241 #[.string a, .string b] w fun e w' => e = .returned (.int .i64 (iK (bN a) (bN b))) ∧ Below w.heap.size w w' := by
 have hh := Hp.start w;have h1 := gG a;have h2 := gG b;refine aj (N := 10) (l := [.string a, .string b]) Tryz.func241 rfl rfl (by simp) ?_;refine sr (aI (aa (sr (mS ?_))));refine aK (dv a _ ha) aq.out rfl Dr ?_;rintro e_ w6 ⟨A6, c6, rfl, hown_, hb_⟩;refine ⟨_, rfl, ?_⟩;replace hh := hh.a9 (x := .row _ _ _ _ _ _) hb_ hown_;refine mS ?_;refine aK (dv b _ hb) aq.out rfl Dr ?_;rintro e_ w8 ⟨A8, c8, rfl, hown_, hb_⟩;refine ⟨_, rfl, ?_⟩;replace hh := hh.a9 (x := .row _ _ _ _ _ _) hb_ hown_;refine bB hh (jz _ _ _ _ _ _ (aR 2 (bN a)) (aR 2 (bN b)) _ (hh.aD (i := 1) rfl) (hh.aD (i := 0) rfl) (ie _) (ie _) Dq Dq) rfl ?_;intro w9 hh;rw [fN, fN];refine aI (aa (al ?_));refine cA ?_;exact ⟨rfl, hh.below⟩
theorem kE (a : ByteArray) (w : World) (ha : a.size ≤ 1000000000) :
  Calls Tryz.prog 239 #[.string a] w fun e w' => e = .returned (.int .i64 (bz (bN a))) ∧ Below w.heap.size w w' := by
 have hh := Hp.start w;refine aj (N := 6) (l := [.string a]) Tryz.func239 rfl rfl (by simp) ?_;refine sr (aI (aa (sr (mS ?_))));refine aK (dv a _ ha) aq.out rfl Dr ?_;rintro e_ w4 ⟨A4, c4, rfl, hown_, hb_⟩;refine ⟨_, rfl, ?_⟩;replace hh := hh.a9 (x := .row _ _ _ _ _ _) hb_ hown_;refine a4 (aI (aa (al ?_)));refine cA ?_;exact ⟨rfl, hh.below⟩
theorem kM (a b : ByteArray) (w : World) (ha : a.size ≤ 1000000000) (hb : b.size ≤ 1000000000) :
  Calls Tryz.prog 216 #[.string a, .string b] w fun e w' => e = .returned (.tuple #[.string (sN (bN a - bN b)), .bool (decide (bN b ≤ bN a))]) ∧ Below w.heap.size w w' := by
 have hh := Hp.start w;have h1 := gG a;have h2 := gG b;by_cases hlt : bN a < bN b
 ·refine aj (N := 16) (l := [.string a, .string b]) Tryz.func216 rfl rfl (by simp) ?_;refine sr (aS (aB (aa (ah (sr (mS (mS ?_)))))));refine bB hh (oJ a b _ ha hb) rfl ?_;intro w8 hh;rw [jk hlt];refine a3 (aa (cT (sr (aS (aB (aa (al (aH ?_))))))));refine vW ?_;rw [Nat.sub_eq_zero_of_le Dq, decide_eq_false Dq, gN];exact ⟨rfl, hh.below⟩
 ·have hc : ¬ iK (bN a) (bN b) < 0 := by unfold iK; split <;> (try split) <;> omega
  have hbl : bN a - bN b < 2 ^ (aR 2 (bN a)).length := Nat.lt_of_le_of_lt (Nat.sub_le _ _) (db (bN a));refine aj (N := 16) (l := [.string a, .string b]) Tryz.func216 rfl rfl (by simp) ?_;refine sr (aS (aB (aa (ah (sr (mS (mS ?_)))))));refine bB hh (oJ a b _ ha hb) rfl ?_;intro w8 hh;refine a3 (aa (cF (ak (ai (sr (mS ?_))))));refine aK (dv a _ ha) aq.out rfl Dr ?_;rintro e_ w11 ⟨A11, c11, rfl, hown_, hb_⟩;refine ⟨_, rfl, ?_⟩;replace hh := hh.a9 (x := .row _ _ _ _ _ _) hb_ hown_;refine mS ?_;refine aK (dv b _ hb) aq.out rfl Dr ?_;rintro e_ w13 ⟨A13, c13, rfl, hown_, hb_⟩;refine ⟨_, rfl, ?_⟩;replace hh := hh.a9 (x := .row _ _ _ _ _ _) hb_ hown_;refine aK (lu _ _ _ _ _ _ (aR 2 (bN a)) (aR 2 (bN b)) _ (hh.aD (i := 1) rfl) (hh.aD (i := 0) rfl) (ie _) (ie _) Dq Dq (by rw [fN, fN]; omega)) aq.out rfl Dr ?_;rintro e_ w_ ⟨b14, rfl, hown_, hb_⟩;refine ⟨_, rfl, ?_⟩;replace hh := hh.a9 (x := .row _ _ _ _ _ _) hb_ hown_;rw [fN, fN] at hh;refine bB hh (er _ _ _ (bH 2 (aR 2 (bN a)).length (bN a - bN b)) _ (hh.aD (i := 0) rfl) (eB Dq _ _) (Nat.le_refl _) Dq) rfl ?_;intro w15 hh;rw [cq hbl];refine aS (aB (aa (al ?_)));refine vW ?_;rw [decide_eq_true Dq];exact ⟨rfl, hh.below⟩
end Go.Proofs.YteeckcbbnegmcaaGreatDoor
namespace Go.Proofs.YteeckcbbnegmcaaGreatDoor
open Go.RowKit
theorem ur (L : Option Addr) (n c : Nat) (ss : List ByteArray) (w : World) (hS : Sl w L n 1 (tt ss)) (hn : n ≤ 1000000) (hs : ∀ s ∈ ss, s.size ≤ 1000000000) :
  Calls Tryz.prog 215 #[.slice L n c] w fun e w' => e = .returned (.string (sN (ss.map bN).sum)) ∧ Below w.heap.size w w' := by
 have hsl : ss.length = n := by have := hS.1; rw [na] at this; omega
 have hh := Hp.start w;refine aj (N := 20) (l := [.slice L n c]) Tryz.func215 rfl rfl (by simp) ?_;refine sr (aS (aa (sr (aL (aa (ah (sr (aI (aa (ao ?_))))))))));replace hh := hh.eN 5 1;refine de [3, 4, 5, 6, 7, 8, 9, 10, 11, 12, 13, 14, 15, 16, 17] 3 4
  (fun v j w' => ∃ (i : Nat) (A : Option Addr) (c' T K : Nat), i ≤ n ∧ j = .int .i64 i ∧ T = ((ss.take i).map bN).sum ∧ v = .slice A K c' ∧ K ≤ 8000000000 + i ∧ T < 2 ^ K ∧ Hp w [.row A K c' 5 1 (fo (bH 2 K T))] w')
  (fun _ j _ => n - (intOf j).toNat) ?_ ?_
 ·exact ⟨0, none, 0, 0, 0, Nat.zero_le _, rfl, rfl, rfl, Dq, by simp, hh⟩
 ·clear hh;rintro ρ' v j w' ⟨i, A, c', T, K, hi, rfl, hT, rfl, hTl, hTb, hh⟩;by_cases hlt : i < n
  ·obtain ⟨s, hsi⟩ := aG (l := ss) (k := i) Dq;obtain ⟨ad, rfl, hr⟩ := hS.at_ Dq;have hs2 := u5 hsi;have hsz := hs s (List.mem_of_getElem? hsi);have hlx := gG s;have hT2 : ((ss.take (i + 1)).map bN).sum = T + bN s := by rw [aT hsi, List.map_append, List.map_singleton, mU, hT]
   have hbs : bN s < 2 ^ (aR 2 (bN s)).length := db _;have hb2 : T + bN s < 2 ^ (max K ((aR 2 (bN s)).length + 0) + 1) := by
    have h1 : 2 ^ K ≤ 2 ^ max K ((aR 2 (bN s)).length + 0) := Nat.pow_le_pow_right Dq Dq;have h2 : 2 ^ (aR 2 (bN s)).length ≤ 2 ^ max K ((aR 2 (bN s)).length + 0) := Nat.pow_le_pow_right Dq Dq;rw [Nat.pow_succ]; omega
   refine ah (sr (mI (mL (a4 ?_))));refine a3 (aa (cT (ak (ai (ah (ao (ar (mL (mL (mI ?_))))))))));refine aZ (k := i) aF.out aC.size rfl rfl Dq Dq Dr ?_;refine bp aC.out rfl ((hr.ext hh.below).nT (by assumption)) Dr ?_;refine aK (dv s _ hsz) aq.out rfl Dr ?_;rintro e_ w16 ⟨A16, c16, rfl, hown_, hb_⟩;refine ⟨_, rfl, ?_⟩;replace hh := hh.a9 (x := .row _ _ _ _ _ _) hb_ hown_;refine aK (tg _ _ _ _ _ _ 0 (bH 2 K T) (aR 2 (bN s)) _ (hh.aD (i := 1) rfl) (hh.aD (i := 0) rfl) (eB Dq _ _) (ie _) Dq Dq Dq) aq.out rfl Dr ?_;rintro e_ w_ ⟨b17, rfl, hown_, hb_⟩;refine ⟨_, rfl, ?_⟩;rw [fN, cq hTb, Nat.pow_zero, Nat.mul_one] at hown_;replace hh := (hh.a9 (x := .row _ _ _ _ _ _) hb_ hown_).sub (List.sublist_append_left [_] _);refine aL (aE (aX (ai (ar (mI ?_)))));refine bO (aI (aE (ai ?_)));refine ⟨⟨i + 1, _, _, T + bN s, _, Dq, rfl, hT2.symm, rfl, Dq, hb2, hh⟩, by show n - (i + 1) < n - i; omega, ?_⟩;exact Du
  ·refine ah (sr (mI (mL (a4 ?_))));refine a3 (aa (cF (aV (aA (aA (a8 (ai (sr (mL ?_)))))))));refine bB hh (er _ _ _ (bH 2 K T) _ (hh.aD (i := 0) rfl) (eB Dq _ _) (hh.dy (i := 0) rfl) Dq) rfl ?_;intro w19 hh;rw [cq hTb];refine aS (aa (al ?_));refine cA ?_;rw [List.take_of_length_le Dq] at hT;rw [hT];exact ⟨rfl, hh.below⟩
theorem yR (X Y k : Nat) (hY : 0 < Y) : X / 2 ^ k % Y = (if Y ≤ X / 2 ^ k % 2 + 2 * (X / 2 ^ (k + 1) % Y) then X / 2 ^ k % 2 + 2 * (X / 2 ^ (k + 1) % Y) - Y else X / 2 ^ k % 2 + 2 * (X / 2 ^ (k + 1) % Y)) ∧
  X / 2 ^ k / Y % 2 = (if Y ≤ X / 2 ^ k % 2 + 2 * (X / 2 ^ (k + 1) % Y) then 1 else 0) ∧ X / 2 ^ k / Y / 2 = X / 2 ^ (k + 1) / Y := by
 have h1 := je X k;have hb : X / 2 ^ k % 2 < 2 := Nat.mod_lt _ Dq;generalize X / 2 ^ k % 2 = b at *;generalize X / 2 ^ k = Z at *;generalize X / 2 ^ (k + 1) = V at *;have h2 := Nat.div_add_mod V Y;have h3 := Nat.mod_lt V hY;generalize V / Y = q at *;generalize V % Y = r at *;have e : Z = (b + 2 * r) + Y * (2 * q) := by rw [h1, ← h2, Nat.mul_add, Nat.mul_left_comm]; omega
 rw [e, Nat.add_mul_mod_self_left, Nat.add_mul_div_left _ _ hY];by_cases hc : Y ≤ b + 2 * r
 ·rw [if_pos hc, if_pos hc];have e2 : b + 2 * r = (b + 2 * r - Y) + Y * 1 := Dq;have h4 : b + 2 * r - Y < Y := Dq;have h5 : (b + 2 * r) / Y = 1 := by rw [e2, Nat.add_mul_div_left _ _ hY, Nat.div_eq_of_lt h4]
  have h6 : (b + 2 * r) % Y = b + 2 * r - Y := by conv => lhs; rw [e2, Nat.add_mul_mod_self_left, Nat.mod_eq_of_lt h4]
  rw [h5, h6];omega
 ·rw [if_neg hc, if_neg hc, Nat.mod_eq_of_lt Dq, Nat.div_eq_of_lt Dq];omega
theorem kA (a b : ByteArray) (w : World) (ha : a.size ≤ 1000000000) (hb : b.size ≤ 1000000000) (hb0 : bN b ≠ 0) :
  Calls Tryz.prog 238 #[.string a, .string b] w fun e w' => e = .returned (.tuple #[.string (sN (bN a / bN b)), .string (sN (bN a % bN b)), .bool true]) ∧ Below w.heap.size w w' := by
 have hh := Hp.start w;have h1 := gG a;have h2 := gG b;have hX := fN (bN a);have hXd := ie (bN a);have hXl : bN a < 2 ^ (aR 2 (bN a)).length := db _;have hYp : 0 < (aR 2 (bN b)).length := lF hb0;have hget : ∀ k, k < (aR 2 (bN a)).length → (aR 2 (bN a))[k]? = some (bN a / 2 ^ k % 2) := fun k hk => sQ Dq hk;refine aj (N := 52) (l := [.string a, .string b]) Tryz.func238 rfl rfl (by simp) ?_;refine sr (aS (aS (aB (aa (sr (mS ?_))))));refine aK (dv a _ ha) aq.out rfl Dr ?_;rintro e_ w13 ⟨A13, c13, rfl, hown_, hb_⟩;refine ⟨_, rfl, ?_⟩;replace hh := hh.a9 (x := .row _ _ _ _ _ _) hb_ hown_;refine mS ?_;refine aK (dv b _ hb) aq.out rfl Dr ?_;rintro e_ w15 ⟨A15, c15, rfl, hown_, hb_⟩;refine ⟨_, rfl, ?_⟩;replace hh := hh.a9 (x := .row _ _ _ _ _ _) hb_ hown_;refine aL (aL (aa (ah (sr (mL (a4 ?_))))));refine cu (aa (cF (ak (ai (sr (mL (a4 ?_)))))));refine gw hh rfl rfl rfl rfl aF.out aC.out rfl Dq Dq Dr ?_;intro b21 w21 hh;refine aL (aa (sr (aL (aa (ah (sr (mL (a4 ?_))))))));refine ek (aI (aa (ao ?_)));rw [lQ] at hh;generalize hxs : aR 2 (bN a) = xs at *;replace hh := hh.eN 5 1;refine de [10, 11, 25, 26, 27, 28, 29, 30, 31, 32, 33, 34, 35, 36, 37, 38, 39, 40, 41, 42, 43, 44, 45, 46, 47] 10 11
  (fun v j w' => ∃ (k : Nat) (A : Option Addr) (c' : Nat), k ≤ xs.length ∧ j = .int .i64 ((k : Int) - 1) ∧ v = .slice A (aR 2 (bN a / 2 ^ k % bN b)).length c' ∧ Hp w [.row A (aR 2 (bN a / 2 ^ k % bN b)).length c' 5 1 (fo (aR 2 (bN a / 2 ^ k % bN b))), .row (some ⟨b21, 0, none⟩) xs.length xs.length 5 1 (fo (List.replicate k 0 ++ bH 2 (xs.length - k) (bN a / 2 ^ k / bN b))), .row A15 (aR 2 (bN b)).length c15 5 1 (fo (aR 2 (bN b))), .row A13 xs.length c13 5 1 (fo xs)] w')
  (fun _ j _ => (intOf j + 1).toNat) ?_ ?_
 ·refine ⟨xs.length, none, 0, Nat.le_refl _, rfl, ?_, ?_⟩
  ·rw [Nat.div_eq_of_lt hXl, Nat.zero_mod, eZ Dq]; rfl
  ·rw [Nat.div_eq_of_lt hXl, Nat.zero_mod, eZ Dq, Nat.sub_self]; simp only [bH, List.append_nil]; exact hh
 ·clear hh;rintro ρ' v j w' ⟨k, A, c', hk, rfl, rfl, hh⟩;by_cases h0 : k = 0
  ·subst h0;rw [Nat.pow_zero, Nat.div_one, Nat.sub_zero, List.replicate_zero, List.nil_append] at hh;rw [Nat.pow_zero, Nat.div_one];have hq : bN a / bN b < 2 ^ xs.length := Nat.lt_of_le_of_lt (Nat.div_le_self _ _) hXl;have hrl : (aR 2 (bN a % bN b)).length ≤ (aR 2 (bN b)).length := kp Dq (Nat.le_of_lt (Nat.mod_lt _ Dq));refine ah (sr (mI ?_));refine dE (aa (cF (aV (aA (aA (a8 (ai (sr (mL ?_)))))))));refine bB hh (er _ _ _ (bH 2 xs.length (bN a / bN b)) _ (hh.aD (i := 1) rfl) (eB Dq _ _) (Nat.le_refl _) Dq) rfl ?_;intro w49 hh;rw [cq hq];refine mL ?_;refine bB hh (er _ _ _ (aR 2 (bN a % bN b)) _ (hh.aD (i := 0) rfl) (ie _) (hh.dy (i := 0) rfl) Dq) rfl ?_;intro w51 hh;rw [fN];refine aS (aS (aB (aa (al ?_))));refine Df ?_;exact ⟨rfl, hh.below⟩
  ·obtain ⟨i, rfl⟩ : ∃ i, k = i + 1 := ⟨k - 1, Dq⟩;have hji : ((i + 1 : Nat) : Int) - 1 = (i : Int) := Dq;obtain ⟨d1, d2, d3⟩ := yR (bN a) (bN b) i Dq;have hgi := mg (hget i Dq);have hdw : bN a / 2 ^ i % 2 < 2 := Nat.mod_lt _ Dq;have hrl : (aR 2 (bN a / 2 ^ (i + 1) % bN b)).length ≤ (aR 2 (bN b)).length := kp Dq (Nat.le_of_lt (Nat.mod_lt _ Dq));have hqk : bH 2 (xs.length - i) (bN a / 2 ^ i / bN b) = (bN a / 2 ^ i / bN b % 2) :: bH 2 (xs.length - (i + 1)) (bN a / 2 ^ (i + 1) / bN b) := by
    rw [show xs.length - i = (xs.length - (i + 1)) + 1 by omega, bH, d3]
   rw [hji];obtain ⟨g, rfl⟩ := hh.fO (i := 3) rfl Dq;refine ah (sr (mI ?_));refine dE (aa (cT (ak (ai (ah (ao (sr (mL (mI ?_)))))))));refine bm (k := i) aF.out aC.size rfl rfl Dq Dq Dr ?_;refine bp aC.out rfl (hh.cE (i := 3) rfl (by first | assumption | (simp only [Nat.mul_one]; assumption))) Dr ?_;refine bf hh (cs := [_]) aF.out aC.out (aY (bK rfl) bQ) rfl rfl Dr Dr Dr rfl Dr ?_;intro b33 w33 hh;refine mL ?_;refine ck hh (i := 0) rfl rfl rfl (hh.aD (i := 1) rfl) aF.out aC.out rfl Dr (by first | rfl | exact cw _ | exact bU _ | exact oneCells_i64s _ | exact bL NR.one _) Dq Dq Dr ?_;intro A35 c35 w35 hh;simp only [List.set_cons_zero] at hh;have e35 : [Value.int .u8 ((bN a / 2 ^ i % 2 : Nat) : Int)] ++ fo (aR 2 (bN a / 2 ^ (i + 1) % bN b)) = fo ((bN a / 2 ^ i % 2) :: aR 2 (bN a / 2 ^ (i + 1) % bN b)) := rfl;rw [e35] at hh;generalize hR : bN a / 2 ^ (i + 1) % bN b = R at *;generalize hbt : bN a / 2 ^ i % 2 = bt at *;have hdg : Dg 2 (bt :: aR 2 R) := Dg.cons hdw (ie _);have hcv : dz (bt :: aR 2 R) = aR 2 (bt + 2 * R) := by rw [eL Dq hdg, bh, fN]
   have hll : (bt :: aR 2 R).length = 1 + (aR 2 R).length := by rw [List.length_cons]; omega
   have hcl := eI (bt :: aR 2 R);refine bB hh (jg _ _ _ (bt :: aR 2 R) _ (hh.aD (i := 0) rfl) (hh.dy (i := 0) rfl) Dq) rfl ?_;intro w36 hh;replace hh := hh.BO hll;rw [hcv] at hh hcl;rw [hcv];refine aL (aa (sr (mL (mL ?_))));refine bB hh (jz _ _ _ _ _ _ (aR 2 (bt + 2 * R)) (aR 2 (bN b)) _ (hh.aD (i := 0) rfl) (hh.aD (i := 3) rfl) (ie _) (ie _) Dq Dq) rfl ?_;intro w39 hh;rw [fN, fN];by_cases hge : bN b ≤ bt + 2 * R
   ·have hc : 0 ≤ iK (bt + 2 * R) (bN b) := by unfold iK; rw [if_neg Dq]; split <;> omega
    rw [if_pos hge] at d1 d2;have hml : bt + 2 * R - bN b < 2 ^ (aR 2 (bt + 2 * R)).length := Nat.lt_of_le_of_lt (Nat.sub_le _ _) (db _);have hcm : dz (bH 2 (aR 2 (bt + 2 * R)).length (bt + 2 * R - bN b)) = aR 2 (bt + 2 * R - bN b) := by rw [eL Dq (eB Dq _ _), cq hml]
    refine dE (aa (cT (sr (mL (mL ?_)))));refine aK (lu _ _ _ _ _ _ (aR 2 (bt + 2 * R)) (aR 2 (bN b)) _ (hh.aD (i := 0) rfl) (hh.aD (i := 3) rfl) (ie _) (ie _) Dq Dq (by rw [fN, fN]; exact hge)) aq.out rfl Dr ?_;rintro e_ w_ ⟨b43, rfl, hown_, hb_⟩;refine ⟨_, rfl, ?_⟩;replace hh := hh.a9 (x := .row _ _ _ _ _ _) hb_ hown_;rw [fN, fN] at hh;refine bB hh (jg _ _ _ (bH 2 (aR 2 (bt + 2 * R)).length (bt + 2 * R - bN b)) _ (hh.aD (i := 0) rfl) (Nat.le_refl _) Dq) rfl ?_;intro w44 hh;replace hh := hh.BO (aM _ _);rw [hcm] at hh;rw [hcm];have hql : (fo (List.replicate (i + 1) 0 ++ bH 2 (xs.length - (i + 1)) (bN a / 2 ^ (i + 1) / bN b))).length = xs.length := by rw [cm, List.length_append, List.length_replicate, aM]; omega
    refine aL (aa (ar (mL (mI ?_))));refine bm (k := i) aF.out aC.size rfl rfl Dq Dq Dr ?_;refine bA hh (i := 3) (vs := [_]) rfl rfl (bK rfl) rfl aC.out rfl (by rw [hql]; omega) rfl ?_;intro ws hh;simp only [List.set_cons_zero, List.set_cons_succ] at hh;rw [Nat.mul_one, bY (by rw [hql]; omega)] at hh;have hset : (fo (List.replicate (i + 1) 0 ++ bH 2 (xs.length - (i + 1)) (bN a / 2 ^ (i + 1) / bN b))).set i (.int .u8 1) = fo (List.replicate i 0 ++ bH 2 (xs.length - i) (bN a / 2 ^ i / bN b)) := by
     have := j6 (List.replicate (i + 1) 0 ++ bH 2 (xs.length - (i + 1)) (bN a / 2 ^ (i + 1) / bN b)) i 1;rw [hqk, d2, ← vR];exact this
    rw [hset] at hh;replace hh := hh.sub (.cons_cons _ (.cons _ (.cons _ (List.Sublist.refl _))));refine aE (aX (ai (ar (mI ?_))));refine ek (aI (aE (ai ?_)));refine ⟨⟨i, _, _, Dq, rfl, by rw [d1]; rfl, by rw [d1]; exact hh⟩, by show ((i : Int) - 1 + 1).toNat < ((i : Int) + 1).toNat; omega, ?_⟩;exact Du
   ·have hc : ¬ 0 ≤ iK (bt + 2 * R) (bN b) := by rw [jk Dq]; omega
    rw [if_neg hge] at d1 d2;refine dE (aa (cF (ak (aX (ai (ar (mI ?_)))))));refine ek (aI (aE (ai ?_)));have hrep : List.replicate (i + 1) 0 ++ bH 2 (xs.length - (i + 1)) (bN a / 2 ^ (i + 1) / bN b) = List.replicate i 0 ++ bH 2 (xs.length - i) (bN a / 2 ^ i / bN b) := by
     rw [hqk, d2, List.replicate_succ', List.append_assoc]; rfl
    rw [hrep] at hh;replace hh := hh.sub (.cons_cons _ (.cons _ (List.Sublist.refl _)));refine ⟨⟨i, _, _, Dq, rfl, by rw [d1]; rfl, by rw [d1]; exact hh⟩, by show ((i : Int) - 1 + 1).toNat < ((i : Int) + 1).toNat; omega, ?_⟩;exact Du
end Go.Proofs.YteeckcbbnegmcaaGreatDoor
/- The walks through the document's answer for whole numbers (ogeeref02), as far as layer 4 needs it. -/
namespace Go.Proofs.YteeckcbbnegmcaaGreatDoor
open Go.RowKit
theorem kt {n : Nat} : bz n = 0 ↔ n = 0 := by
 constructor
 ·intro h;have := db n;rw [h] at this;omega
 ·intro h; rw [h]; exact iO
theorem ki {a b : Nat} (h : a ≤ b) : bz a ≤ bz b := dm (Nat.lt_of_le_of_lt h (db b))
theorem xU (a b : Nat) : bz (a + b) ≤ bz a + bz b + 1 := by
 apply dm;have h1 := db a;have h2 := db b;have h3 : 2 ^ bz a ≤ 2 ^ (bz a + bz b) := Nat.pow_le_pow_right Dq Dq;have h4 : 2 ^ bz b ≤ 2 ^ (bz a + bz b) := Nat.pow_le_pow_right Dq Dq;rw [Nat.pow_succ];omega
theorem du (s : Bool) (m : ByteArray) (w : World) (hm : m.size ≤ 1000000000) :
  Calls Tryz.prog 209 #[.agg #[.bool s, .string m]] w fun e w' => e = .returned (.agg #[.bool (iN (iv s m)), .string (iM (iv s m))]) ∧ Below w.heap.size w w' := by
 have hh := Hp.start w;have h1 := gG m;rw [AP, vv]
 cases s with
 | false =>
  refine aj (N := 16) (l := [.agg #[.bool false, .string m]]) Tryz.func209 rfl rfl (by simp) ?_;refine sr ?_;refine dp hh [_,_] ?_;intro b1 w1 hh;refine cj hh ?_;intro b2 w2 hh;refine aa (sr (bG ?_));refine bI hh 1 ?_;refine aK (dv m _ hm) aq.out rfl Dr ?_;rintro e_ w6 ⟨A6, c6, rfl, hown_, hb_⟩;refine ⟨_, rfl, ?_⟩;replace hh := hh.a9 (x := .row _ _ _ _ _ _) hb_ hown_;refine bB hh (er _ _ _ (aR 2 (bN m)) _ (hh.aD (i := 0) rfl) (ie _) (hh.dy (i := 0) rfl) Dq) rfl ?_;intro w7 hh;rw [fN];refine aS (aa (sr (bG ?_)));refine bI hh 2 ?_;refine mB ?_;first | refine gS ?_ | (refine gT ?_; refine mS ?_) | refine gV ?_
  first | refine gS ?_ | (refine gT ?_; (first | refine fG rfl rfl (by first | rfl | assumption | decide) Dr ?_ | refine fF rfl rfl (by first | assumption | decide) Dr ?_)) | refine gV ?_
  first | refine cW ?_ | refine cX ?_
  refine mS ?_;refine eX [_,_] ?_;refine bD hh 1 [_,_] ?_;intro ws hh;replace hh : Hp _ (_ :: .blk _ _ [_, _] _ :: _) _ := hh;refine aa (al ?_);refine ik (aN rfl (aO (vs := [_, _]) aC.out (hh.aw (i := 1) (n := 2) rfl rfl) rfl) a7) ?_;exact ⟨rfl, hh.below⟩
 | true =>
  by_cases h0 : sN (bN m) = ByteArray.mk #[]
  ·refine aj (N := 16) (l := [.agg #[.bool true, .string m]]) Tryz.func209 rfl rfl (by simp) ?_;refine sr ?_;refine dp hh [_,_] ?_;intro b1 w1 hh;refine cj hh ?_;intro b2 w2 hh;refine aa (sr (bG ?_));refine bI hh 1 ?_;refine aK (dv m _ hm) aq.out rfl Dr ?_;rintro e_ w6 ⟨A6, c6, rfl, hown_, hb_⟩;refine ⟨_, rfl, ?_⟩;replace hh := hh.a9 (x := .row _ _ _ _ _ _) hb_ hown_;refine bB hh (er _ _ _ (aR 2 (bN m)) _ (hh.aD (i := 0) rfl) (ie _) (hh.dy (i := 0) rfl) Dq) rfl ?_;intro w7 hh;rw [fN];refine aS (aa (sr (bG ?_)));refine bI hh 2 ?_;refine mB ?_;first | refine gS ?_ | (refine gT ?_; refine mS ?_) | refine gV ?_
   first | refine gS ?_ | (refine gT ?_; (first | refine fG rfl rfl (by first | rfl | assumption | decide) Dr ?_ | refine fF rfl rfl (by first | assumption | decide) Dr ?_)) | refine gV ?_
   first | refine cW ?_ | refine cX ?_
   refine mS ?_;refine eX [_,_] ?_;refine bD hh 1 [_,_] ?_;intro ws hh;replace hh : Hp _ (_ :: .blk _ _ [_, _] _ :: _) _ := hh;refine aa (al ?_);refine ik (aN rfl (aO (vs := [_, _]) aC.out (hh.aw (i := 1) (n := 2) rfl rfl) rfl) a7) ?_;have h1 : bN m = 0 := by rw [← gN] at h0; exact ub h0
   rw [decide_eq_false Dq];exact ⟨rfl, hh.below⟩
  ·refine aj (N := 16) (l := [.agg #[.bool true, .string m]]) Tryz.func209 rfl rfl (by simp) ?_;refine sr ?_;refine dp hh [_,_] ?_;intro b1 w1 hh;refine cj hh ?_;intro b2 w2 hh;refine aa (sr (bG ?_));refine bI hh 1 ?_;refine aK (dv m _ hm) aq.out rfl Dr ?_;rintro e_ w6 ⟨A6, c6, rfl, hown_, hb_⟩;refine ⟨_, rfl, ?_⟩;replace hh := hh.a9 (x := .row _ _ _ _ _ _) hb_ hown_;refine bB hh (er _ _ _ (aR 2 (bN m)) _ (hh.aD (i := 0) rfl) (ie _) (hh.dy (i := 0) rfl) Dq) rfl ?_;intro w7 hh;rw [fN];refine aS (aa (sr (bG ?_)));refine bI hh 2 ?_;refine mB ?_;first | refine gS ?_ | (refine gT ?_; refine mS ?_) | refine gV ?_
   first | refine gS ?_ | (refine gT ?_; (first | refine fG rfl rfl (by first | rfl | assumption | decide) Dr ?_ | refine fF rfl rfl (by first | assumption | decide) Dr ?_)) | refine gV ?_
   first | refine cW ?_ | refine cX ?_
   refine mS ?_;refine eX [_,_] ?_;refine bD hh 1 [_,_] ?_;intro ws hh;replace hh : Hp _ (_ :: .blk _ _ [_, _] _ :: _) _ := hh;refine aa (al ?_);refine ik (aN rfl (aO (vs := [_, _]) aC.out (hh.aw (i := 1) (n := 2) rfl rfl) rfl) a7) ?_;have h1 : bN m ≠ 0 := fun h => h0 (by rw [h, gN]);rw [decide_eq_true h1];exact ⟨rfl, hh.below⟩
theorem il (s : Bool) (m : ByteArray) (w : World) (hm : m.size ≤ 1000000000) :
  Calls Tryz.prog 212 #[.agg #[.bool s, .string m]] w fun e w' => e = .returned (.int .i64 (iv s m).sign) ∧ Below w.heap.size w w' := by
 have hh := Hp.start w;by_cases h0 : bN m = 0
 ·have hb : bz (bN m) = 0 := kt.2 h0;refine aj (N := 9) (l := [.agg #[.bool s, .string m]]) Tryz.func212 rfl rfl (by simp) ?_;refine sr ?_;refine dp hh [_,_] ?_;intro b1 w1 hh;refine aI (aa (ah (sr (bG ?_))));refine bI hh 0 ?_;refine bB hh (kE m _ hm) rfl ?_;intro w5 hh;refine cu (aa (cT (sr (aI (aa (al (aH ?_)))))));refine cA ?_;have hz : iv s m = 0 := by unfold iv; split <;> omega
  exact ⟨by rw [hz]; rfl, hh.below⟩
 ·have hb : bz (bN m) ≠ 0 := fun h => h0 (kt.1 h)
  cases s with
  | true =>
   refine aj (N := 9) (l := [.agg #[.bool true, .string m]]) Tryz.func212 rfl rfl (by simp) ?_;refine sr ?_;refine dp hh [_,_] ?_;intro b1 w1 hh;refine aI (aa (ah (sr (bG ?_))));refine bI hh 0 ?_;refine bB hh (kE m _ hm) rfl ?_;intro w5 hh;refine cu (aa (cF (ak (ai (ah (sr (bG ?_)))))));refine bI hh 0 ?_;refine aa (cT (sr (aI (aa (al (aH ?_))))));refine cA ?_;have hz : iv true m < 0 := by unfold iv; rw [if_pos rfl]; omega
   exact ⟨by rw [Int.sign_eq_neg_one_of_neg hz], hh.below⟩
  | false =>
   refine aj (N := 9) (l := [.agg #[.bool false, .string m]]) Tryz.func212 rfl rfl (by simp) ?_;refine sr ?_;refine dp hh [_,_] ?_;intro b1 w1 hh;refine aI (aa (ah (sr (bG ?_))));refine bI hh 0 ?_;refine bB hh (kE m _ hm) rfl ?_;intro w5 hh;refine cu (aa (cF (ak (ai (ah (sr (bG ?_)))))));refine bI hh 0 ?_;refine aa (cF (ak (ai (sr (aI (aa (al ?_)))))));refine cA ?_;have hz : 0 < iv false m := by unfold iv; rw [if_neg (by simp)]; omega
   exact ⟨by rw [Int.sign_eq_one_of_pos hz], hh.below⟩
theorem mA (n : Int) (w : World) (h1 : -9223372036854775808 ≤ n) (h2 : n ≤ 9223372036854775807) :
  Calls Tryz.prog 170 #[.int .i64 n] w fun e w' => e = .returned (.agg #[.bool (iN n), .string (iM n)]) ∧ Below w.heap.size w w' := by
 have hh := Hp.start w;by_cases h0 : n < 0
 ·have hn : iN n = true := decide_eq_true h0;obtain ⟨m, hm⟩ := Int.eq_ofNat_of_zero_le (by omega : 0 ≤ -(n + 1));have ha : n.natAbs = m + 1 := Dq;have hw : (m + 1) % 18446744073709551616 = m + 1 := Nat.mod_eq_of_lt Dq;refine aj (N := 16) (l := [.int .i64 n]) Tryz.func170 rfl rfl (by simp) ?_;refine sr ?_;refine cj hh ?_;intro b2 w2 hh;refine aa (ah (sr (mI ?_)));refine a3 (aa (cT (sr (mI ?_))));refine bO ?_;refine mD rfl Dq Dq Dr ?_;rw [show -(n + 1) = (m : Int) from hm];first | refine di aF.out aF.out rfl (by first | assumption | omega) Dr ?_ | refine eY aF.out aF.out rfl Dr ?_
  refine fM (b := 1) rfl rfl Dr ?_;rw [hw];refine bB hh (p5 (m + 1) _ Dq) rfl ?_;intro w10 hh;rw [← ha];refine eX [_,_] ?_;refine bD hh 0 [_,_] ?_;intro ws hh;replace hh : Hp _ (.blk _ _ [_, _] _ :: _) _ := hh;refine aa (al (aH ?_));refine ik (aN rfl (aO (vs := [_, _]) aC.out (hh.aw (i := 0) (n := 2) rfl rfl) rfl) a7) ?_;rw [hn];exact ⟨rfl, hh.below⟩
 ·obtain ⟨m, rfl⟩ := Int.eq_ofNat_of_zero_le (by omega : 0 ≤ n);have hn : iN (m : Int) = false := decide_eq_false Dq;have hm : m < 18446744073709551616 := Dq;have e1 : iM (m : Int) = sN m := rfl;refine aj (N := 16) (l := [.int .i64 (m : Int)]) Tryz.func170 rfl rfl (by simp) ?_;refine sr ?_;refine cj hh ?_;intro b2 w2 hh;refine aa (ah (sr (mI ?_)));refine a3 (aa (cF (ak (ai (sr (mI ?_))))));first | refine di aF.out aF.out rfl (by first | assumption | omega) Dr ?_ | refine eY aF.out aF.out rfl Dr ?_
  refine bB hh (p5 m _ hm) rfl ?_;intro w14 hh;refine eX [_,_] ?_;refine bD hh 0 [_,_] ?_;intro ws hh;replace hh : Hp _ (.blk _ _ [_, _] _ :: _) _ := hh;refine aa (al ?_);refine ik (aN rfl (aO (vs := [_, _]) aC.out (hh.aw (i := 0) (n := 2) rfl rfl) rfl) a7) ?_;rw [hn, e1];exact ⟨rfl, hh.below⟩
theorem nm (s t : Bool) (a b : ByteArray) (w : World) (ha : a.size ≤ 100000000) (hb : b.size ≤ 100000000) :
  Calls Tryz.prog 182 #[.agg #[.bool s, .string a], .agg #[.bool t, .string b]] w fun e w' => e = .returned (.agg #[.bool (iN (iv s a + iv t b)), .string (iM (iv s a + iv t b))]) ∧ Below w.heap.size w w' := by
 have hh := Hp.start w;have hba := fq a;have hbb := fq b;by_cases hst : s = t
 ·subst hst;have e1 : iv s (sN (bN a + bN b)) = iv s a + iv s b := by unfold iv; rw [ew]; split <;> omega
  have hsz : (sN (bN a + bN b)).size ≤ 1000000000 := by rw [ix]; have := xU (bN a) (bN b); omega
  rw [← e1];refine aj (N := 49) (l := [.agg #[.bool s, .string a], .agg #[.bool s, .string b]]) Tryz.func182 rfl rfl (by simp) ?_;refine sr ?_;refine dp hh [_,_] ?_;intro b2 w2 hh;refine dp hh [_,_] ?_;intro b3 w3 hh;refine cj hh ?_;intro b4 w4 hh;refine aa (ah (sr (bG ?_)));refine bI hh 2 ?_;refine bG ?_;refine bI hh 1 ?_;first | refine jY aF.out rfl rfl (by first | rfl | assumption) Dr ?_ | refine jX aF.out rfl rfl (by first | rfl | assumption | decide) Dr ?_ | refine s_eql_bool aF.out rfl rfl Dr ?_
  refine aa (cT (ah ?_));refine bg 8 [[(2, none)], [(12, some 0)], [(2, none)], [(14, some 2)], [(3, none)], [(16, some 4)], [(15, some 3), (17, some 5)], [(18, some 6)]] [(7, 19), (6, 18), (5, 17), (4, 16), (3, 15), (2, 14), (1, 13), (0, 12)] hh mixed Dt ?_;refine dX ?_;refine fT 2 ?_;refine dX ?_;refine fT 2 ?_;refine dX ?_;refine fT 1 ?_;refine tF [_,_] ?_;refine bj (i := 7) (Is (.string (sN (bN a + bN b)))) Is.ext ?_ ?_
  ·intro ρ1 w1 hj hR;obtain ⟨A18, c18, h18, s18⟩ := hR.1;exact bJ rfl (aW aq.out (ay h18 a0)) (ur A18 2 c18 [a, b] _ s18 Dq (by simp; omega)) (fun _ _ hq => ⟨_, hq.1, hq.2, rfl⟩)
  refine bq ?_;intro f W hJ hV;have hb_2 := hJ.bl;obtain ⟨v19, v18, v17, v16, v15, v14, v13, v12, _⟩ := hV;obtain ⟨A18, c18, e18, f18⟩ : Rows _ _ _ (f 6) W := v18;replace hh := hJ.hp;refine a6 (bk (ae v19 (ae e18 (ae v17 (ae v16 (ae v15 (ae v14 (ae v13 (ae v12 a5))))))))) ?_;dsimp only [cJ];clear e18 hJ;refine eX [_,_] ?_;refine bB hh (du s (sN (bN a + bN b)) _ hsz) rfl ?_;intro w21 hh;refine bD hh 0 [_,_] ?_;intro ws hh;replace hh : Hp _ (.blk _ _ [_, _] _ :: _) _ := hh;refine aa (al (aH ?_));refine ik (aN rfl (aO (vs := [_, _]) aC.out (hh.aw (i := 0) (n := 2) rfl rfl) rfl) a7) ?_;exact ⟨rfl, hh.below⟩
 ·by_cases hle : bN b ≤ bN a
  ·have e1 : iv s (sN (bN a - bN b)) = iv s a + iv t b := by unfold iv; rw [ew]; cases s <;> cases t <;> simp at hst ⊢ <;> omega
   have hsz : (sN (bN a - bN b)).size ≤ 1000000000 := by rw [ix]; have := ki (show bN a - bN b ≤ bN a by omega); omega
   rw [← e1];refine aj (N := 49) (l := [.agg #[.bool s, .string a], .agg #[.bool t, .string b]]) Tryz.func182 rfl rfl (by simp) ?_;refine sr ?_;refine dp hh [_,_] ?_;intro b2 w2 hh;refine dp hh [_,_] ?_;intro b3 w3 hh;refine cj hh ?_;intro b4 w4 hh;refine aa (ah (sr (bG ?_)));refine bI hh 2 ?_;refine bG ?_;refine bI hh 1 ?_;first | refine jY aF.out rfl rfl (by first | rfl | assumption) Dr ?_ | refine jX aF.out rfl rfl (by first | rfl | assumption | decide) Dr ?_ | refine s_eql_bool aF.out rfl rfl Dr ?_
   refine aa (cF (ak (ai (sr (bG ?_)))));refine bI hh 2 ?_;refine bG ?_;refine bI hh 1 ?_;refine bB hh (kM a b _ Dq Dq) rfl ?_;intro w27 hh;rw [decide_eq_true hle];refine mT ?_;refine da ?_;refine da ?_;refine aS (aB (aa (ah (sr (mB (aa (cT (sr (bG ?_)))))))));refine bI hh 2 ?_;refine mS ?_;refine eX [_,_] ?_;refine bB hh (du s (sN (bN a - bN b)) _ hsz) rfl ?_;intro w35 hh;refine bD hh 0 [_,_] ?_;intro ws hh;replace hh : Hp _ (.blk _ _ [_, _] _ :: _) _ := hh;refine aa (al (aH ?_));refine ik (aN rfl (aO (vs := [_, _]) aC.out (hh.aw (i := 0) (n := 2) rfl rfl) rfl) a7) ?_;exact ⟨rfl, hh.below⟩
  ·have e1 : iv t (sN (bN b - bN a)) = iv s a + iv t b := by unfold iv; rw [ew]; cases s <;> cases t <;> simp at hst ⊢ <;> omega
   have hsz : (sN (bN b - bN a)).size ≤ 1000000000 := by rw [ix]; have := ki (show bN b - bN a ≤ bN b by omega); omega
   rw [← e1];refine aj (N := 49) (l := [.agg #[.bool s, .string a], .agg #[.bool t, .string b]]) Tryz.func182 rfl rfl (by simp) ?_;refine sr ?_;refine dp hh [_,_] ?_;intro b2 w2 hh;refine dp hh [_,_] ?_;intro b3 w3 hh;refine cj hh ?_;intro b4 w4 hh;refine aa (ah (sr (bG ?_)));refine bI hh 2 ?_;refine bG ?_;refine bI hh 1 ?_;first | refine jY aF.out rfl rfl (by first | rfl | assumption) Dr ?_ | refine jX aF.out rfl rfl (by first | rfl | assumption | decide) Dr ?_ | refine s_eql_bool aF.out rfl rfl Dr ?_
   refine aa (cF (ak (ai (sr (bG ?_)))));refine bI hh 2 ?_;refine bG ?_;refine bI hh 1 ?_;refine bB hh (kM a b _ Dq Dq) rfl ?_;intro w27 hh;rw [decide_eq_false hle];refine mT ?_;refine da ?_;refine da ?_;refine aS (aB (aa (ah (sr (mB (aa (cF (ak (ai (sr (bG ?_)))))))))));refine bI hh 1 ?_;refine bG ?_;refine bI hh 2 ?_;refine bB hh (kM b a _ Dq Dq) rfl ?_;intro w41 hh;refine mT ?_;refine da ?_;refine da ?_;refine aS (aa (sr (bG ?_)));refine bI hh 1 ?_;refine mS ?_;refine eX [_,_] ?_;refine bB hh (du t (sN (bN b - bN a)) _ hsz) rfl ?_;intro w48 hh;refine bD hh 0 [_,_] ?_;intro ws hh;replace hh : Hp _ (.blk _ _ [_, _] _ :: _) _ := hh;refine aa (al ?_);refine ik (aN rfl (aO (vs := [_, _]) aC.out (hh.aw (i := 0) (n := 2) rfl rfl) rfl) a7) ?_;exact ⟨rfl, hh.below⟩
theorem kN (z : Int) (B : Nat) (q r : Int) (h : r + B * q = z) (h0 : 0 ≤ r) (h1 : r < B) : z / B = q ∧ z % B = r :=
 (Int.ediv_emod_unique Dq).2 ⟨h, h0, h1⟩
theorem tZ (s : Bool) (a b : ByteArray) (w : World) (ha : a.size ≤ 10000000) (hb : b.size ≤ 10000000) (hb0 : bN b ≠ 0) :
  Calls Tryz.prog 210 #[.agg #[.bool s, .string a], .agg #[.bool false, .string b]] w fun e w' => e = .returned (.tuple #[.agg #[.bool (iN (iv s a / bN b)), .string (iM (iv s a / bN b))], .agg #[.bool (iN (iv s a % bN b)), .string (iM (iv s a % bN b))], .bool true]) ∧ Below w.heap.size w w' := by
 have hh := Hp.start w;have hba := fq a;have hbb := fq b;have hmod : bN a % bN b < bN b := Nat.mod_lt _ Dq;have hdm : bN b * (bN a / bN b) + bN a % bN b = bN a := Nat.div_add_mod _ _;have hdm' : (bN b : Int) * ((bN a / bN b : Nat) : Int) + ((bN a % bN b : Nat) : Int) = (bN a : Int) := by rw [← Int.natCast_mul, ← Int.natCast_add, hdm]
 have hqs : (sN (bN a / bN b)).size ≤ 10000000 := by rw [ix]; have := ki (Nat.div_le_self (bN a) (bN b)); omega
 have hrs : (sN (bN a % bN b)).size ≤ 10000000 := by rw [ix]; have := ki (show bN a % bN b ≤ bN b by omega); omega
 have hqz : ∀ u, (iM (iv u (sN (bN a / bN b)))).size ≤ 10000000 := fun u => by rw [vv, ew]; exact hqs
 have hrz : ∀ u, (iM (iv u (sN (bN a % bN b)))).size ≤ 10000000 := fun u => by rw [vv, ew]; exact hrs
 by_cases hneg : s = true ∧ bN a % bN b ≠ 0
 ·obtain ⟨rfl, hne⟩ := hneg;have e1 : iv true (sN (bN a / bN b)) = -((bN a / bN b : Nat) : Int) := by unfold iv; rw [ew, if_pos rfl]
  have e2 : iv true (sN (bN a % bN b)) = -((bN a % bN b : Nat) : Int) := by unfold iv; rw [ew, if_pos rfl]
  have hlt : (iv true (sN (bN a % bN b))).sign < 0 := by rw [e2, Int.sign_eq_neg_one_of_neg Dq]; omega
  have e3 : iv true a = -(bN a : Int) := by unfold iv; rw [if_pos rfl]
  obtain ⟨q1, q2⟩ := kN (iv true a) (bN b) (-((bN a / bN b : Nat) : Int) + -1) ((bN b : Int) - ((bN a % bN b : Nat) : Int)) (by rw [e3, ← hdm', Int.mul_add, Int.mul_neg]; omega) Dq Dq;have e4 : iv false b = (bN b : Int) := by unfold iv; rw [if_neg (by simp)]
  have hp2 : (bN b : Int).sign = 1 := Int.sign_eq_one_of_pos Dq;refine aj (N := 57) (l := [.agg #[.bool true, .string a], .agg #[.bool false, .string b]]) Tryz.func210 rfl rfl (by simp) ?_;refine sr ?_;refine dp hh [_,_] ?_;intro b2 w2 hh;refine dp hh [_,_] ?_;intro b3 w3 hh;refine cj hh ?_;intro b4 w4 hh;refine cj hh ?_;intro b5 w5 hh;refine aB (aa (sr (bG ?_)));refine bI hh 3 ?_;refine bG ?_;refine bI hh 2 ?_;refine bB hh (kA a b _ Dq Dq hb0) rfl ?_;intro w18 hh;refine mT ?_;refine da ?_;refine da ?_;refine da ?_;refine aS (aS (aB (aa (ah (sr (mB ?_))))));refine gd ?_;refine aa (cF (ak (ai (sr (bG ?_)))));refine bI hh 3 ?_;refine bG ?_;refine bI hh 2 ?_;first | refine rS aF.out rfl rfl (by first | rfl | assumption) Dr ?_ | refine rb aF.out rfl rfl (by first | assumption | decide) Dr ?_ | refine s_neq_bool aF.out rfl rfl Dr ?_
  refine mS ?_;refine eX [_,_] ?_;refine bB hh (du true (sN (bN a / bN b)) _ Dq) rfl ?_;intro w33 hh;refine cj hh ?_;intro b10 w10 hh;refine bD hh 0 [_,_] ?_;intro ws hh;replace hh : Hp _ (.blk _ _ [_, _] _ :: _) _ := hh;refine aa (sr (bG ?_));refine bI hh 4 ?_;refine mS ?_;refine eX [_,_] ?_;refine bB hh (du true (sN (bN a % bN b)) _ Dq) rfl ?_;intro w38 hh;refine cj hh ?_;intro b11 w11 hh;refine bD hh 0 [_,_] ?_;intro ws hh;replace hh : Hp _ (.blk _ _ [_, _] _ :: _) _ := hh;refine aa (ah (sr ?_));refine cU hh 0 [_,_] ?_;refine bB hh (il (iN (iv true (sN (bN a % bN b)))) (iM (iv true (sN (bN a % bN b)))) _ (by have := hrz true; omega)) rfl ?_;intro w40 hh;rw [fE];refine a3 (aa (cT (sr ?_)));refine cU hh 0 [_,_] (bG ?_);refine bI hh 4 ?_;refine eX [_,_] ?_;refine bB hh (nm (iN (iv true (sN (bN a % bN b)))) false (iM (iv true (sN (bN a % bN b)))) b _ (by have := hrz true; omega) Dq) rfl ?_;intro w46 hh;rw [fE, e2, e4, show -((bN a % bN b : Nat) : Int) + (bN b : Int) = (bN b : Int) - ((bN a % bN b : Nat) : Int) by omega, ← q2];refine bD hh 0 [_,_] ?_;intro ws hh;replace hh : Hp _ (.blk _ _ [_, _] _ :: _) _ := hh;refine aa (sr ?_);refine bB hh (mA (-1) _ Dq Dq) rfl ?_;intro w47 hh
  refine cj hh ?_;intro b12 w12 hh;refine bD hh 0 [_,_] ?_;intro ws hh;replace hh : Hp _ (.blk _ _ [_, _] _ :: _) _ := hh;refine aa (ah (sr ?_));refine cU hh 5 [_,_] ?_;refine bB hh (il false b _ Dq) rfl ?_;intro w49 hh;rw [e4, hp2];refine a3 (aa (cF (ak (ai (ar ?_)))));refine cU hh 2 [_,_] ?_;refine cU hh 0 [_,_] ?_;refine bB hh (nm (iN (iv true (sN (bN a / bN b)))) (iN (-1)) (iM (iv true (sN (bN a / bN b)))) (iM (-1)) _ (by have := hqz true; omega) Dr) rfl ?_;intro w54 hh;rw [fE, fE, e1, ← q1];refine bD hh 2 [_,_] ?_;intro ws hh;replace hh : Hp _ (_ :: _ :: .blk _ _ [_, _] _ :: _) _ := hh;refine aa (ah ?_);refine jh hh mixed fun w_ hj_ => ?_;replace hh := hj_.hp;clear hj_;refine kC (i := 0) (i2 := 1) Dt rfl rfl ?_ ?_
  ·refine cU hh 2 [_,_] ?_;refine cH ?_;refine kC (i := 1) (i2 := 2) Dt rfl rfl ?_ ?_
   ·refine cU hh 1 [_,_] ?_;refine cH ?_;refine dt (i := 2) Dt rfl ?_;refine bD hh 4 [_,_] ?_;intro ws hh;replace hh : Hp _ (_ :: _ :: _ :: _ :: .blk _ _ [_, _] _ :: _) _ := hh;refine cH ?_;refine dT 3 Dr Dt Dr Dt Dt ?_;refine bD hh 3 [_,_] ?_;intro ws hh;replace hh : Hp _ (_ :: _ :: _ :: .blk _ _ [_, _] _ :: _) _ := hh;refine aB (aa (al ?_));refine y8 (aN rfl (aO (vs := [_, _]) aC.out (hh.aw (i := 4) (n := 2) rfl rfl) rfl) (aN rfl (aO (vs := [_, _]) aC.out (hh.aw (i := 3) (n := 2) rfl rfl) rfl) (cf (fw rfl) a7))) ?_;exact ⟨rfl, hh.below⟩
   ·refine bD hh 4 [_,_] ?_;intro ws hh;replace hh : Hp _ (_ :: _ :: _ :: _ :: .blk _ _ [_, _] _ :: _) _ := hh;refine cH ?_;refine dt (i := 1) Dt rfl ?_;refine cU hh 1 [_,_] ?_;refine cH ?_;refine dT 3 Dr Dt Dr Dt Dt ?_;refine bD hh 3 [_,_] ?_;intro ws hh;replace hh : Hp _ (_ :: _ :: _ :: .blk _ _ [_, _] _ :: _) _ := hh;refine aB (aa (al ?_));refine y8 (aN rfl (aO (vs := [_, _]) aC.out (hh.aw (i := 4) (n := 2) rfl rfl) rfl) (aN rfl (aO (vs := [_, _]) aC.out (hh.aw (i := 3) (n := 2) rfl rfl) rfl) (cf (fw rfl) a7))) ?_;exact ⟨rfl, hh.below⟩
  ·refine cU hh 1 [_,_] ?_;refine cH ?_;refine dt (i := 0) Dt rfl ?_;refine cU hh 2 [_,_] ?_;refine cH ?_;refine dt (i := 2) Dt rfl ?_;refine bD hh 4 [_,_] ?_;intro ws hh;replace hh : Hp _ (_ :: _ :: _ :: _ :: .blk _ _ [_, _] _ :: _) _ := hh;refine cH ?_;refine dT 3 Dr Dt Dr Dt Dt ?_;refine bD hh 3 [_,_] ?_;intro ws hh;replace hh : Hp _ (_ :: _ :: _ :: .blk _ _ [_, _] _ :: _) _ := hh;refine aB (aa (al ?_));refine y8 (aN rfl (aO (vs := [_, _]) aC.out (hh.aw (i := 4) (n := 2) rfl rfl) rfl) (aN rfl (aO (vs := [_, _]) aC.out (hh.aw (i := 3) (n := 2) rfl rfl) rfl) (cf (fw rfl) a7))) ?_;exact ⟨rfl, hh.below⟩
 ·have e4 : iv s a / bN b = iv s (sN (bN a / bN b)) ∧ iv s a % bN b = iv s (sN (bN a % bN b)) := by
   cases s with
   | false =>
    have f0 : ∀ x, iv false x = (bN x : Int) := fun x => by unfold iv; rw [if_neg (by simp)]
    rw [f0, f0, f0, ew, ew];exact kN _ _ _ _ Dq Dq Dq
   | true =>
    have r0 : bN a % bN b = 0 := by
     rcases Nat.eq_zero_or_pos (bN a % bN b) with h | h
     ·exact h
     ·exact absurd ⟨rfl, Dq⟩ hneg
    have f0 : ∀ x, iv true x = -(bN x : Int) := fun x => by unfold iv; rw [if_pos rfl]
    rw [f0, f0, f0, ew, ew, r0];rw [r0] at hdm';exact kN _ _ _ _ (by rw [Int.mul_neg]; omega) Dq Dq
  have h5 : ¬ (iv s (sN (bN a % bN b))).sign < 0 := by
   have h6 : 0 ≤ iv s (sN (bN a % bN b)) := by rw [← e4.2]; exact Int.emod_nonneg _ Dq
   have := Int.sign_nonneg_iff.2 h6;omega
  rw [e4.1, e4.2]
  cases s with
  | false =>
   refine aj (N := 57) (l := [.agg #[.bool false, .string a], .agg #[.bool false, .string b]]) Tryz.func210 rfl rfl (by simp) ?_;refine sr ?_;refine dp hh [_,_] ?_;intro b2 w2 hh;refine dp hh [_,_] ?_;intro b3 w3 hh;refine cj hh ?_;intro b4 w4 hh;refine cj hh ?_;intro b5 w5 hh;refine aB (aa (sr (bG ?_)));refine bI hh 3 ?_;refine bG ?_;refine bI hh 2 ?_;refine bB hh (kA a b _ Dq Dq hb0) rfl ?_;intro w18 hh;refine mT ?_;refine da ?_;refine da ?_;refine da ?_;refine aS (aS (aB (aa (ah (sr (mB ?_))))));refine gd ?_;refine aa (cF (ak (ai (sr (bG ?_)))));refine bI hh 3 ?_;refine bG ?_;refine bI hh 2 ?_;first | refine rS aF.out rfl rfl (by first | rfl | assumption) Dr ?_ | refine rb aF.out rfl rfl (by first | assumption | decide) Dr ?_ | refine s_neq_bool aF.out rfl rfl Dr ?_
   refine mS ?_;refine eX [_,_] ?_;refine bB hh (du false (sN (bN a / bN b)) _ Dq) rfl ?_;intro w33 hh;refine cj hh ?_;intro b10 w10 hh;refine bD hh 0 [_,_] ?_;intro ws hh;replace hh : Hp _ (.blk _ _ [_, _] _ :: _) _ := hh;refine aa (sr (bG ?_));refine bI hh 4 ?_;refine mS ?_;refine eX [_,_] ?_;refine bB hh (du false (sN (bN a % bN b)) _ Dq) rfl ?_;intro w38 hh;refine cj hh ?_;intro b11 w11 hh;refine bD hh 0 [_,_] ?_;intro ws hh;replace hh : Hp _ (.blk _ _ [_, _] _ :: _) _ := hh;refine aa (ah (sr ?_));refine cU hh 0 [_,_] ?_;refine bB hh (il (iN (iv false (sN (bN a % bN b)))) (iM (iv false (sN (bN a % bN b)))) _ (by have := hrz false; omega)) rfl ?_;intro w40 hh;rw [fE];refine a3 (aa (cF (ak (ai (ah ?_)))));refine jh hh mixed fun w_ hj_ => ?_;replace hh := hj_.hp;clear hj_;refine kC (i := 0) (i2 := 1) Dt rfl rfl ?_ ?_
   ·refine cU hh 1 [_,_] ?_;refine cH ?_;refine kC (i := 1) (i2 := 2) Dt rfl rfl ?_ ?_
    ·refine cU hh 0 [_,_] ?_;refine cH ?_;refine dt (i := 2) Dt rfl ?_;refine bD hh 3 [_,_] ?_;intro ws hh;replace hh : Hp _ (_ :: _ :: _ :: .blk _ _ [_, _] _ :: _) _ := hh;refine cH ?_;refine dT 3 Dr Dt Dr Dt Dt ?_;refine bD hh 2 [_,_] ?_;intro ws hh;replace hh : Hp _ (_ :: _ :: .blk _ _ [_, _] _ :: _) _ := hh;refine aB (aa (al ?_));refine y8 (aN rfl (aO (vs := [_, _]) aC.out (hh.aw (i := 3) (n := 2) rfl rfl) rfl) (aN rfl (aO (vs := [_, _]) aC.out (hh.aw (i := 2) (n := 2) rfl rfl) rfl) (cf (fw rfl) a7))) ?_;exact ⟨rfl, hh.below⟩
    ·refine bD hh 3 [_,_] ?_;intro ws hh;replace hh : Hp _ (_ :: _ :: _ :: .blk _ _ [_, _] _ :: _) _ := hh;refine cH ?_;refine dt (i := 1) Dt rfl ?_;refine cU hh 0 [_,_] ?_;refine cH ?_;refine dT 3 Dr Dt Dr Dt Dt ?_;refine bD hh 2 [_,_] ?_;intro ws hh;replace hh : Hp _ (_ :: _ :: .blk _ _ [_, _] _ :: _) _ := hh;refine aB (aa (al ?_));refine y8 (aN rfl (aO (vs := [_, _]) aC.out (hh.aw (i := 3) (n := 2) rfl rfl) rfl) (aN rfl (aO (vs := [_, _]) aC.out (hh.aw (i := 2) (n := 2) rfl rfl) rfl) (cf (fw rfl) a7))) ?_;exact ⟨rfl, hh.below⟩
   ·refine cU hh 0 [_,_] ?_;refine cH ?_;refine dt (i := 0) Dt rfl ?_;refine cU hh 1 [_,_] ?_;refine cH ?_;refine dt (i := 2) Dt rfl ?_;refine bD hh 3 [_,_] ?_;intro ws hh;replace hh : Hp _ (_ :: _ :: _ :: .blk _ _ [_, _] _ :: _) _ := hh;refine cH ?_;refine dT 3 Dr Dt Dr Dt Dt ?_;refine bD hh 2 [_,_] ?_;intro ws hh;replace hh : Hp _ (_ :: _ :: .blk _ _ [_, _] _ :: _) _ := hh;refine aB (aa (al ?_));refine y8 (aN rfl (aO (vs := [_, _]) aC.out (hh.aw (i := 3) (n := 2) rfl rfl) rfl) (aN rfl (aO (vs := [_, _]) aC.out (hh.aw (i := 2) (n := 2) rfl rfl) rfl) (cf (fw rfl) a7))) ?_;exact ⟨rfl, hh.below⟩
  | true =>
   refine aj (N := 57) (l := [.agg #[.bool true, .string a], .agg #[.bool false, .string b]]) Tryz.func210 rfl rfl (by simp) ?_;refine sr ?_;refine dp hh [_,_] ?_;intro b2 w2 hh;refine dp hh [_,_] ?_;intro b3 w3 hh;refine cj hh ?_;intro b4 w4 hh;refine cj hh ?_;intro b5 w5 hh;refine aB (aa (sr (bG ?_)));refine bI hh 3 ?_;refine bG ?_;refine bI hh 2 ?_;refine bB hh (kA a b _ Dq Dq hb0) rfl ?_;intro w18 hh;refine mT ?_;refine da ?_;refine da ?_;refine da ?_;refine aS (aS (aB (aa (ah (sr (mB ?_))))));refine gd ?_;refine aa (cF (ak (ai (sr (bG ?_)))));refine bI hh 3 ?_;refine bG ?_;refine bI hh 2 ?_;first | refine rS aF.out rfl rfl (by first | rfl | assumption) Dr ?_ | refine rb aF.out rfl rfl (by first | assumption | decide) Dr ?_ | refine s_neq_bool aF.out rfl rfl Dr ?_
   refine mS ?_;refine eX [_,_] ?_;refine bB hh (du true (sN (bN a / bN b)) _ Dq) rfl ?_;intro w33 hh;refine cj hh ?_;intro b10 w10 hh;refine bD hh 0 [_,_] ?_;intro ws hh;replace hh : Hp _ (.blk _ _ [_, _] _ :: _) _ := hh;refine aa (sr (bG ?_));refine bI hh 4 ?_;refine mS ?_;refine eX [_,_] ?_;refine bB hh (du true (sN (bN a % bN b)) _ Dq) rfl ?_;intro w38 hh;refine cj hh ?_;intro b11 w11 hh;refine bD hh 0 [_,_] ?_;intro ws hh;replace hh : Hp _ (.blk _ _ [_, _] _ :: _) _ := hh;refine aa (ah (sr ?_));refine cU hh 0 [_,_] ?_;refine bB hh (il (iN (iv true (sN (bN a % bN b)))) (iM (iv true (sN (bN a % bN b)))) _ (by have := hrz true; omega)) rfl ?_;intro w40 hh;rw [fE];refine a3 (aa (cF (ak (ai (ah ?_)))));refine jh hh mixed fun w_ hj_ => ?_;replace hh := hj_.hp;clear hj_;refine kC (i := 0) (i2 := 1) Dt rfl rfl ?_ ?_
   ·refine cU hh 1 [_,_] ?_;refine cH ?_;refine kC (i := 1) (i2 := 2) Dt rfl rfl ?_ ?_
    ·refine cU hh 0 [_,_] ?_;refine cH ?_;refine dt (i := 2) Dt rfl ?_;refine bD hh 3 [_,_] ?_;intro ws hh;replace hh : Hp _ (_ :: _ :: _ :: .blk _ _ [_, _] _ :: _) _ := hh;refine cH ?_;refine dT 3 Dr Dt Dr Dt Dt ?_;refine bD hh 2 [_,_] ?_;intro ws hh;replace hh : Hp _ (_ :: _ :: .blk _ _ [_, _] _ :: _) _ := hh;refine aB (aa (al ?_));refine y8 (aN rfl (aO (vs := [_, _]) aC.out (hh.aw (i := 3) (n := 2) rfl rfl) rfl) (aN rfl (aO (vs := [_, _]) aC.out (hh.aw (i := 2) (n := 2) rfl rfl) rfl) (cf (fw rfl) a7))) ?_;exact ⟨rfl, hh.below⟩
    ·refine bD hh 3 [_,_] ?_;intro ws hh;replace hh : Hp _ (_ :: _ :: _ :: .blk _ _ [_, _] _ :: _) _ := hh;refine cH ?_;refine dt (i := 1) Dt rfl ?_;refine cU hh 0 [_,_] ?_;refine cH ?_;refine dT 3 Dr Dt Dr Dt Dt ?_;refine bD hh 2 [_,_] ?_;intro ws hh;replace hh : Hp _ (_ :: _ :: .blk _ _ [_, _] _ :: _) _ := hh;refine aB (aa (al ?_));refine y8 (aN rfl (aO (vs := [_, _]) aC.out (hh.aw (i := 3) (n := 2) rfl rfl) rfl) (aN rfl (aO (vs := [_, _]) aC.out (hh.aw (i := 2) (n := 2) rfl rfl) rfl) (cf (fw rfl) a7))) ?_;exact ⟨rfl, hh.below⟩
   ·refine cU hh 0 [_,_] ?_;refine cH ?_;refine dt (i := 0) Dt rfl ?_;refine cU hh 1 [_,_] ?_;refine cH ?_;refine dt (i := 2) Dt rfl ?_;refine bD hh 3 [_,_] ?_;intro ws hh;replace hh : Hp _ (_ :: _ :: _ :: .blk _ _ [_, _] _ :: _) _ := hh;refine cH ?_;refine dT 3 Dr Dt Dr Dt Dt ?_;refine bD hh 2 [_,_] ?_;intro ws hh;replace hh : Hp _ (_ :: _ :: .blk _ _ [_, _] _ :: _) _ := hh;refine aB (aa (al ?_));refine y8 (aN rfl (aO (vs := [_, _]) aC.out (hh.aw (i := 3) (n := 2) rfl rfl) rfl) (aN rfl (aO (vs := [_, _]) aC.out (hh.aw (i := 2) (n := 2) rfl rfl) rfl) (cf (fw rfl) a7))) ?_;exact ⟨rfl, hh.below⟩
end Go.Proofs.YteeckcbbnegmcaaGreatDoor
/- Several texts in one: RDyA, RDyB, RDyC. -/
namespace Go.Proofs.YteeckcbbnegmcaaGreatDoor
open Go.RowKit
theorem vk {n : Nat} (h : n ≠ 0) : sb n = sb (n / 256) ++ [UInt8.ofNat (n % 256)] := by
 rw [sb, vX Dq h, List.map_cons, List.reverse_cons]
 rfl
theorem u3 {n : Nat} (h : n ≠ 0) : 1 ≤ (sN n).size ∧ ∃ c : UInt8, (sN n).data.toList[(((sN n).size : Int) - 1).toNat]? = some c ∧ c.toNat = n % 256 := by
 have hl : (sN n).data.toList = sb (n / 256) ++ [UInt8.ofNat (n % 256)] := by rw [sN, bC, vk h]
 have hs : (sN n).size = (sb (n / 256)).length + 1 := by rw [ca, hl, List.length_append]; rfl
 refine ⟨Dq, UInt8.ofNat (n % 256), ?_, ?_⟩
 ·rw [hl, hs, List.getElem?_append_right Dq];have : (((sb (n / 256)).length + 1 : Nat) - 1 : Int).toNat - (sb (n / 256)).length = 0 := Dq;rw [this]
  rfl
 ·simp
theorem Bj {n : Nat} (h : n ≠ 0) : (sN n).extract 0 ((sN n).size - 1) = sN (n / 256) := by
 have hl : (sN n).data = (sb (n / 256) ++ [UInt8.ofNat (n % 256)]).toArray := by rw [sN, ← vk h]; rfl
 have hs : (sN n).size = (sb (n / 256)).length + 1 := by rw [ca, hl, List.length_append]; rfl
 apply ByteArray.ext;rw [ByteArray.data_extract, hl, hs];show _ = (sb (n / 256)).toArray;simp
theorem Br {k : Int} (h : 0 < k) (y : Int) : iN (y * k) = iN y := by
 unfold iN;rw [decide_eq_decide];constructor
 ·intro h1
  rcases Int.lt_trichotomy y 0 with h2 | h2 | h2
  ·exact h2
  ·rw [h2] at h1; simp at h1
  ·have := Int.mul_pos h2 h; omega
 ·intro h1;exact Int.mul_neg_of_neg_of_pos h1 h
theorem BU {n : Nat} (h : n % 2 = 1) : tz n = 0 := by
 have := vG 0 (n / 2);rwa [show 2 ^ 0 * (2 * (n / 2) + 1) = n by omega] at this
theorem xM {y z e : Int} {j : Nat} (hy : y.natAbs % 2 = 1) (hz : y * 2 ^ j = z) : nR (Dyadic.ofIntWithPrec z (-e)) = ⟨iN y, iM y, e + j⟩ := by
 have h1 := mO (s := iN y) (a := iM y) (e := e + j) (by rw [fE]; omega);rw [fE, iM, ew, BU hy] at h1;have h2 := qL y (-(e + j)) j;rw [hz, show -(e + (j : Int)) + j = -e by omega] at h2;rw [h2, h1];simp
theorem nQ {y z : Int} {j m : Nat} (hy : y ≠ 0) (hz : y * 2 ^ j = z) (hm : z.natAbs < 2 ^ m) : j < m := by
 have h1 : z.natAbs = y.natAbs * 2 ^ j := by rw [← hz, Int.natAbs_mul, Int.natAbs_pow]; rfl
 have h2 : 1 * 2 ^ j ≤ y.natAbs * 2 ^ j := Nat.mul_le_mul_right _ Dq;have h3 : 2 ^ j < 2 ^ m := Dq;exact (Nat.pow_lt_pow_iff_right Dq).1 h3
theorem tj (s : Bool) (a : ByteArray) (e : Int) (w : World) (ha : a.size ≤ 10000000) (h1 : -1000000000000 ≤ e) (h2 : e ≤ 1000000000000) :
  Calls Tryz.prog 169 #[.agg #[.bool s, .string a], .int .i64 e] w fun r w' => r = .returned (.agg #[.bool (nR (Dyadic.ofIntWithPrec (iv s a) (-e))).neg, .string (nR (Dyadic.ofIntWithPrec (iv s a) (-e))).bM, .int .i64 (nR (Dyadic.ofIntWithPrec (iv s a) (-e))).e]) ∧ Below w.heap.size w w' := by
 have hh := Hp.start w;by_cases h0 : iv s a = 0
 ·have hm := nS.2 h0;rw [h0] at hm;refine aj (N := 50) (l := [.agg #[.bool s, .string a], .int .i64 e]) Tryz.func169 rfl rfl (by simp) ?_;refine sr ?_;refine dp hh [_,_] ?_;intro b2 w2 hh;refine cj hh ?_;intro b4 w4 hh;refine aa (sr ?_);refine cU hh 1 [_,_] ?_;refine bB hh (du s a _ Dq) rfl ?_;intro w6 hh;rw [h0];refine bD hh 1 [_,_] ?_;intro ws hh;replace hh : Hp _ (_ :: .blk _ _ [_, _] _ :: _) _ := hh;refine aa (ah (sr (bG ?_)));refine bI hh 1 ?_;first | refine eo rfl rfl (by first | rfl | assumption | decide) Dr ?_ | refine ez rfl rfl (by first | assumption | decide) Dr ?_
  refine aa (cT (sr ?_));refine eX [_,_,_] ?_;refine bD hh 0 [_,_,_] ?_;intro ws hh;replace hh : Hp _ (.blk _ _ [_, _, _] _ :: _) _ := hh;refine aa (al (aH ?_));refine ik (aN rfl (aO (vs := [_, _, _]) aC.out (hh.aw (i := 0) (n := 3) rfl rfl) rfl) a7) ?_;rw [lk, kX];exact ⟨rfl, hh.below⟩
 ·have hm : ¬ iM (iv s a) = ByteArray.mk #[] := fun h => h0 (nS.1 h);have hzb : (iv s a).natAbs < 2 ^ (8 * a.size) := by
   rw [ig, Nat.pow_mul];exact ql a
  refine aj (N := 50) (l := [.agg #[.bool s, .string a], .int .i64 e]) Tryz.func169 rfl rfl (by simp) ?_;refine sr ?_;refine dp hh [_,_] ?_;intro b2 w2 hh;refine cj hh ?_;intro b4 w4 hh;refine aa (sr ?_);refine cU hh 1 [_,_] ?_;refine bB hh (du s a _ Dq) rfl ?_;intro w6 hh;refine bD hh 1 [_,_] ?_;intro ws hh;replace hh : Hp _ (_ :: .blk _ _ [_, _] _ :: _) _ := hh;refine aa (ah (sr (bG ?_)));refine bI hh 1 ?_;first | refine eo rfl rfl (by first | rfl | assumption | decide) Dr ?_ | refine ez rfl rfl (by first | assumption | decide) Dr ?_
  refine aa (cF (ak (ai (ah (ao ?_)))));generalize hz : iv s a = z at *;refine bF [1, 11, 12, 13, 14, 15, 16, 17, 18, 19, 20, 21, 22, 23, 24, 25, 26, 27, 28] 1
   (fun v w' => ∃ (y : Int) (j : Nat), y ≠ 0 ∧ y * 2 ^ j = z ∧ v = .int .i64 (e + j) ∧ Hp w [.blk b4 65 [.bool false, .string (ByteArray.mk #[]), .int .i64 0] (0, 0), .blk b2 63 [.bool (iN y), .string (iM y)] (0, 0)] w')
   (fun v _ => (e + 8 * a.size + 1 - intOf v).toNat) ?_ ?_
  ·exact ⟨z, 0, h0, by simp, by show Value.int _ _ = Value.int _ _; congr 1; omega, hh⟩
  ·clear hh;rintro ρ' v w' ⟨y, j, hy, hyz, rfl, hh⟩;have hj := nQ hy hyz hzb;obtain ⟨hs1, c, hc, hcn⟩ := u3 (n := y.natAbs) Dq;have hcut := Bj (n := y.natAbs) Dq;have hsz : (sN y.natAbs).size ≤ 10000000 := by
    have h1 : z.natAbs = y.natAbs * 2 ^ j := by rw [← hyz, Int.natAbs_mul, Int.natAbs_pow]; rfl
    have h2 : y.natAbs * 1 ≤ y.natAbs * 2 ^ j := Nat.mul_le_mul_left _ (Nat.pow_pos Dq);have h3 : bz y.natAbs ≤ 8 * a.size := dm Dq;rw [ix];omega
   change (iM y).data.toList[(((iM y).size : Int) - 1).toNat]? = some c at hc
   change 1 ≤ (iM y).size at hs1
   change (iM y).extract 0 ((iM y).size - 1) = _ at hcut
   change (iM y).size ≤ _ at hsz
   by_cases hb : y.natAbs % 256 = 0
   ·obtain ⟨x, rfl⟩ : ∃ x, y = x * 256 := ⟨y / 256, Dq⟩;have hx : x ≠ 0 := fun h => hy (by rw [h]; rfl);have e1 : iN (x * 256) = iN x := Br Dq x;have e2 : sN ((x * 256).natAbs / 256) = iM x := by rw [iM]; congr 1; omega
    have hxz : x * 2 ^ (j + 8) = z := by rw [← hyz, Int.pow_add, Int.mul_assoc, Int.mul_comm (2 ^ j)]; rfl
    have hj2 := nQ hx hxz hzb;refine ah (sr (bG ?_));refine bI hh 1 ?_;refine bG ?_;refine bI hh 1 ?_;refine bs aF.out rfl Dr ?_;refine ek ?_;refine bu aF.out rfl rfl Dq (by assumption) Dr ?_;refine cu (aa (cT (ak (ai (ao (sr (bG ?_)))))));refine bI hh 1 ?_;refine bG ?_;refine bI hh 1 ?_;refine bs aF.out rfl Dr ?_;refine ek ?_;refine nj (l := 0) (h := ((iM (x * 256)).size - 1)) aF.out rfl rfl ⟨_, _, rfl, Dq⟩ Dq Dq Dr ?_;refine bG ?_;refine bD hh 1 [_] ?_;intro ws hh;replace hh : Hp _ (_ :: .blk _ _ [_, _] _ :: _) _ := hh;refine aa (ar (mI ?_));refine bO (aI (aE (aX (ai ?_))));rw [hcut, e2, e1] at hh;refine ⟨⟨x, j + 8, hx, hxz, by show Value.int _ _ = Value.int _ _; congr 1; omega, hh⟩, by show (e + 8 * a.size + 1 - (e + j + 8)).toNat < (e + 8 * a.size + 1 - (e + j)).toNat; omega, ?_⟩;exact Du
   ·refine ah (sr (bG ?_));refine bI hh 1 ?_;refine bG ?_;refine bI hh 1 ?_;refine bs aF.out rfl Dr ?_;refine ek ?_;refine bu aF.out rfl rfl Dq (by assumption) Dr ?_;refine cu (aa (cF (aV (aA (aA (a8 (ai (ah (ao ?_)))))))));refine bF [1, 29, 30, 31, 32, 33, 34, 35, 36, 37, 38, 39, 40, 41, 42, 43, 44, 45, 46] 1
     (fun v w' => ∃ (y : Int) (j : Nat), y ≠ 0 ∧ y * 2 ^ j = z ∧ v = .int .i64 (e + j) ∧ Hp w [.blk b4 65 [.bool false, .string (ByteArray.mk #[]), .int .i64 0] (0, 0), .blk b2 63 [.bool (iN y), .string (iM y)] (0, 0)] w')
     (fun v _ => (e + 8 * a.size + 1 - intOf v).toNat) ?_ ?_
    ·exact ⟨y, j, hy, hyz, rfl, hh⟩
    ·clear hh hb hcut hcn hc hs1 hsz hj hy hyz;rintro ρ2 v w2 ⟨y, j, hy, hyz, rfl, hh⟩;have hj := nQ hy hyz hzb;obtain ⟨hs1, c, hc, hcn⟩ := u3 (n := y.natAbs) Dq;have hsz : (sN y.natAbs).size ≤ 10000000 := by
      have h1 : z.natAbs = y.natAbs * 2 ^ j := by rw [← hyz, Int.natAbs_mul, Int.natAbs_pow]; rfl
      have h2 : y.natAbs * 1 ≤ y.natAbs * 2 ^ j := Nat.mul_le_mul_left _ (Nat.pow_pos Dq);have h3 : bz y.natAbs ≤ 8 * a.size := dm Dq;rw [ix];omega
     change (iM y).data.toList[(((iM y).size : Int) - 1).toNat]? = some c at hc
     change 1 ≤ (iM y).size at hs1
     change (iM y).size ≤ _ at hsz
     by_cases hb : y.natAbs % 2 = 0
     ·obtain ⟨x, rfl⟩ : ∃ x, y = x * 2 := ⟨y / 2, Dq⟩;have hx : x ≠ 0 := fun h => hy (by rw [h]; rfl);have hxz : x * 2 ^ (j + 1) = z := by rw [← hyz, Int.pow_add, Int.mul_assoc, Int.mul_comm (2 ^ j)]; rfl
      have hj2 := nQ hx hxz hzb;have hof : ∀ w1, Calls Tryz.prog 170 #[.int .i64 2] w1 fun e w' => e = .returned (.agg #[.bool false, .string (iM 2)]) ∧ Below w1.heap.size w1 w' := fun w1 => mA 2 w1 Dq Dq;have hdv : ∀ w1, Calls Tryz.prog 210 #[.agg #[.bool (iN (x * 2)), .string (iM (x * 2))], .agg #[.bool false, .string (iM 2)]] w1 fun e w' => e = .returned (.tuple #[.agg #[.bool (iN x), .string (iM x)], .agg #[.bool (iN 0), .string (iM 0)], .bool true]) ∧ Below w1.heap.size w1 w' := fun w1 => by
       have h2 : bN (iM 2) = 2 := ew 2;have h3 : (iM 2).size ≤ 10000000 := by rw [ec]; decide
       have := tZ (iN (x * 2)) (iM (x * 2)) (iM 2) w1 hsz h3 Dq;rw [fE, h2, show x * 2 / ((2 : Nat) : Int) = x by omega, show x * 2 % ((2 : Nat) : Int) = 0 by omega] at this;exact this
      refine ah (sr (bG ?_));refine bI hh 1 ?_;refine bG ?_;refine bI hh 1 ?_;refine bs aF.out rfl Dr ?_;refine ek ?_;refine bu aF.out rfl rfl Dq (by assumption) Dr ?_;refine uu (b := 2) rfl rfl Dq Dr ?_;refine cu (aa (cT (ak (ai (ao (ah ?_))))));refine cY [] [5, 6] [0, 0, 3, 7, 15, 15, 15, 31] 7 [[(2, none)], [], [(39, some 0), (40, some 1)], [(41, some 2)], [(38, some 3)], [(38, some 3)], [(38, some 3)]] [(6, 44), (5, 43), (4, 42), (3, 38), (2, 41), (1, 40), (0, 39)] hh mixed Dt dI rfl (by repeat (first | exact bX | refine bE ?_ | refine bV ?_)) ?_;refine fX 1 [_,_] ?_;refine dC (fun _ hj => hof _) ?_;refine dC (fun _ hj => hdv _) ?_;refine CK ?_;refine Bh ?_;refine Bh ?_;refine Bh ?_;refine bq ?_;intro f W hJ hV _;have hb_8 := hJ.bl;obtain ⟨v44, v43, v42, v38, v41, v40, v39, _⟩ := hV;replace hh := hJ.hp;refine a6 (bk (ae v44 (ae v43 (ae v42 (ae v38 (ae v41 (ae v40 (ae v39 a5)))))))) ?_;dsimp only [cJ];clear hJ;refine bD hh 1 [_,_] ?_;intro ws hh;replace hh : Hp _ (_ :: .blk _ _ [_, _] _ :: _) _ := hh;refine aa (ar (mI ?_));refine bO (aI (aE (aX (ai ?_))))
      refine ⟨⟨x, j + 1, hx, hxz, by show Value.int _ _ = Value.int _ _; congr 1; omega, hh⟩, by show (e + 8 * a.size + 1 - (e + j + 1)).toNat < (e + 8 * a.size + 1 - (e + j)).toNat; omega, ?_⟩;exact Du
     ·have hfin := xM (e := e) (show y.natAbs % 2 = 1 by omega) hyz;refine ah (sr (bG ?_));refine bI hh 1 ?_;refine bG ?_;refine bI hh 1 ?_;refine bs aF.out rfl Dr ?_;refine ek ?_;refine bu aF.out rfl rfl Dq (by assumption) Dr ?_;refine uu (b := 2) rfl rfl Dq Dr ?_;refine cu (aa (cF (aV (aA (aA (a8 (ai (sr ?_))))))));refine cU hh 1 [_,_] (mI ?_);refine eX [_,_,_] ?_;refine bD hh 0 [_,_,_] ?_;intro ws hh;replace hh : Hp _ (.blk _ _ [_, _, _] _ :: _) _ := hh;refine aa (al ?_);refine ik (aN rfl (aO (vs := [_, _, _]) aC.out (hh.aw (i := 0) (n := 3) rfl rfl) rfl) a7) ?_;rw [hfin];exact ⟨rfl, hh.below⟩
theorem xD {z e : Int} {x : Dyadic} (w : World) (hx : Dyadic.ofIntWithPrec z (-e) = x) (hz : (iM z).size ≤ 10000000) (h1 : -1000000000000 ≤ e) (h2 : e ≤ 1000000000000) :
  Calls Tryz.prog 169 #[.agg #[.bool (iN z), .string (iM z)], .int .i64 e] w fun r w' => r = .returned (.agg #[.bool (nR x).neg, .string (nR x).bM, .int .i64 (nR x).e]) ∧ Below w.heap.size w w' := by
 have := tj (iN z) (iM z) e w hz h1 h2;rw [fE, hx] at this;exact this
theorem wK (n : Int) (w : World) (h1 : -9223372036854775808 ≤ n) (h2 : n ≤ 9223372036854775807) :
  Calls Tryz.prog 86 #[.int .i64 n] w fun r w' => r = .returned (.agg #[.bool (nR (n : Dyadic)).neg, .string (nR (n : Dyadic)).bM, .int .i64 (nR (n : Dyadic)).e]) ∧ Below w.heap.size w w' := by
 have hh := Hp.start w;have hsz : (iM n).size ≤ 10000000 := by
  rw [ec];have : bz n.natAbs ≤ 64 := dm Dq;omega
 have hc := fun w1 => xD (z := n) (e := 0) (x := (n : Dyadic)) w1 rfl hsz Dq Dq;refine aj (N := 6) (l := [.int .i64 n]) Tryz.func86 rfl rfl (by simp) ?_;refine sr ?_;refine cj hh ?_;intro b2 w2 hh;refine aa (sr (mI ?_));refine bB hh (mA n _ h1 h2) rfl ?_;intro w4 hh;refine bB hh (hc _) rfl ?_;intro w5 hh;refine bD hh 0 [_,_,_] ?_;intro ws hh;replace hh : Hp _ (.blk _ _ [_, _, _] _ :: _) _ := hh;refine aa (al ?_);refine ik (aN rfl (aO (vs := [_, _, _]) aC.out (hh.aw (i := 0) (n := 3) rfl rfl) rfl) a7) ?_;exact ⟨rfl, hh.below⟩
end Go.Proofs.YteeckcbbnegmcaaGreatDoor
namespace Go.Proofs.YteeckcbbnegmcaaGreatDoor
open Go.RowKit
end Go.Proofs.YteeckcbbnegmcaaGreatDoor
namespace Go.Proofs.YteeckcbbnegmcaaGreatDoor
open Go.RowKit
theorem Sz.pow {k : Nat} {x : Dyadic} (h : Sz k x) (n : Nat) : Sz (1 + k * n) (x ^ n) := by
 induction n with
 | zero => rw [Dyadic.pow_zero]; exact Sz.one
 | succ n ih => rw [Dyadic.pow_succ]; exact (ih.mul h).mono (by rw [Nat.mul_succ]; omega)
end Go.Proofs.YteeckcbbnegmcaaGreatDoor
/- The walks through layer 4's laws (ogeelaw04): the package's own helpers. -/
namespace Go.Proofs.YteeckcbbnegmcaaGreatDoor
open Go.RowKit
def D (m e : Int) : Dyadic := Dyadic.ofIntWithPrec m (-e)
theorem At {m e : Int} (hm : m.natAbs < 256) (h1 : -16 ≤ e) (h2 : e ≤ 16) : Sz 24 (D m e) := by
 have := Sz.raw (a := ⟨iN m, iM m, e⟩) (m := 8) (E := 16) (by show 8 * (iM m).size ≤ 8; rw [ec]; have : bz m.natAbs ≤ 8 := dm hm; omega) h1 h2;rw [NR.d, NR.i, fE] at this;exact this
def CW (most far : Int) (l : List NR) : Bool := l.any fun a => decide (most < a.bM.size ∨ a.e < -far ∨ far < a.e)
end Go.Proofs.YteeckcbbnegmcaaGreatDoor
/- Arguments opened: dyadic numbers, rows of them; and what the listed table tells. -/
namespace Go.Proofs.YteeckcbbnegmcaaGreatDoor
open Go.ChangeShapes Go.WideShapes Go.ChangeAt Go.RowKit Go.ChangeMaps
set_option maxRecDepth 100000 in
theorem wm {H : Type} {enc : TypeId × Value → H} {W : World} {base fuel : Nat} {sp : Nat → Bool} {held : Bool} {cs : List Value} {x : DataW H × List MemPlace} (h : DataW.trod enc Tryz.prog W base sp held fuel 65 cs = some x) :
  ∃ a : NR, cs = a.cells ∧ (Lit.int .i64 a.e).wf = true := by
 have c1 : Tryz.prog.cellsOf 65 = 3 := by kernel_rfl
 have c2 : Tryz.prog.cellsOf 63 = 2 := by kernel_rfl
 have c3 : Tryz.prog.cellsOf 4 = 1 := by kernel_rfl
 have c4 : Tryz.prog.cellsOf 9 = 1 := by kernel_rfl
 have c5 : Tryz.prog.cellsOf 3 = 1 := by kernel_rfl
 obtain ⟨y0, y1, n, _, hl, h0, h1⟩ := trod_struct2 Tryz.underlying65 h;obtain ⟨z0, z1, n2, _, hl2, h00, h01⟩ := trod_struct2 Tryz.underlying63 h0;obtain ⟨b, e0, _⟩ := DataW.trod_bool Tryz.underlying4 h00;obtain ⟨s, e1, _, hs⟩ := DataW.trod_string Tryz.underlying9 h01;obtain ⟨z, e2, _, hz⟩ := DataW.trod_int Tryz.underlying3 h1;rw [c1] at hl
 match cs, hl with
 | [x0, x1, x2], _ =>
  simp only [c2, c3, c4, c5] at e0 e1 e2;simp at e0 e1 e2;subst e0 e1 e2;exact ⟨⟨b, s, z⟩, rfl, hz⟩
theorem sk {W : World} (h : laidMetH Tryz.prog Rows.calcSlopesRow.laid W) : gK W := by
 rw [MakeChecks.laidMetH_plain _ _ _ Dt] at h;obtain ⟨ps, ⟨g, t, cs, fuel, p, q, hg, ht, hv, hd, _, _⟩, _, _⟩ := h;obtain rfl := Option.some.inj ((show Tryz.prog.globalNamed "math/bits.deBruijn64tab" = some 0 by kernel_rfl).symm.trans hg);obtain rfl := Option.some.inj ((show (Tryz.prog.globals[0]?).map (·.type) = some 244 by kernel_rfl).symm.trans ht);obtain ⟨xs, m, _, ex, _, hl, hel⟩ := DataW.trod_array Tryz.underlying244 hd;have c5 : Tryz.prog.cellsOf 5 = 1 := by kernel_rfl
 have e3 : (xs.map (·.1)) = uO.map fun n => .lit (.int .u8 n) := (DataW.agg.inj (Prod.mk.inj ex).1).symm;have hlen : uO.length = 64 := by decide
 intro r u hu;have hr : r < 64 := by
  have := (List.getElem?_eq_some_iff.1 hu).1;rw [cm] at this;omega
 have hE := hel r hr;rw [c5, Nat.mul_one, List.getElem?_eq_getElem Dq] at hE;obtain ⟨z, e1, e2, _⟩ := DataW.trod_int Tryz.underlying5 hE;have e4 : (xs.map (·.1))[r]? = (uO.map fun (n : Nat) => (DataW.lit (.int .u8 n) : DataW Unit))[r]? := by rw [e3]
 rw [List.getElem?_map, List.getElem?_map, List.getElem?_eq_getElem (by omega : r < xs.length), List.getElem?_eq_getElem (by omega : r < uO.length), e2] at e4;have hz : u = .int .u8 z := by
  rw [fo, List.getElem?_map, List.getElem?_eq_getElem (by omega : r < uO.length)] at hu;simp only [Option.map_some, Option.some.injEq, DataW.lit.injEq, Lit.int.injEq, true_and] at e4 hu;rw [← hu, e4]
 rw [eG, Nat.zero_add, World.var?_cell hg hv r, hz];have : cs.toList[r]? = some (.int .u8 z) := by
  have h0 : ((cs.toList.drop r).take 1)[0]? = some (.int .u8 z) := by rw [e1]; rfl
  simpa using h0
 simpa using this
end Go.Proofs.YteeckcbbnegmcaaGreatDoor
/- Arguments opened: slices of records. -/
namespace Go.Proofs.YteeckcbbnegmcaaGreatDoor
open Go.ChangeShapes Go.WideShapes Go.ChangeAt Go.RowKit Go.ChangeMaps
theorem sJ {α : Type} {p : Nat → α → Prop} : ∀ (n : Nat), (∀ i, i < n → ∃ a, p i a) → ∃ l : List α, l.length = n ∧ ∀ i a, l[i]? = some a → p i a
 | 0, _ => ⟨[], rfl, fun i a h => by simp at h⟩
 | n + 1, h => by
  obtain ⟨l, h1, h2⟩ := sJ n fun i hi => h i Dq;obtain ⟨a, ha⟩ := h n Dq;refine ⟨l ++ [a], by simp [h1], fun i b hb => ?_⟩
  rcases Nat.lt_or_ge i l.length with hi | hi
  ·rw [List.getElem?_append_left hi] at hb;exact h2 i b hb
  ·rw [List.getElem?_append_right hi] at hb;have h3 : i - l.length = 0 := by
    rcases Nat.eq_zero_or_pos (i - l.length) with h | h
    ·exact h
    ·rw [List.getElem?_eq_none (by simp; omega)] at hb; cases hb
   rw [h3] at hb;simp only [List.getElem?_cons_zero, Option.some.injEq] at hb;subst hb;rw [show i = n by omega];exact ha
end Go.Proofs.YteeckcbbnegmcaaGreatDoor
/- Arguments opened: rows of ints. -/
namespace Go.Proofs.YteeckcbbnegmcaaGreatDoor
open Go.ChangeShapes Go.WideShapes Go.ChangeAt Go.RowKit Go.ChangeMaps
def IC (z : Int) : List Value := [.int .i64 z]
theorem tH {α : Type} {f : α → List Value} {p : α → Prop} {sz : Nat} {P : Program} {t e : TypeId} {H : Type} {enc : TypeId × Value → H} {W : World} {base fuel : Nat} {sp : Nat → Bool} {held : Bool} {cs : List Value} {x : DataW H × List MemPlace}
  (hf : ∀ x, (f x).length = sz) (h0 : 0 < sz) (ht : P.underlying t = some (.slice e)) (hc : P.cellsOf e = sz) (one : ∀ fuel cs x, DataW.trod enc P W base sp held fuel e cs = some x → ∃ a, cs = f a ∧ p a)
  (hfu : DataW.trod enc P W base sp held fuel t cs = some x) : ∃ (A : Option Addr) (n c : Nat) (l : List α), cs = [.slice A n c] ∧ Sl W A n sz (aQ f l) ∧ ∀ a ∈ l, p a := by
 rcases Go.Deep.open_slice ht hfu with ⟨h1, _⟩ | ⟨ad, n, cp, m, k, D, Pl, h1, _, h2, h3, hm, _, h5⟩
 ·exact ⟨none, 0, 0, [], h1, Sl.nil W none sz, fun _ h => by simp at h⟩
 ·have hnm : n ≤ m := by rw [hm]; split <;> omega
  obtain ⟨l, hl, hp⟩ := sJ (p := fun i a => W.cells? base (ad.add (i * sz)) sz = some (f a) ∧ p a) n fun i hi => by
   obtain ⟨cs, h6, h7⟩ := h5 i Dq;rw [hc] at h6;obtain ⟨a, rfl, h8⟩ := one _ _ _ h7;exact ⟨a, h6, h8⟩
  refine ⟨some ad, n, cp, l, h1, ⟨by rw [jD hf, hl], fun _ => ⟨ad, rfl, fun j u hu => ?_⟩⟩, fun a ha => ?_⟩
  ·have hdm : j / sz * sz + j % sz = j := by rw [Nat.mul_comm]; exact Nat.div_add_mod j sz
   have hmod : j % sz < sz := Nat.mod_lt _ h0;have hj : j / sz < l.length := by
    have := (List.getElem?_eq_some_iff.1 hu).1;rw [jD hf] at this;exact Nat.div_lt_of_lt_mul (by rw [Nat.mul_comm]; exact this)
   obtain ⟨x, hx⟩ := aG hj;have h6 := o8 hf hx;have h7 : (f x)[j % sz]? = some u := by
    rw [← h6, List.getElem?_take, if_pos hmod, List.getElem?_drop, hdm];exact hu
   have h8 := (World.cells?_some (hp _ _ hx).1).2.2 (j % sz) hmod;rw [h7, l8, hdm] at h8;exact h8
  ·obtain ⟨i, hi⟩ := List.mem_iff_getElem?.1 ha;exact (hp i a hi).2
theorem wI {P : Program} {t e : TypeId} {H : Type} {enc : TypeId × Value → H} {W : World} {base fuel : Nat} {sp : Nat → Bool} {held : Bool} {A : Option Addr} {n c : Nat} {x : DataW H × List MemPlace}
  (ht : P.underlying t = some (.slice e)) (hfu : DataW.trod enc P W base sp held fuel t [.slice A n c] = some x) : n ≤ c := by
 rcases Go.Deep.open_slice ht hfu with ⟨h1, _⟩ | ⟨ad, n', cp, m, k, D, Pl, h1, _, h2, _⟩
 ·injection h1 with h1
  injection h1 with _ e2 e3
  omega
 ·injection h1 with h1
  injection h1 with _ e2 e3
  omega
end Go.Proofs.YteeckcbbnegmcaaGreatDoor
/- What was multiplied is divided back. Plain lemmas, no program in sight. -/
namespace Go.Proofs.YteeckcbbnegmcaaGreatDoor
open Go.RowKit
theorem xS {l : List Int} (h : l.all ej = true) : ints (l.map pV) = l := by
 induction l with
 | nil => rfl
 | cons x l ih =>
  simp only [List.all_cons, Bool.and_eq_true] at h;have h1 : ((pV x).toNat : Int) = x := by
   have := ke h.1;injection this with _ this
   exact this.symm
  have := ih h.2;simp only [ints, List.map_cons, h1];congr 1
theorem x4 {l : List Int} (h : l.all ej = true) : dq (l.map pV) = true := by
 rw [dq, List.all_eq_true];intro c hc;obtain ⟨x, hx, rfl⟩ := List.mem_map.1 hc;have h1 := List.all_eq_true.1 h x hx;have := ke h1;injection this with _ this
 simp only [ej, Bool.and_eq_true, decide_eq_true_eq] at h1;simp only [decide_eq_true_eq];omega
theorem zt {a : List UInt8} (h : dq a = true) : (ints a).all ej = true := by
 rw [List.all_eq_true];intro x hx;obtain ⟨c, hc, rfl⟩ := List.mem_map.1 hx;have := List.all_eq_true.1 h c hc;simp only [decide_eq_true_eq] at this;simp only [ej, Bool.and_eq_true, decide_eq_true_eq];omega
theorem qd {f : Int → Int → Int} {a b : List UInt8} {l : List Int} (h : fJ f a b = some l) : dq a = true ∧ dq b = true ∧ b.length = a.length ∧ l = List.zipWith f (ints a) (ints b) := by
 unfold fJ at h;split at h
 ·rename_i hc;simp only [Bool.and_eq_true, decide_eq_true_eq] at hc;injection h with h
  exact ⟨hc.1, hc.2.1, Dq, h.symm⟩
 ·cases h
theorem z8 {f : Int → Int → Int} {a b : List UInt8} (h1 : dq a = true) (h2 : dq b = true) (h3 : b.length = a.length) : fJ f a b = some (List.zipWith f (ints a) (ints b)) := by
 unfold fJ;rw [if_pos (by simp [h1, h2, h3])]
theorem kf {a c : List UInt8} (h : (mulL a c).2 = 0) : dq a = true ∧ dq c = true ∧ c.length = a.length ∧ dq (mulL a c).1 = true ∧ ints (mulL a c).1 = List.zipWith (· + ·) (ints a) (ints c) := by
 unfold mulL at h ⊢;split
 ·rename_i l hl;rw [hl] at h;simp only at h ⊢;obtain ⟨h1, h2, h3, h4⟩ := qd hl;by_cases hc : l.all ej = true
  ·rw [(nI hc).1];exact ⟨h1, h2, h3, x4 hc, by rw [xS hc, h4]⟩
  ·simp [Ae, hc] at h
 ·rename_i hl;rw [hl] at h;simp at h
theorem uF {a c : List UInt8} (h : (mulL a c).2 = 0) : (mulL a c).1.length = a.length := by
 obtain ⟨_, _, h3, _, h5⟩ := kf h;have := congrArg List.length h5;rw [cM, List.length_zipWith, cM, cM] at this;omega
end Go.Proofs.YteeckcbbnegmcaaGreatDoor
/- Plain laws of terms: rows that rise, what stands with each product, the one form. No program in sight. -/
namespace Go.Proofs.YteeckcbbnegmcaaGreatDoor
open Go.RowKit
structure TR where
 m : ByteArray
 c : NR
def TR.cells (t : TR) : List Value := [.string t.m, .bool t.c.neg, .string t.c.bM, .int .i64 t.c.e]
theorem TR.len (t : TR) : t.cells.length = 4 := rfl
theorem TR.one (t : TR) : t.cells.all Value.oneCell' = true := rfl
def gf (a b : ByteArray) : Bool := Op.bytesLess a.data.toList b.data.toList
theorem lH : ∀ a : List UInt8, Op.bytesLess a a = false
 | [] => rfl
 | c :: a => by simp [Op.bytesLess, lH a]
theorem mZ : ∀ a b c : List UInt8, Op.bytesLess a b = true → Op.bytesLess b c = true → Op.bytesLess a c = true
 | _, [], [], _, h => by simp [Op.bytesLess] at h
 | _, _ :: _, [], _, h => by simp [Op.bytesLess] at h
 | [], [], _ :: _, h, _ => by simp [Op.bytesLess] at h
 | _ :: _, [], _ :: _, h, _ => by simp [Op.bytesLess] at h
 | [], _ :: _, _ :: _, _, _ => rfl
 | x :: a, y :: b, z :: c, h1, h2 => by
  simp only [Op.bytesLess, Bool.or_eq_true, Bool.and_eq_true, decide_eq_true_eq, beq_iff_eq] at h1 h2 ⊢
  rcases h1 with h1 | ⟨rfl, h1⟩
  ·rcases h2 with h2 | ⟨rfl, h2⟩
   ·exact .inl (UInt8.lt_trans h1 h2)
   ·exact .inl h1
  ·rcases h2 with h2 | ⟨rfl, h2⟩
   ·exact .inl h2
   ·exact .inr ⟨rfl, mZ a b c h1 h2⟩
theorem qH : ∀ a b : List UInt8, Op.bytesLess a b = false → Op.bytesLess b a = false → a = b
 | [], [], _, _ => rfl
 | [], _ :: _, h, _ => by simp [Op.bytesLess] at h
 | _ :: _, [], _, h => by simp [Op.bytesLess] at h
 | x :: a, y :: b, h1, h2 => by
  simp only [Op.bytesLess, Bool.or_eq_false_iff, Bool.and_eq_false_iff, decide_eq_false_iff_not, beq_eq_false_iff_ne] at h1 h2;have e : x = y := by
   have a1 := h1.1;have a2 := h2.1;rw [UInt8.lt_iff_toNat_lt] at a1 a2;exact UInt8.toNat_inj.1 Dq
  subst e;rw [qH a b (h1.2.resolve_left (fun h => h rfl)) (h2.2.resolve_left (fun h => h rfl))]
theorem jn (a : ByteArray) : gf a a = false := lH _
theorem g6 {a b c : ByteArray} (h1 : gf a b = true) (h2 : gf b c = true) : gf a c = true := mZ _ _ _ h1 h2
theorem lX {a b : ByteArray} (h1 : gf a b = false) (h2 : gf b a = false) : a = b := mn (qH _ _ h1 h2)
theorem yg {a b : ByteArray} (h : gf a b = true) : a ≠ b := fun e => by rw [e, jn] at h; cases h
theorem wD {a b : ByteArray} (h : gf a b = true) : gf b a = false := by
 cases h2 : gf b a with
 | false => rfl
 | true => have := g6 h h2; rw [jn] at this; cases this
def pN (l : List TR) : Prop := l.Pairwise fun a b => gf a.m b.m = true
def wS (f : ByteArray → Dyadic) : List TR → Dyadic
 | [] => 0
 | t :: l => t.c.d * f t.m + wS f l
theorem gY (f : ByteArray → Dyadic) (l k : List TR) : wS f (l ++ k) = wS f l + wS f k := by
 induction l with
 | nil => exact (Dyadic.zero_add _).symm
 | cons t l ih => rw [List.cons_append, wS, wS, ih, Dyadic.add_assoc]
theorem y9 (f : ByteArray → Dyadic) (l : List TR) (t : TR) : wS f (l ++ [t]) = wS f l + t.c.d * f t.m := by
 rw [gY, wS, wS, Dyadic.add_zero]
def fj (l : List TR) (m : ByteArray) : Dyadic := wS (fun k => if k = m then 1 else 0) l
theorem eJ (t : TR) (l : List TR) (m : ByteArray) : fj (t :: l) m = (if t.m = m then t.c.d else 0) + fj l m := by
 show t.c.d * (if t.m = m then 1 else 0) + fj l m = _;split
 ·rw [Dyadic.mul_one]
 ·rw [Dyadic.mul_zero]
theorem oB (m : ByteArray) : fj [] m = 0 := rfl
theorem eA (l k : List TR) (m : ByteArray) : fj (l ++ k) m = fj l m + fj k m := gY _ _ _
theorem qN {l : List TR} {m : ByteArray} (h : ∀ t ∈ l, t.m ≠ m) : fj l m = 0 := by
 induction l with
 | nil => rfl
 | cons t l ih => rw [eJ, if_neg (h t List.mem_cons_self), ih fun s hs => h s (List.mem_cons_of_mem _ hs), Dyadic.zero_add]
structure Canon (l : List TR) : Prop where
 po : pN l
 nz : ∀ t ∈ l, t.c.d ≠ 0
 nf : ∀ t ∈ l, t.c = nR t.c.d
theorem nU {t : TR} {l : List TR} (h : Canon (t :: l)) : Canon l := ⟨(List.pairwise_cons.1 h.po).2, fun s hs => h.nz s (List.mem_cons_of_mem _ hs), fun s hs => h.nf s (List.mem_cons_of_mem _ hs)⟩
theorem pY {t : TR} {l : List TR} {m : ByteArray} (h : pN (t :: l)) (hm : m = t.m ∨ gf m t.m = true) : ∀ s ∈ l, s.m ≠ m := fun s hs e => by
 have h1 := (List.pairwise_cons.1 h).1 s hs
 rcases hm with rfl | hm
 ·rw [e, jn] at h1; cases h1
 ·have := g6 hm h1;rw [e, jn] at this; cases this
theorem g5 {t : TR} {l : List TR} (h : pN (t :: l)) : fj (t :: l) t.m = t.c.d := by
 rw [eJ, if_pos rfl, qN (pY h (.inl rfl)), Dyadic.add_zero]
theorem qu {t : TR} {l : List TR} {m : ByteArray} (h : pN (t :: l)) (hm : gf m t.m = true) : fj (t :: l) m = 0 := by
 rw [eJ, if_neg (fun e => yg hm e.symm), qN (pY h (.inr hm)), Dyadic.zero_add]
theorem sf : ∀ {l k : List TR}, Canon l → Canon k → (∀ m, fj l m = fj k m) → l = k
 | [], [], _, _, _ => rfl
 | [], t :: k, _, hk, h => by
  have := h t.m;rw [g5 hk.po, oB] at this;exact absurd this.symm (hk.nz t List.mem_cons_self)
 | t :: l, [], hl, _, h => by
  have := h t.m;rw [g5 hl.po, oB] at this;exact absurd this (hl.nz t List.mem_cons_self)
 | t :: l, s :: k, hl, hk, h => by
  have h1 : gf t.m s.m = false := by
   cases hb : gf t.m s.m with
   | false => rfl
   | true =>
    have := h t.m;rw [g5 hl.po, qu hk.po hb] at this;exact absurd this (hl.nz t List.mem_cons_self)
  have h2 : gf s.m t.m = false := by
   cases hb : gf s.m t.m with
   | false => rfl
   | true =>
    have := h s.m;rw [g5 hk.po, qu hl.po hb] at this;exact absurd this.symm (hk.nz s List.mem_cons_self)
  have em := lX h1 h2;have ed : t.c.d = s.c.d := by
   have := h t.m;rw [g5 hl.po, em, g5 hk.po] at this;exact this
  have et : t = s := by
   have a := hl.nf t List.mem_cons_self;have b := hk.nf s List.mem_cons_self;obtain ⟨m1, c1⟩ := t;obtain ⟨m2, c2⟩ := s;simp only at em ed a b;rw [em, a, b, ed]
  subst et;rw [sf (nU hl) (nU hk) fun m => by
   have := h m;rw [eJ, eJ] at this;grind]
def kz : List TR → TR → List TR
 | [], x => [⟨x.m, nR x.c.d⟩]
 | t :: l, x => if gf t.m x.m = true then t :: kz l x else if gf x.m t.m = true then ⟨x.m, nR x.c.d⟩ :: t :: l else ⟨x.m, nR (t.c.d + x.c.d)⟩ :: l
theorem vt (f : ByteArray → Dyadic) : ∀ (l : List TR) (x : TR), wS f (kz l x) = wS f l + x.c.d * f x.m
 | [], x => by
  show (nR x.c.d).d * f x.m + 0 = 0 + _;rw [dR, Dyadic.add_zero, Dyadic.zero_add]
 | t :: l, x => by
  unfold kz;split
  ·rw [wS, vt f l x, wS, Dyadic.add_assoc]
  ·split
   ·rw [wS, wS, dR, Dyadic.add_comm]
   ·rename_i h1 h2;have e : t.m = x.m := lX (by simpa using h1) (by simpa using h2);rw [wS, wS, dR, e];grind
theorem pr : ∀ {l : List TR} {x t : TR}, t ∈ kz l x → t ∈ l ∨ t.m = x.m
 | [], x, t, h => .inr (by rw [List.mem_singleton.1 h])
 | s :: l, x, t, h => by
  unfold kz at h;split at h
  ·rcases List.mem_cons.1 h with rfl | h
   ·exact .inl List.mem_cons_self
   ·rcases pr h with h | h
    ·exact .inl (List.mem_cons_of_mem _ h)
    ·exact .inr h
  ·split at h
   ·rcases List.mem_cons.1 h with rfl | h
    ·exact .inr rfl
    ·exact .inl h
   ·rcases List.mem_cons.1 h with rfl | h
    ·exact .inr rfl
    ·exact .inl (List.mem_cons_of_mem _ h)
theorem tc : ∀ {l : List TR} {x : TR}, pN l → pN (kz l x)
 | [], x, _ => List.pairwise_singleton _ _
 | s :: l, x, h => by
  have h1 := List.pairwise_cons.1 h;unfold kz;split
  ·rename_i hs;refine List.pairwise_cons.2 ⟨fun t ht => ?_, tc h1.2⟩
   rcases pr ht with ht | ht
   ·exact h1.1 t ht
   ·rw [ht]; exact hs
  ·split
   ·rename_i hs;refine List.pairwise_cons.2 ⟨fun t ht => ?_, h⟩
    rcases List.mem_cons.1 ht with rfl | ht
    ·exact hs
    ·exact g6 hs (h1.1 t ht)
   ·rename_i a b;have e : s.m = x.m := lX (by simpa using a) (by simpa using b);refine List.pairwise_cons.2 ⟨fun t ht => ?_, h1.2⟩;show gf x.m t.m = true;rw [← e];exact h1.1 t ht
theorem vE : ∀ {l : List TR} {x : TR}, (∀ t ∈ l, t.c = nR t.c.d) → ∀ t ∈ kz l x, t.c = nR t.c.d
 | [], x, _, t, ht => by rw [List.mem_singleton.1 ht]; show nR _ = nR (nR _).d; rw [dR]
 | s :: l, x, h, t, ht => by
  unfold kz at ht;split at ht
  ·rcases List.mem_cons.1 ht with rfl | ht
   ·exact h t List.mem_cons_self
   ·exact vE (fun t ht => h t (List.mem_cons_of_mem _ ht)) t ht
  ·split at ht
   ·rcases List.mem_cons.1 ht with rfl | ht
    ·show nR _ = nR (nR _).d; rw [dR]
    ·exact h t ht
   ·rcases List.mem_cons.1 ht with rfl | ht
    ·show nR _ = nR (nR _).d; rw [dR]
    ·exact h t (List.mem_cons_of_mem _ ht)
theorem sR : ∀ (l : List TR) (x : TR), (kz l x).length ≤ l.length + 1
 | [], x => Nat.le_refl _
 | s :: l, x => by
  have := sR l x;unfold kz;split
  ·rw [List.length_cons, List.length_cons]; omega
  ·split <;> simp
theorem vl {k : Nat} : ∀ {l : List TR} {x : TR}, (∀ t ∈ l, Sz k t.c.d) → Sz k x.c.d → ∀ t ∈ kz l x, Sz (k + 1) t.c.d
 | [], x, _, hx, t, ht => by rw [List.mem_singleton.1 ht]; show Sz _ (nR _).d; rw [dR]; exact hx.mono Dq
 | s :: l, x, h, hx, t, ht => by
  unfold kz at ht;split at ht
  ·rcases List.mem_cons.1 ht with rfl | ht
   ·exact (h t List.mem_cons_self).mono Dq
   ·exact vl (fun t ht => h t (List.mem_cons_of_mem _ ht)) hx t ht
  ·split at ht
   ·rcases List.mem_cons.1 ht with rfl | ht
    ·show Sz _ (nR _).d; rw [dR]; exact hx.mono Dq
    ·exact (h t ht).mono Dq
   ·rcases List.mem_cons.1 ht with rfl | ht
    ·show Sz _ (nR _).d; rw [dR]; exact (h s List.mem_cons_self).add hx
    ·exact (h t (List.mem_cons_of_mem _ ht)).mono Dq
def js (l : List TR) : List TR := l.foldl kz []
def rj (t : TR) : Bool := !decide (t.c.d = 0)
def aJ (l : List TR) : List TR := (js l).filter rj
theorem gr (l : List TR) (x : TR) : js (l ++ [x]) = kz (js l) x := by unfold js; rw [List.foldl_append]; rfl
theorem iP {α : Type} {P : List α → Prop} (h0 : P []) (hs : ∀ l x, P l → P (l ++ [x])) (l : List α) : P l := by
 have : ∀ k : List α, P k.reverse := fun k => by
  induction k with
  | nil => exact h0
  | cons x k ih => rw [List.reverse_cons]; exact hs _ _ ih
 have h := this l.reverse;rwa [List.reverse_reverse] at h
theorem yV (f : ByteArray → Dyadic) (l : List TR) : wS f (js l) = wS f l := by
 induction l using iP with
 | h0 => rfl
 | hs l x ih => rw [gr, vt, ih, y9]
theorem vZ (l : List TR) : pN (js l) := by
 induction l using iP with
 | h0 => exact List.Pairwise.nil
 | hs l x ih => rw [gr]; exact tc ih
theorem ye (l : List TR) : ∀ t ∈ js l, t.c = nR t.c.d := by
 induction l using iP with
 | h0 => intro t ht; cases ht
 | hs l x ih => rw [gr]; exact vE ih
theorem wU (l : List TR) : (js l).length ≤ l.length := by
 induction l using iP with
 | h0 => exact Nat.le_refl _
 | hs l x ih => rw [gr, List.length_append]; have := sR (js l) x; simp; omega
theorem x5 {k : Nat} (l : List TR) (h : ∀ t ∈ l, Sz k t.c.d) : ∀ t ∈ js l, Sz (k + l.length) t.c.d := by
 induction l using iP with
 | h0 => intro t ht; cases ht
 | hs l x ih =>
  rw [gr, List.length_append];exact vl (k := k + l.length) (ih fun t ht => h t (List.mem_append_left _ ht)) ((h x (by simp)).mono Dq)
theorem wu (l : List TR) : ∀ t ∈ js l, ∃ s ∈ l, s.m = t.m := by
 induction l using iP with
 | h0 => intro t ht; cases ht
 | hs l x ih =>
  rw [gr];intro t ht
  rcases pr ht with ht | ht
  ·obtain ⟨s, hs, e⟩ := ih t ht;exact ⟨s, List.mem_append_left _ hs, e⟩
  ·exact ⟨x, by simp, ht.symm⟩
theorem qM (f : ByteArray → Dyadic) (l : List TR) : wS f (l.filter rj) = wS f l := by
 induction l with
 | nil => rfl
 | cons t l ih =>
  rw [List.filter_cons];by_cases h : t.c.d = 0
  ·rw [if_neg (by unfold rj; rw [decide_eq_true h]; decide), ih, wS, h, Dyadic.zero_mul, Dyadic.zero_add]
  ·rw [if_pos (by unfold rj; rw [decide_eq_false h]; rfl), wS, wS, ih]
theorem ef (f : ByteArray → Dyadic) (l : List TR) : wS f (aJ l) = wS f l := (qM f _).trans (yV f l)
theorem m0 (l : List TR) (m : ByteArray) : fj (aJ l) m = fj l m := ef _ _
theorem tI {t : TR} (h : rj t = true) : t.c.d ≠ 0 := fun e => by
 unfold rj at h;rw [decide_eq_true e] at h
 cases h
theorem eC (l : List TR) : Canon (aJ l) :=
 ⟨List.Pairwise.filter _ (vZ l), fun t ht => tI (List.mem_filter.1 ht).2, fun t ht => ye l t (List.mem_filter.1 ht).1⟩
theorem eR (l : List TR) : (aJ l).length ≤ l.length := Nat.le_trans (List.length_filter_le _ _) (wU l)
theorem jZ {k : Nat} {l : List TR} (h : ∀ t ∈ l, Sz k t.c.d) : ∀ t ∈ aJ l, Sz (k + l.length) t.c.d := fun t ht => x5 l h t (List.mem_filter.1 ht).1
theorem hZ {l : List TR} : ∀ t ∈ aJ l, ∃ s ∈ l, s.m = t.m := fun t ht => wu l t (List.mem_filter.1 ht).1
theorem mM {l k : List TR} (h : Canon k) (hc : ∀ m, fj k m = fj l m) : k = aJ l := sf h (eC l) fun m => by rw [hc, m0]
theorem gR {l k : List TR} (hc : ∀ m, fj k m = fj l m) : aJ k = aJ l := mM (eC k) fun m => by rw [m0, hc]
theorem np {l : List TR} (h : Canon l) : aJ l = l := (mM h fun _ => rfl).symm
end Go.Proofs.YteeckcbbnegmcaaGreatDoor
/- Plain: two rows that rise put into one. No program in sight. -/
namespace Go.Proofs.YteeckcbbnegmcaaGreatDoor
open Go.RowKit
def gx (k : Nat) (l : List TR) : Prop := ∀ t ∈ l, t.c.ok ∧ Sz k t.c.d
theorem gx.mono {k j : Nat} {l : List TR} (h : gx k l) (hk : k ≤ j) : gx j l := fun t ht => ⟨(h t ht).1, (h t ht).2.mono hk⟩
structure MD (k : Nat) (l L : List TR) : Prop where
 po : pN L
 co : ∀ m, fj L m = fj l m
 len : L.length ≤ l.length
 ok : gx k L
 mem : ∀ t ∈ L, ∃ s ∈ l, s.m = t.m
theorem MD.mono {k j : Nat} {l L : List TR} (h : MD k l L) (hk : k ≤ j) : MD j l L := ⟨h.po, h.co, h.len, h.ok.mono hk, h.mem⟩
theorem MD.self {k : Nat} {l : List TR} (h : pN l) (hk : gx k l) : MD k l l := ⟨h, fun _ => rfl, Nat.le_refl _, hk, fun t ht => ⟨t, ht, rfl⟩⟩
structure Mg (k : Nat) (xs ys O X Y : List TR) : Prop where
 ro : pN O
 rx : pN X
 ry : pN Y
 co : ∀ m, fj O m + (fj X m + fj Y m) = fj xs m + fj ys m
 bx : ∀ t ∈ O, ∀ s ∈ X, gf t.m s.m = true
 hy : ∀ t ∈ O, ∀ s ∈ Y, gf t.m s.m = true
 len : O.length + (X.length + Y.length) ≤ xs.length + ys.length
 oo : gx (k + 1) O
 ox : gx k X
 oy : gx k Y
 mo : ∀ t ∈ O, ∃ s ∈ xs ++ ys, s.m = t.m
 mx : ∀ t ∈ X, t ∈ xs ++ ys
 my : ∀ t ∈ Y, t ∈ xs ++ ys
theorem Mg.start {k : Nat} {xs ys : List TR} (hx : pN xs) (hy : pN ys) (ox : gx k xs) (oy : gx k ys) : Mg k xs ys [] xs ys :=
 ⟨List.Pairwise.nil, hx, hy, fun m => Dyadic.zero_add _, fun t ht => (by cases ht), fun t ht => (by cases ht), by simp, fun t ht => (by cases ht), ox, oy, fun t ht => (by cases ht), fun t ht => List.mem_append_left _ ht, fun t ht => List.mem_append_right _ ht⟩
theorem o7 {O : List TR} {x : TR} (h : pN O) (hx : ∀ t ∈ O, gf t.m x.m = true) : pN (O ++ [x]) :=
 List.pairwise_append.2 ⟨h, List.pairwise_singleton _ _, fun t ht s hs => by rw [List.mem_singleton.1 hs]; exact hx t ht⟩
theorem o0 (x : TR) (m : ByteArray) : fj [x] m = if x.m = m then x.c.d else 0 := by rw [eJ, oB, Dyadic.add_zero]
theorem eF {α : Type} {P : α → Prop} {O : List α} {x : α} (h : ∀ t ∈ O, P t) (hx : P x) : ∀ t ∈ O ++ [x], P t := fun t ht => by
 rcases List.mem_append.1 ht with ht | ht
 ·exact h t ht
 ·rw [List.mem_singleton.1 ht]; exact hx
theorem Mg.left {k : Nat} {xs ys O X Y : List TR} {x y : TR} (h : Mg k xs ys O (x :: X) (y :: Y)) (hl : gf x.m y.m = true) : Mg k xs ys (O ++ [x]) X (y :: Y) := by
 obtain ⟨ro, rx, ry, co, bx, hby, len, oo, ox, oy, mo, mx, my⟩ := h;have r1 := List.pairwise_cons.1 rx;have r2 := List.pairwise_cons.1 ry;refine ⟨o7 ro fun t ht => bx t ht x List.mem_cons_self, r1.2, ry, fun m => ?_, eF (fun t ht s hs => bx t ht s (List.mem_cons_of_mem _ hs)) fun s hs => r1.1 s hs, eF hby fun s hs => ?_, by simp at len ⊢; omega, eF oo ⟨(ox x List.mem_cons_self).1, (ox x List.mem_cons_self).2.mono Dq⟩, fun t ht => ox t (List.mem_cons_of_mem _ ht), oy, eF mo ⟨x, mx x List.mem_cons_self, rfl⟩, fun t ht => mx t (List.mem_cons_of_mem _ ht), my⟩
 ·have := co m;rw [eJ x X] at this;rw [eA, o0];grind
 ·rcases List.mem_cons.1 hs with rfl | hs
  ·exact hl
  ·exact g6 hl (r2.1 s hs)
theorem Mg.right {k : Nat} {xs ys O X Y : List TR} {x y : TR} (h : Mg k xs ys O (x :: X) (y :: Y)) (hl : gf y.m x.m = true) : Mg k xs ys (O ++ [y]) (x :: X) Y := by
 obtain ⟨ro, rx, ry, co, bx, hby, len, oo, ox, oy, mo, mx, my⟩ := h;have r1 := List.pairwise_cons.1 rx;have r2 := List.pairwise_cons.1 ry;refine ⟨o7 ro fun t ht => hby t ht y List.mem_cons_self, rx, r2.2, fun m => ?_, eF bx fun s hs => ?_, eF (fun t ht s hs => hby t ht s (List.mem_cons_of_mem _ hs)) fun s hs => r2.1 s hs, by simp at len ⊢; omega, eF oo ⟨(oy y List.mem_cons_self).1, (oy y List.mem_cons_self).2.mono Dq⟩, ox, fun t ht => oy t (List.mem_cons_of_mem _ ht), eF mo ⟨y, my y List.mem_cons_self, rfl⟩, mx, fun t ht => my t (List.mem_cons_of_mem _ ht)⟩
 ·have := co m;rw [eJ y Y] at this;rw [eA, o0];grind
 ·rcases List.mem_cons.1 hs with rfl | hs
  ·exact hl
  ·exact g6 hl (r1.1 s hs)
theorem Mg.both {k : Nat} {xs ys O X Y : List TR} {x y : TR} (h : Mg k xs ys O (x :: X) (y :: Y)) (h1 : gf x.m y.m = false) (h2 : gf y.m x.m = false) (hk : k ≤ 3999980) : Mg k xs ys (O ++ [⟨x.m, nR (x.c.d + y.c.d)⟩]) X Y := by
 obtain ⟨ro, rx, ry, co, bx, hby, len, oo, ox, oy, mo, mx, my⟩ := h;have r1 := List.pairwise_cons.1 rx;have r2 := List.pairwise_cons.1 ry;have e := lX h1 h2;have hz := (ox x List.mem_cons_self).2.add (oy y List.mem_cons_self).2;refine ⟨o7 ro fun t ht => bx t ht x List.mem_cons_self, r1.2, r2.2, fun m => ?_, eF (fun t ht s hs => bx t ht s (List.mem_cons_of_mem _ hs)) fun s hs => r1.1 s hs, eF (fun t ht s hs => hby t ht s (List.mem_cons_of_mem _ hs)) fun s hs => ?_, by simp at len ⊢; omega, eF oo ⟨hz.ok Dq, ?_⟩, fun t ht => ox t (List.mem_cons_of_mem _ ht), fun t ht => oy t (List.mem_cons_of_mem _ ht), eF mo ⟨x, mx x List.mem_cons_self, rfl⟩, fun t ht => mx t (List.mem_cons_of_mem _ ht), fun t ht => my t (List.mem_cons_of_mem _ ht)⟩
 ·have := co m;rw [eJ y Y, eJ x X, ← e] at this;rw [eA, o0];show fj O m + (if x.m = m then (nR (x.c.d + y.c.d)).d else 0) + (fj X m + fj Y m) = _;rw [dR];grind
 ·show gf x.m s.m = true;rw [e];exact r2.1 s hs
 ·show Sz _ (nR _).d;rw [dR];exact hz
theorem Mg.done {k : Nat} {xs ys O X Y : List TR} (h : Mg k xs ys O X Y) (hd : X = [] ∨ Y = []) : MD (k + 1) (xs ++ ys) (O ++ X ++ Y) := by
 obtain ⟨ro, rx, ry, co, bx, hby, len, oo, ox, oy, mo, mx, my⟩ := h;refine ⟨?_, fun m => ?_, by simp at len ⊢; omega, fun t ht => ?_, fun t ht => ?_⟩
 ·rw [List.append_assoc];refine List.pairwise_append.2 ⟨ro, ?_, fun t ht s hs => ?_⟩
  ·rcases hd with rfl | rfl
   ·exact ry
   ·rw [List.append_nil]; exact rx
  ·rcases List.mem_append.1 hs with hs | hs
   ·exact bx t ht s hs
   ·exact hby t ht s hs
 ·rw [eA, eA, eA, Dyadic.add_assoc];exact co m
 ·rcases List.mem_append.1 ht with ht | ht
  ·rcases List.mem_append.1 ht with ht | ht
   ·exact oo t ht
   ·exact ⟨(ox t ht).1, (ox t ht).2.mono Dq⟩
  ·exact ⟨(oy t ht).1, (oy t ht).2.mono Dq⟩
 ·rcases List.mem_append.1 ht with ht | ht
  ·rcases List.mem_append.1 ht with ht | ht
   ·exact mo t ht
   ·exact ⟨t, mx t ht, rfl⟩
  ·exact ⟨t, my t ht, rfl⟩
theorem MD.aJ {k : Nat} {l L : List TR} (h : MD k l L) : ((L.filter rj).map fun t => (⟨t.m, nR t.c.d⟩ : TR)) = aJ l := by
 refine mM ⟨?_, fun t ht => ?_, fun t ht => ?_⟩ fun m => ?_
 ·exact List.Pairwise.map _ (fun a b hab => hab) (List.Pairwise.filter _ h.po)
 ·obtain ⟨s, hs, rfl⟩ := List.mem_map.1 ht;show (nR s.c.d).d ≠ 0;rw [dR];exact tI (List.mem_filter.1 hs).2
 ·obtain ⟨s, hs, rfl⟩ := List.mem_map.1 ht;show nR s.c.d = nR (nR s.c.d).d;rw [dR]
 ·have e : ∀ (f : ByteArray → Dyadic) (k : List TR), wS f (k.map fun t => (⟨t.m, nR t.c.d⟩ : TR)) = wS f k := fun f k => by
   induction k with
   | nil => rfl
   | cons t k ih => rw [List.map_cons, wS, wS, ih]; show (nR t.c.d).d * f t.m + _ = _; rw [dR]
  show wS _ _ = _;rw [e, qM];exact h.co m
theorem qp {l : List TR} (h : l.length < 2) : pN l := by
 match l, h with
 | [], _ => exact List.Pairwise.nil
 | [x], _ => exact List.pairwise_singleton _ _
end Go.Proofs.YteeckcbbnegmcaaGreatDoor
/- A new row with room and nothing in it; a call of a function that a variable holds, in a drawn region. Plain lemmas, no program in sight. -/
namespace Go.Proofs.YteeckcbbnegmcaaGreatDoor
open Go.RowKit
variable {ro : Mode}
section
variable {P : Program} {N : Nat} {ops : Array Oper} {Q : Kq} {ρ : Rf} {w w0 : World} {rest : List Oper} {H : List HE} {d : Nat} {ty : TypeId} {pos : String} {af : Array Edge}
theorem zJ (hh : Hp w0 H w) {t e : TypeId} {l cp : Operand} {kl kc : IntKind} {L C : Int} {n sz by' : Nat} {ag : Bool} {zc : List Value} (hl : ev ρ l = .int kl L) (hc : ev ρ cp = .int kc C) (hL : L = 0) (hC : C = (n : Int))
  (ht : P.underlying t = some (.slice e)) (hte : cZ P e = some (sz, ag, by', zc)) (hb : by' * n ≤ 281474976710656) (h63 : n ≤ 9223372036854775807) (hN : d < N)
  (k : ∀ b w', Hp w0 (.row (some ⟨b, 0, none⟩) 0 n e sz [] :: H) w' → WL ro P N ops Q rest (cx ρ d (.slice (some ⟨b, 0, none⟩) 0 n)) w') :
  WL ro P N ops Q (⟨some d, .makeSlice t l cp, ty, pos, af, none⟩ :: rest) ρ w := by
 obtain ⟨i, z, dd, hi, hd, hz, hs, hby, hzc, _⟩ := eD hte;subst hL; subst hC; subst hs;have hr := run_make (P := P) w t e i z ht hi hz kl kc 0 n (Int.le_refl _) Dq (by rw [hby, ← Int.natCast_mul]; omega) Dq;simp only [Int.toNat_natCast, Int.toNat_zero] at hr;refine aU rfl rfl hN (w' := w.alloc (.cells (madeCells z.cells (n * i.size)) e)) (v := .slice (some ⟨w.heap.size, 0, none⟩) 0 n) ?_ (k _ _ (hh.a9 (show Below w.heap.size w (w.alloc (.cells (madeCells z.cells (n * i.size)) e)) from ⟨rfl, rfl, rfl, (World.grownBy_alloc w _ none).size, fun j hj => (World.grownBy_alloc w _ none).block j hj (by simp)⟩) ?_))
 ·simp [execOp, hl, hc, hr]
 ·exact ⟨by simp, .inr ⟨w.heap.size, n, madeCells z.cells (n * i.size), rfl, Nat.le_refl _, heap_alloc_new w _, Nat.zero_le _, by unfold maxLen; omega, size_madeCells _ _, by simp⟩⟩
end
def fe (n sz : Nat) (cs : List Value) : VP := fun v W => ∃ g : Nat, v = .slice (some ⟨g, 0, none⟩) n n ∧ Sl W (some ⟨g, 0, none⟩) n sz cs
theorem fe.ext {n sz : Nat} {cs : List Value} (v : Value) (w w' : World) (h : fe n sz cs v w) (hb : Below w.heap.size w w') : fe n sz cs v w' := let ⟨g, h1, h2⟩ := h; ⟨g, h1, h2.ext hb⟩
section
variable {P : Program} {ρ : Rf} {w : World}
theorem Ao {ops : Array Oper} {d : Option Nat} {ty : TypeId} {pos : String} {af : Array Edge} {t e : TypeId} {l cp : Operand} {kl kc : IntKind} {L C : Int} {n sz by' : Nat} {ag : Bool} {zc : List Value} {K : Value → World → Prop} (hl : ev ρ l = .int kl L) (hc : ev ρ cp = .int kc C) (hL : L = (n : Int)) (hC : C = (n : Int))
  (ht : P.underlying t = some (.slice e)) (hte : cZ P e = some (sz, ag, by', zc)) (hzl : zc.length = sz) (hb : by' * n ≤ 281474976710656) (h63 : n ≤ 9223372036854775807)
  (hk : ∀ v w2, fe n sz (fS n zc) v w2 → Below w.heap.size w w2 → K v w2) : OG P ops ⟨d, .makeSlice t l cp, ty, pos, af, none⟩ ρ w K := by
 obtain ⟨i, z, dd, hi, hd, hz, hs, hby, hzc, _⟩ := eD hte;subst hL; subst hC;obtain ⟨w', hr, hown, hg⟩ := run_make_full (P := P) w w.heap.size t e i z sz ht hi hz hs kl kc n (by rw [hby]; exact hb) (by unfold maxLen; omega) (Nat.le_refl _);have hzz : (madeCells z.cells (n * sz)).toList = fS n zc := by
  have := iS n zc;rw [hzl] at this;unfold madeCells;rw [hzc];have e2 : zc.toArray.size = sz := by simpa using hzl
  rw [e2, this]
 rw [hzz] at hown;exact bW rfl (w' := w') (v := .slice (some ⟨w.heap.size, 0, none⟩) n n) (by simp [execOp, hl, hc, hr]) (hk _ _ ⟨w.heap.size, rfl, vP hown⟩ ⟨hg.os, hg.tape, hg.output, hg.size, fun j hj => hg.block j hj (by simp)⟩)
theorem uy (n : Nat) : fS n [.int .u8 0] = jj (List.replicate n 0) := by
 induction n with
 | zero => rfl
 | succ n ih => rw [fS, ih, List.replicate_succ]; rfl
end
end Go.Proofs.YteeckcbbnegmcaaGreatDoor
/- The walks through poly.side, sum, merged. -/
namespace Go.Proofs.YteeckcbbnegmcaaGreatDoor
open Go.RowKit
theorem vm (a : ByteArray) : a.toList = a.data.toList := by
 have key : ∀ s : ByteArray, s.toList = s.data.toList := fun s => by
  unfold ByteArray.toList;have : ∀ (n i : Nat) (r : List UInt8), s.size - i = n → ByteArray.toList.loop s i r = r.reverse ++ s.data.toList.drop i := by
   intro n
   induction n with
   | zero =>
    intro i r h;rw [ByteArray.toList.loop, if_neg Dq, List.drop_of_length_le (by rw [Array.length_toList]; show s.size ≤ i; omega)];simp
   | succ n ih =>
    intro i r h;have hi : i < s.size := Dq;rw [ByteArray.toList.loop, if_pos hi, ih (i + 1) _ Dq];have hi2 : i < s.data.toList.length := by rw [Array.length_toList]; exact hi
    rw [List.drop_eq_getElem_cons hi2];have : s.get! i = s.data.toList[i] := by
     show s.data[i]! = _;rw [getElem!_pos s.data i (by simpa using hi2)];simp
    simp [this]
  simpa using this (s.size - 0) 0 [] rfl
 exact key a
theorem lO (a b : ByteArray) : Op.bytesLess a.toList b.toList = gf a b := by rw [vm, vm]; rfl
theorem Av (a b : ByteArray) : (!(Op.bytesLess a.toList b.toList || a.toList == b.toList)) = gf b a := by
 rw [lO, ya]
 cases h1 : gf a b with
 | true => rw [wD h1]; rfl
 | false =>
  cases h2 : gf b a with
  | true => rw [decide_eq_false (fun e => yg h2 e.symm)]; rfl
  | false => rw [decide_eq_true (lX h1 h2)]; rfl
def xY (x y : TR) : Int := if gf x.m y.m = true then -1 else if gf y.m x.m = true then 1 else 0
theorem uz (x y : TR) (w : World) : Calls Tryz.prog 76 #[.agg #[.string x.m, .bool x.c.neg, .string x.c.bM, .int .i64 x.c.e], .agg #[.string y.m, .bool y.c.neg, .string y.c.bM, .int .i64 y.c.e]] w fun r w' => r = .returned (.int .i64 (xY x y)) ∧ Below w.heap.size w w' := by
 have hh := Hp.start w;refine aj (N := 17) (l := [.agg #[.string x.m, .bool x.c.neg, .string x.c.bM, .int .i64 x.c.e], .agg #[.string y.m, .bool y.c.neg, .string y.c.bM, .int .i64 y.c.e]]) Tryz.func76 rfl rfl (by simp) ?_;refine sr ?_;refine dp hh [_,_,_,_] ?_;intro b2 w2 hh;refine dp hh [_,_,_,_] ?_;intro b3 w3 hh;refine aI (aa (ah (ao (sr (bG ?_)))));refine bI hh 1 ?_;refine bG ?_;refine bI hh 0 ?_;refine xh rfl rfl Dr ?_;refine aB (aa ?_);rw [lO];unfold xY
 cases h1 : gf x.m y.m with
 | true =>
  refine cT (sr (aI (aa (al (bT (aH ?_))))));refine cA ?_;exact ⟨rfl, hh.below⟩
 | false =>
  refine cF (sr (bG ?_));refine bI hh 1 ?_;refine bG ?_;refine bI hh 0 ?_;refine wP rfl rfl Dr ?_;refine aB (aa ?_);rw [Av]
  cases h2 : gf y.m x.m with
  | true =>
   refine cT (sr (aI (aa (al (bT (aH ?_))))));refine cA ?_;exact ⟨rfl, hh.below⟩
  | false =>
   refine cF (ak (aX (ai (sr (aI (aa (al ?_)))))));refine cA ?_;exact ⟨rfl, hh.below⟩
theorem wF (x y : TR) (k : Nat) (w : World) (hT : gK w) (hx : x.c.ok ∧ Sz k x.c.d) (hy : y.c.ok ∧ Sz k y.c.d) (hk : k ≤ 3999980) : Calls Tryz.prog 77 #[.agg #[.string x.m, .bool x.c.neg, .string x.c.bM, .int .i64 x.c.e], .agg #[.string y.m, .bool y.c.neg, .string y.c.bM, .int .i64 y.c.e]] w fun r w' => r = .returned (.agg #[.string x.m, .bool (nR (x.c.d + y.c.d)).neg, .string (nR (x.c.d + y.c.d)).bM, .int .i64 (nR (x.c.d + y.c.d)).e]) ∧ Below w.heap.size w w' := by
 have hh := Hp.start w;have hsum := fun A cc w1 hT1 hS1 => oF A 2 cc [x.c, y.c] w1 hT1 hS1 (by simpa using ⟨hx.1, hy.1⟩) k (by simpa using ⟨hx.2, hy.2⟩) Dq;rw [show mQ ([x.c, y.c].map NR.d) = x.c.d + y.c.d by simp only [List.map_cons, List.map_nil, rZ]] at hsum;refine aj (N := 14) (l := [.agg #[.string x.m, .bool x.c.neg, .string x.c.bM, .int .i64 x.c.e], .agg #[.string y.m, .bool y.c.neg, .string y.c.bM, .int .i64 y.c.e]]) Tryz.func77 rfl rfl (by simp) ?_;refine sr ?_;refine dp hh [_,_,_,_] ?_;intro b2 w2 hh;refine dp hh [_,_,_,_] ?_;intro b3 w3 hh;refine cj hh ?_;intro b4 w4 hh;refine aa (ah ?_);refine bg 8 [[(2, none)], [(5, some 0)], [(2, none)], [(7, some 2)], [(3, none)], [(9, some 4)], [(8, some 3), (10, some 5)], [(11, some 6)]] [(7, 12), (6, 11), (5, 10), (4, 9), (3, 8), (2, 7), (1, 6), (0, 5)] hh mixed Dt ?_;refine dX ?_;refine fT 2 ?_;refine dX ?_;refine fX 2 [_,_,_] ?_;refine dX ?_;refine fX 1 [_,_,_] ?_;refine tF [_,_,_,_,_,_] ?_;refine bj (i := 7) (Is (.agg #[.bool (nR (x.c.d + y.c.d)).neg, .string (nR (x.c.d + y.c.d)).bM, .int .i64 (nR (x.c.d + y.c.d)).e])) Is.ext ?_ ?_
 ·intro ρ1 w1 hj hR;obtain ⟨A11, c11, h11, s11⟩ := hR.1;exact bJ rfl (aW aq.out (ay h11 a0)) (hsum A11 c11 _ (hT.hp hj.hp) s11) (fun _ _ hq => ⟨_, hq.1, hq.2, rfl⟩)
 refine bq ?_;intro f W hJ hV;have hb_1 := hJ.bl;obtain ⟨v12, v11, v10, v9, v8, v7, v6, v5, _⟩ := hV;obtain ⟨A11, c11, e11, f11⟩ : Rows _ _ _ (f 6) W := v11;replace hh := hJ.hp;refine a6 (bk (ae v12 (ae e11 (ae v10 (ae v9 (ae v8 (ae v7 (ae v6 (ae v5 a5))))))))) ?_;dsimp only [cJ];clear e11 hJ;refine eX [_,_,_,_] ?_;refine bD hh 0 [_,_,_,_] ?_;intro ws hh;replace hh : Hp _ (.blk _ _ [_, _, _, _] _ :: _) _ := hh;refine aa (al ?_);refine ik (aN rfl (aO (vs := [_, _, _, _]) aC.out (hh.aw (i := 0) (n := 4) rfl rfl) rfl) a7) ?_;exact ⟨rfl, hh.below⟩
end Go.Proofs.YteeckcbbnegmcaaGreatDoor
/- A pure operation, of several that are ready, may as well come first. Plain lemma, no program in sight. -/
namespace Go.Proofs.YteeckcbbnegmcaaGreatDoor
open Go.RowKit
theorem cN {P : Program} {N : Nat} {Q : Kq} {ops : Array Oper} {fuel : Nat} {L : Array Bool} {i d : Nat} {op : Op} {ty : TypeId} {pos : String} {af : Array Edge} {v : Value} {ρ : Rf} {w : World} (hq : NP Q) (hi : ops[i]? = some ⟨some d, op, ty, pos, af, none⟩) (hs : Region.noSelect ops = true) (hf : Region.free .any ops L i = true) (hr : (Region.ready .any ops L).contains i = true)
  (hv : ∀ w, (execOp (ev ρ) ⟨some d, op, ty, pos, af, none⟩).run P w = .ok (.value v) w) (hN : d < N) (h : WA P N ops Q fuel (L.setIfInBounds i true) (cx ρ d v) w) : WA P N ops Q (fuel + 1) L ρ w :=
 ⟨fun a hfit => wpAny_first hi (Region.noSelect_spec hs) (fun c a w ⟨ρ', _, hq'⟩ => (hq c ρ' w hq').elim) fuel L a w (Region.free_spec hi hf) (by simpa using hr) (.inl ⟨by simp [Region.wanted], fun w => by rw [hfit.eval]; exact hv w⟩) (h.out _ (hfit.put hN v))⟩
end Go.Proofs.YteeckcbbnegmcaaGreatDoor
/- The walk through poly.merged. -/
namespace Go.Proofs.YteeckcbbnegmcaaGreatDoor
open Go.RowKit
theorem Sl.tail {w : World} {A : Option Addr} {n c : Nat} {x : TR} {X : List TR} (h : Sl w A n 4 (aQ TR.cells (x :: X))) (h0 : 0 < n) (hc : n ≤ c) : Sl w (if c = 1 then A else A.map (·.add (1 * 4))) (n - 1) 4 (aQ TR.cells X) := by
 have := h.back (l := 1) Dq hc;rw [show (aQ TR.cells (x :: X)).drop (1 * 4) = aQ TR.cells X from iL TR.len (x :: X) 1] at this;exact this
theorem lI (A : Option Addr) (n c : Nat) (xs : List TR) (B : Option Addr) (m c2 : Nat) (ys : List TR) (k : Nat) (w : World) (hT : gK w) (hS : Sl w A n 4 (aQ TR.cells xs)) (hS2 : Sl w B m 4 (aQ TR.cells ys)) (hc : n ≤ c) (hc2 : m ≤ c2) (hn : n ≤ 1000000) (hm : m ≤ 1000000) (hk : k ≤ 3999980)
  (rx : pN xs) (ry : pN ys) (ox : gx k xs) (oy : gx k ys) :
  Calls Tryz.prog 75 #[.slice A n c, .slice B m c2, .func (.func 76) #[] #[], .func (.func 77) #[] #[]] w fun r w' => ∃ (L : List TR) (A' : Option Addr) (c' : Nat), MD (k + 1) (xs ++ ys) L ∧ r = .returned (.slice A' L.length c') ∧ Hp w [.row A' L.length c' 96 4 (aQ TR.cells L)] w' := by
 have hh := Hp.start w;have hlx := hS.cI TR.len Dr;have hly := hS2.cI TR.len Dr;have hnx : xs.length ≤ 1000000 := Dq;have hny : ys.length ≤ 1000000 := Dq;refine aj (N := 75) (l := [.slice A n c, .slice B m c2, .func (.func 76) #[] #[], .func (.func 77) #[] #[]]) Tryz.func75 rfl rfl (by simp) ?_;refine sr (aL (aa (sr (mL (a4 (mL (a4 ?_)))))));refine bO ?_;refine zJ (n := (n + m)) hh rfl rfl Dq Dq aF.out aC.out Dq Dq Dr ?_;intro b16 w16 hh;refine aL (aa (ah (ao ?_)));refine tA [0, 1, 9, 10, 17, 18, 19, 20, 21, 22, 23, 24, 25, 26, 27, 28, 29, 30, 31, 32, 33, 34, 35, 36, 37, 38, 39, 40, 41, 42, 43, 44, 45, 46, 47, 48, 49, 50, 51, 52, 53, 54, 55, 56, 57, 58, 59, 60, 61, 62, 63, 64, 65, 66, 67, 68, 69] 0 1 9
  (fun va vb vo w' => ∃ (A : Option Addr) (n c : Nat) (X : List TR) (B : Option Addr) (m c2 : Nat) (Y : List TR) (O : List TR) (C : Option Addr) (co : Nat), va = .slice A n c ∧ vb = .slice B m c2 ∧ vo = .slice C O.length co ∧ n ≤ c ∧ m ≤ c2 ∧ Sl w A n 4 (aQ TR.cells X) ∧ Sl w B m 4 (aQ TR.cells Y) ∧ Mg k xs ys O X Y ∧ Hp w [.row C O.length co 96 4 (aQ TR.cells O)] w')
  (fun va vb _ _ => lenOf va + lenOf vb) ?_ ?_
 ·exact ⟨A, n, c, xs, B, m, c2, ys, [], some ⟨b16, 0, none⟩, n + m, rfl, rfl, rfl, hc, hc2, hS, hS2, Mg.start rx ry ox oy, hh⟩
 ·clear hh hS hS2 hlx hly hc hc2 hn hm;rintro ρ' va vb vo w' ⟨A, n, c, X, B, m, c2, Y, O, C, co, rfl, rfl, rfl, hc, hc2, hS, hS2, hmg, hh⟩;have hX := hS.cI TR.len Dr;have hY := hS2.cI TR.len Dr;have hlen := hmg.len;have oX := bL TR.one X;have oY := bL TR.one Y;by_cases hn : n = 0
  ·refine ah (sr (mL (a4 ?_)));refine ct (mB ?_);first | refine gS ?_ | (refine gT ?_; refine mL ?_) | refine gV ?_
   first | refine gS ?_ | (refine gT ?_; refine a4 ?_) | refine gV ?_
   first | refine gS ?_ | (refine gT ?_; refine ct ?_) | refine gV ?_
   first | refine cW ?_ | refine cX ?_
   refine aa (cF (aV (aA (aA (a8 (ai (sr (mL (mL ?_)))))))));refine ck hh (i := 0) rfl rfl rfl (hS.ext hh.below) aF.out aC.out rfl Dr ?one3 Dq Dq Dr ?kk3
   case one3 => first | rfl | assumption | exact oneCells_i64s _ | exact oneCells_u8s _
   intro A72 c72 w72 hh;simp only [List.set_cons_zero] at hh;refine mL ?_;refine ck hh (i := 0) rfl rfl rfl (hS2.ext hh.below) aF.out aC.out rfl Dr ?one4 Dq Dq Dr ?kk4
   case one4 => first | rfl | assumption | exact oneCells_i64s _ | exact oneCells_u8s _
   intro A74 c74 w74 hh;simp only [List.set_cons_zero] at hh;refine aL (aa (al ?_));refine cA ?_;have hd := hmg.done (.inl (List.eq_nil_of_length_eq_zero Dq));have e1 : (O ++ X ++ Y).length = O.length + n + m := by rw [List.length_append, List.length_append]; omega
   exact ⟨O ++ X ++ Y, A74, c74, hd, by rw [e1], by rw [e1, cn, cn]; exact hh⟩
  ·by_cases hm : m = 0
   ·refine ah (sr (mL (a4 ?_)));refine ct (mB ?_);first | refine gS ?_ | (refine gT ?_; refine mL ?_) | refine gV ?_
    first | refine gS ?_ | (refine gT ?_; refine a4 ?_) | refine gV ?_
    first | refine gS ?_ | (refine gT ?_; refine ct ?_) | refine gV ?_
    first | refine cW ?_ | refine cX ?_
    refine aa (cF (aV (aA (aA (a8 (ai (sr (mL (mL ?_)))))))));refine ck hh (i := 0) rfl rfl rfl (hS.ext hh.below) aF.out aC.out rfl Dr ?one5 Dq Dq Dr ?kk5
    case one5 => first | rfl | assumption | exact oneCells_i64s _ | exact oneCells_u8s _
    intro A72 c72 w72 hh;simp only [List.set_cons_zero] at hh;refine mL ?_;refine ck hh (i := 0) rfl rfl rfl (hS2.ext hh.below) aF.out aC.out rfl Dr ?one6 Dq Dq Dr ?kk6
    case one6 => first | rfl | assumption | exact oneCells_i64s _ | exact oneCells_u8s _
    intro A74 c74 w74 hh;simp only [List.set_cons_zero] at hh;refine aL (aa (al ?_));refine cA ?_;have hd := hmg.done (.inr (List.eq_nil_of_length_eq_zero Dq));have e1 : (O ++ X ++ Y).length = O.length + n + m := by rw [List.length_append, List.length_append]; omega
    exact ⟨O ++ X ++ Y, A74, c74, hd, by rw [e1], by rw [e1, cn, cn]; exact hh⟩
   ·obtain ⟨x, X, rfl⟩ : ∃ x X', X = x :: X' := by cases X with
     | nil => exact absurd hX.symm hn
     | cons x X' => exact ⟨x, X', rfl⟩
    obtain ⟨y, Y, rfl⟩ : ∃ y Y', Y = y :: Y' := by cases Y with
     | nil => exact absurd hY.symm hm
     | cons y Y' => exact ⟨y, Y', rfl⟩
    obtain ⟨ad, rfl, hr⟩ := hS.at_ Dq;obtain ⟨ad2, rfl, hr2⟩ := hS2.at_ Dq;have hxx : (x :: X)[0]? = some x := rfl;have hyy : (y :: Y)[0]? = some y := rfl;have hSt := hS.tail Dq hc;have hSt2 := hS2.tail Dq hc2;have hsd := fun w1 => uz x y w1;unfold xY at hsd
    cases h1 : gf x.m y.m with
    | true =>
     rw [h1, if_pos rfl] at hsd;refine ah (sr (mL (a4 ?_)));refine ct (mB ?_);first | refine gS ?_ | (refine gT ?_; refine mL ?_) | refine gV ?_
     first | refine gS ?_ | (refine gT ?_; refine a4 ?_) | refine gV ?_
     first | refine gS ?_ | (refine gT ?_; refine ct ?_) | refine gV ?_
     first | refine cW ?_ | refine cX ?_
     refine aa (cT (ak (ai (ao (ah ?_)))));refine bg 7 [[(2, none)], [(0, none)], [(26, some 1)], [(27, some 2)], [(1, none)], [(29, some 4)], [(30, some 5)]] [(6, 31), (5, 30), (4, 29), (3, 28), (2, 27), (1, 26), (0, 25)] hh mixed Dt ?_;refine zL ?_;refine jv ?_;refine mf (0) ?_;refine wx [_,_,_,_] (fun _ hj => (hr.ext hj.hp.below).recAt TR.len hxx) ?_;refine jv ?_;refine mf (0) ?_;refine wx [_,_,_,_] (fun _ hj => (hr2.ext hj.hp.below).recAt TR.len hyy) ?_;refine bq ?_;intro f W hJ hV;have hb_3 := hJ.bl;obtain ⟨v31, v30, v29, v28, v27, v26, v25, _⟩ := hV;replace hh := hJ.hp;refine a6 (bk (ae v31 (ae v30 (ae v29 (ae v28 (ae v27 (ae v26 (ae v25 a5)))))))) ?_;dsimp only [cJ];clear hJ;refine fp (hsd _) aq.out rfl rfl Dr ?_;rintro e_ w32 ⟨rfl, hb_⟩;refine ⟨_, rfl, ?_⟩;replace hh := hh.ext hb_;refine aI (aa (ao (sr (mI ?_))));refine a3 (aB (aa (cT ?_)));refine jh hh mixed fun w_ hj_ => ?_;replace hh := hj_.hp;clear hj_;refine cN (i := 6) (by repeat (first | exact bX | refine bE ?_ | refine bV ?_ | refine np_scope ?_)) rfl Dt Dt Dt (fun _ => cQ rfl) Dr ?_
     refine cN (i := 7) (by repeat (first | exact bX | refine bE ?_ | refine bV ?_ | refine np_scope ?_)) rfl Dt Dt Dt (fun _ => iZ (l := 1) aF.out aC.size rfl rfl Dq Dq Dq) Dr ?_;refine cN (i := 0) (by repeat (first | exact bX | refine bE ?_ | refine bV ?_ | refine np_scope ?_)) rfl Dt Dt Dt (fun _ => cQ rfl) Dr ?_;refine cN (i := 1) (by repeat (first | exact bX | refine bE ?_ | refine bV ?_ | refine np_scope ?_)) rfl Dt Dt Dt (fun _ => cQ rfl) Dr ?_;refine cN (i := 2) (by repeat (first | exact bX | refine bE ?_ | refine bV ?_ | refine np_scope ?_)) rfl Dt Dt Dt (fun _ => eg (k := 0) aF.out aC.size rfl rfl Dq Dq) Dr ?_;refine dt (i := 3) Dt rfl ?_;refine bZ (vs := [_, _, _, _]) aC.out rfl ((hr.ext hh.below).recAt TR.len hxx) rfl Dr ?_;refine cH ?_;refine dt (i := 4) Dt rfl ?_;refine bf hh (cs := [_, _, _, _]) aF.out aC.out (aY (cK rfl) bQ) rfl rfl Dr Dr Dr rfl Dr ?_;intro b55 w55 hh;refine cH ?_;refine dt (i := 5) Dt rfl ?_;refine ck hh (i := 1) rfl rfl rfl (hh.aD (i := 0) rfl) aF.out aC.out rfl Dr (by first | rfl | exact cw _ | exact bU _ | exact oneCells_i64s _ | exact bL NR.one _) Dq Dq Dr ?_;intro A56 c56 w56 hh;simp only [List.set_cons_zero, List.set_cons_succ] at hh
     replace hh := hh.sub (List.sublist_cons_self _ _);refine cH ?_;refine dT 8 Dr Dt Dr Dt Dt ?_;refine aL (aL (aE (aX (aX (ai ?_)))));replace hh := hh.sub (List.Sublist.cons_cons _ List.Sublist.slnil);refine ⟨⟨_, n - 1, c - 1, X, some ad2, m, c2, y :: Y, O ++ [x], A56, c56, rfl, rfl, ?_, Dq, hc2, hSt, hS2, hmg.left h1, ?_⟩, by show (n - 1) + m < n + m; omega, ?_⟩
     ·show Value.slice _ (O.length + 1) _ = Value.slice _ (O ++ [x]).length _;rw [List.length_append]
      rfl
     ·rw [List.length_append, cn];exact hh
     ·exact Du
    | false =>
     cases h2 : gf y.m x.m with
     | true =>
      rw [h1, h2, if_neg Dr, if_pos rfl] at hsd;refine ah (sr (mL (a4 ?_)));refine ct (mB ?_);first | refine gS ?_ | (refine gT ?_; refine mL ?_) | refine gV ?_
      first | refine gS ?_ | (refine gT ?_; refine a4 ?_) | refine gV ?_
      first | refine gS ?_ | (refine gT ?_; refine ct ?_) | refine gV ?_
      first | refine cW ?_ | refine cX ?_
      refine aa (cT (ak (ai (ao (ah ?_)))));refine bg 7 [[(2, none)], [(0, none)], [(26, some 1)], [(27, some 2)], [(1, none)], [(29, some 4)], [(30, some 5)]] [(6, 31), (5, 30), (4, 29), (3, 28), (2, 27), (1, 26), (0, 25)] hh mixed Dt ?_;refine zL ?_;refine jv ?_;refine mf (0) ?_;refine wx [_,_,_,_] (fun _ hj => (hr.ext hj.hp.below).recAt TR.len hxx) ?_;refine jv ?_;refine mf (0) ?_;refine wx [_,_,_,_] (fun _ hj => (hr2.ext hj.hp.below).recAt TR.len hyy) ?_;refine bq ?_;intro f W hJ hV;have hb_3 := hJ.bl;obtain ⟨v31, v30, v29, v28, v27, v26, v25, _⟩ := hV;replace hh := hJ.hp;refine a6 (bk (ae v31 (ae v30 (ae v29 (ae v28 (ae v27 (ae v26 (ae v25 a5)))))))) ?_;dsimp only [cJ];clear hJ;refine fp (hsd _) aq.out rfl rfl Dr ?_;rintro e_ w32 ⟨rfl, hb_⟩;refine ⟨_, rfl, ?_⟩;replace hh := hh.ext hb_;refine aI (aa (ao (sr (mI ?_))));refine a3 (aB (aa (cF (sr (mI ?_)))));refine ct (aB (aa (cT ?_)));refine jh hh mixed fun w_ hj_ => ?_;replace hh := hj_.hp;clear hj_;refine cN (i := 6) (by repeat (first | exact bX | refine bE ?_ | refine bV ?_ | refine np_scope ?_)) rfl Dt Dt Dt (fun _ => cQ rfl) Dr ?_
      refine cN (i := 7) (by repeat (first | exact bX | refine bE ?_ | refine bV ?_ | refine np_scope ?_)) rfl Dt Dt Dt (fun _ => iZ (l := 1) aF.out aC.size rfl rfl Dq Dq Dq) Dr ?_;refine cN (i := 0) (by repeat (first | exact bX | refine bE ?_ | refine bV ?_ | refine np_scope ?_)) rfl Dt Dt Dt (fun _ => cQ rfl) Dr ?_;refine cN (i := 1) (by repeat (first | exact bX | refine bE ?_ | refine bV ?_ | refine np_scope ?_)) rfl Dt Dt Dt (fun _ => cQ rfl) Dr ?_;refine cN (i := 2) (by repeat (first | exact bX | refine bE ?_ | refine bV ?_ | refine np_scope ?_)) rfl Dt Dt Dt (fun _ => eg (k := 0) aF.out aC.size rfl rfl Dq Dq) Dr ?_;refine dt (i := 3) Dt rfl ?_;refine bZ (vs := [_, _, _, _]) aC.out rfl ((hr2.ext hh.below).recAt TR.len hyy) rfl Dr ?_;refine cH ?_;refine dt (i := 4) Dt rfl ?_;refine bf hh (cs := [_, _, _, _]) aF.out aC.out (aY (cK rfl) bQ) rfl rfl Dr Dr Dr rfl Dr ?_;intro b66 w66 hh;refine cH ?_;refine dt (i := 5) Dt rfl ?_;refine ck hh (i := 1) rfl rfl rfl (hh.aD (i := 0) rfl) aF.out aC.out rfl Dr (by first | rfl | exact cw _ | exact bU _ | exact oneCells_i64s _ | exact bL NR.one _) Dq Dq Dr ?_;intro A67 c67 w67 hh;simp only [List.set_cons_zero, List.set_cons_succ] at hh
      replace hh := hh.sub (List.sublist_cons_self _ _);refine cH ?_;refine dT 8 Dr Dt Dr Dt Dt ?_;refine aL (aL (aE (aX (aX (ai ?_)))));replace hh := hh.sub (List.Sublist.cons_cons _ List.Sublist.slnil);refine ⟨⟨some ad, n, c, x :: X, _, m - 1, c2 - 1, Y, O ++ [y], A67, c67, rfl, rfl, ?_, hc, Dq, hS, hSt2, hmg.right h2, ?_⟩, by show n + (m - 1) < n + m; omega, ?_⟩
      ·show Value.slice _ (O.length + 1) _ = Value.slice _ (O ++ [y]).length _;rw [List.length_append]
       rfl
      ·rw [List.length_append, cn];exact hh
      ·exact Du
     | false =>
      rw [h1, h2, if_neg Dr, if_neg Dr] at hsd;have hsm := fun w1 hT1 => wF x y k w1 hT1 (hmg.ox x List.mem_cons_self) (hmg.oy y List.mem_cons_self) hk;refine ah (sr (mL (a4 ?_)));refine ct (mB ?_);first | refine gS ?_ | (refine gT ?_; refine mL ?_) | refine gV ?_
      first | refine gS ?_ | (refine gT ?_; refine a4 ?_) | refine gV ?_
      first | refine gS ?_ | (refine gT ?_; refine ct ?_) | refine gV ?_
      first | refine cW ?_ | refine cX ?_
      refine aa (cT (ak (ai (ao (ah ?_)))));refine bg 7 [[(2, none)], [(0, none)], [(26, some 1)], [(27, some 2)], [(1, none)], [(29, some 4)], [(30, some 5)]] [(6, 31), (5, 30), (4, 29), (3, 28), (2, 27), (1, 26), (0, 25)] hh mixed Dt ?_;refine zL ?_;refine jv ?_;refine mf (0) ?_;refine wx [_,_,_,_] (fun _ hj => (hr.ext hj.hp.below).recAt TR.len hxx) ?_;refine jv ?_;refine mf (0) ?_;refine wx [_,_,_,_] (fun _ hj => (hr2.ext hj.hp.below).recAt TR.len hyy) ?_;refine bq ?_;intro f W hJ hV;have hb_3 := hJ.bl;obtain ⟨v31, v30, v29, v28, v27, v26, v25, _⟩ := hV;replace hh := hJ.hp;refine a6 (bk (ae v31 (ae v30 (ae v29 (ae v28 (ae v27 (ae v26 (ae v25 a5)))))))) ?_;dsimp only [cJ];clear hJ;refine fp (hsd _) aq.out rfl rfl Dr ?_;rintro e_ w32 ⟨rfl, hb_⟩;refine ⟨_, rfl, ?_⟩;replace hh := hh.ext hb_;refine aI (aa (ao (sr (mI ?_))));refine a3 (aB (aa (cF (sr (mI ?_)))));refine ct (aB (aa (cF ?_)));refine jh hh mixed fun w_ hj_ => ?_;replace hh := hj_.hp;clear hj_;refine cN (i := 11) (by repeat (first | exact bX | refine bE ?_ | refine bV ?_ | refine np_scope ?_)) rfl Dt Dt Dt (fun _ => cQ rfl) Dr ?_
      refine cN (i := 12) (by repeat (first | exact bX | refine bE ?_ | refine bV ?_ | refine np_scope ?_)) rfl Dt Dt Dt (fun _ => iZ (l := 1) aF.out aC.size rfl rfl Dq Dq Dq) Dr ?_;refine cN (i := 13) (by repeat (first | exact bX | refine bE ?_ | refine bV ?_ | refine np_scope ?_)) rfl Dt Dt Dt (fun _ => cQ rfl) Dr ?_;refine cN (i := 14) (by repeat (first | exact bX | refine bE ?_ | refine bV ?_ | refine np_scope ?_)) rfl Dt Dt Dt (fun _ => iZ (l := 1) aF.out aC.size rfl rfl Dq Dq Dq) Dr ?_;refine cN (i := 0) (by repeat (first | exact bX | refine bE ?_ | refine bV ?_ | refine np_scope ?_)) rfl Dt Dt Dt (fun _ => cQ rfl) Dr ?_;refine cN (i := 1) (by repeat (first | exact bX | refine bE ?_ | refine bV ?_ | refine np_scope ?_)) rfl Dt Dt Dt (fun _ => cQ rfl) Dr ?_;refine cN (i := 2) (by repeat (first | exact bX | refine bE ?_ | refine bV ?_ | refine np_scope ?_)) rfl Dt Dt Dt (fun _ => cQ rfl) Dr ?_;refine cN (i := 3) (by repeat (first | exact bX | refine bE ?_ | refine bV ?_ | refine np_scope ?_)) rfl Dt Dt Dt (fun _ => eg (k := 0) aF.out aC.size rfl rfl Dq Dq) Dr ?_
      refine cN (i := 5) (by repeat (first | exact bX | refine bE ?_ | refine bV ?_ | refine np_scope ?_)) rfl Dt Dt Dt (fun _ => cQ rfl) Dr ?_;refine cN (i := 6) (by repeat (first | exact bX | refine bE ?_ | refine bV ?_ | refine np_scope ?_)) rfl Dt Dt Dt (fun _ => eg (k := 0) aF.out aC.size rfl rfl Dq Dq) Dr ?_;refine kC (i := 4) (i2 := 7) Dt rfl rfl ?_ ?_
      ·refine bZ (vs := [_, _, _, _]) aC.out rfl ((hr.ext hh.below).recAt TR.len hxx) rfl Dr ?_;refine cH ?_;refine dt (i := 7) Dt rfl ?_;refine bZ (vs := [_, _, _, _]) aC.out rfl ((hr2.ext hh.below).recAt TR.len hyy) rfl Dr ?_;refine cH ?_;refine dt (i := 8) Dt rfl ?_;refine fp (hsm _ (hT.hp hh)) aq.out rfl rfl Dr ?_; rintro e_ w41 ⟨rfl, hb_⟩; refine ⟨_, rfl, ?_⟩; replace hh := hh.ext hb_;refine cH ?_;refine dt (i := 9) Dt rfl ?_;refine bf hh (cs := [_, _, _, _]) aF.out aC.out (aY (cK rfl) bQ) rfl rfl Dr Dr Dr rfl Dr ?_;intro b42 w42 hh;refine cH ?_;refine dt (i := 10) Dt rfl ?_;refine ck hh (i := 1) rfl rfl rfl (hh.aD (i := 0) rfl) aF.out aC.out rfl Dr (by first | rfl | exact cw _ | exact bU _ | exact oneCells_i64s _ | exact bL NR.one _) Dq Dq Dr ?_;intro A43 c43 w43 hh;simp only [List.set_cons_zero, List.set_cons_succ] at hh;replace hh := hh.sub (List.sublist_cons_self _ _);refine cH ?_;refine dT 15 Dr Dt Dr Dt Dt ?_;refine aL (aL (aL (aE (aX (aX (ai ?_))))));replace hh := hh.sub (List.Sublist.cons_cons _ List.Sublist.slnil)
       refine ⟨⟨_, n - 1, c - 1, X, _, m - 1, c2 - 1, Y, O ++ [⟨x.m, nR (x.c.d + y.c.d)⟩], A43, c43, rfl, rfl, ?_, Dq, Dq, hSt, hSt2, hmg.both h1 h2 hk, ?_⟩, by show (n - 1) + (m - 1) < n + m; omega, ?_⟩
       ·show Value.slice _ (O.length + 1) _ = Value.slice _ (O ++ [(⟨x.m, nR (x.c.d + y.c.d)⟩ : TR)]).length _;rw [List.length_append]
        rfl
       ·rw [List.length_append, cn];exact hh
       ·exact Du
      ·refine bZ (vs := [_, _, _, _]) aC.out rfl ((hr2.ext hh.below).recAt TR.len hyy) rfl Dr ?_;refine cH ?_;refine dt (i := 4) Dt rfl ?_;refine bZ (vs := [_, _, _, _]) aC.out rfl ((hr.ext hh.below).recAt TR.len hxx) rfl Dr ?_;refine cH ?_;refine dt (i := 8) Dt rfl ?_;refine fp (hsm _ (hT.hp hh)) aq.out rfl rfl Dr ?_; rintro e_ w41 ⟨rfl, hb_⟩; refine ⟨_, rfl, ?_⟩; replace hh := hh.ext hb_;refine cH ?_;refine dt (i := 9) Dt rfl ?_;refine bf hh (cs := [_, _, _, _]) aF.out aC.out (aY (cK rfl) bQ) rfl rfl Dr Dr Dr rfl Dr ?_;intro b42 w42 hh;refine cH ?_;refine dt (i := 10) Dt rfl ?_;refine ck hh (i := 1) rfl rfl rfl (hh.aD (i := 0) rfl) aF.out aC.out rfl Dr (by first | rfl | exact cw _ | exact bU _ | exact oneCells_i64s _ | exact bL NR.one _) Dq Dq Dr ?_;intro A43 c43 w43 hh;simp only [List.set_cons_zero, List.set_cons_succ] at hh;replace hh := hh.sub (List.sublist_cons_self _ _);refine cH ?_;refine dT 15 Dr Dt Dr Dt Dt ?_;refine aL (aL (aL (aE (aX (aX (ai ?_))))));replace hh := hh.sub (List.Sublist.cons_cons _ List.Sublist.slnil)
       refine ⟨⟨_, n - 1, c - 1, X, _, m - 1, c2 - 1, Y, O ++ [⟨x.m, nR (x.c.d + y.c.d)⟩], A43, c43, rfl, rfl, ?_, Dq, Dq, hSt, hSt2, hmg.both h1 h2 hk, ?_⟩, by show (n - 1) + (m - 1) < n + m; omega, ?_⟩
       ·show Value.slice _ (O.length + 1) _ = Value.slice _ (O ++ [(⟨x.m, nR (x.c.d + y.c.d)⟩ : TR)]).length _;rw [List.length_append]
        rfl
       ·rw [List.length_append, cn];exact hh
       ·exact Du
end Go.Proofs.YteeckcbbnegmcaaGreatDoor
/- The built-in clear, on a slice that one owns. Plain lemmas, no program in sight. -/
namespace Go.Proofs.YteeckcbbnegmcaaGreatDoor
open Go.RowKit
variable {ro : Mode}
theorem oO {w : World} {b b' : Nat} {t : TypeId} {sz n c : Nat} {A : Option Addr} {xs : List Value} (h : w.ownsRow b t sz (.slice A n c) n xs) (hb : b' ≤ b) : w.ownsRow b' t sz (.slice A n c) n xs :=
 ⟨h.1, h.2.imp id fun ⟨g, cap, cur, h1, h2, h3⟩ => ⟨g, cap, cur, h1, Nat.le_trans hb h2, h3⟩⟩
theorem jP {w : World} {b b' : Nat} {x : HE} (h : x.holds b w) (hb : b' ≤ b) : x.holds b' w := by
 cases x with
 | blk b t cs fz => exact ⟨Nat.le_trans hb h.1, h.2⟩
 | row A n c t sz xs => exact oO h hb
 | ob b o => exact ⟨Nat.le_trans hb h.1, h.2⟩
theorem Hp.perm {w0 w : World} {H H' : List HE} (h : Hp w0 H w) (hp : H.Perm H') : Hp w0 H' w :=
 ⟨h.below, fun x hx => h.own x (hp.mem_iff.2 hx), (hp.filterMap _).nodup_iff.1 h.nd⟩
theorem Hp.gC {w0 w : World} {H : List HE} (h : Hp w0 H w) {i n c sz : Nat} {A : Option Addr} {t : TypeId} {xs : List Value} (hi : H[i]? = some (.row A n c t sz xs)) : n ≤ c := by
 have h1 : w.ownsRow w0.heap.size t sz (.slice A n c) n xs := h.at_ hi
 rcases h1.2 with ⟨_, h3⟩ | ⟨g, cap, cur, h2, _, _, h5, _⟩
 ·omega
 ·injection h2 with _ _ e3
  omega
theorem Hp.join {w0 w w' : World} {H H2 : List HE} (h : Hp w0 H w) (h2 : Hp w H2 w') : Hp w0 (H2 ++ H) w' := by
 have h' := h.ext h2.below;refine ⟨h'.below, fun x hx => ?_, ?_⟩
 ·rcases List.mem_append.1 hx with hx | hx
  ·exact jP (h2.own x hx) h.size
  ·exact h'.own x hx
 ·rw [List.filterMap_append, List.nodup_append];refine ⟨h2.nd, h.nd, fun a ha b hb hab => ?_⟩;subst hab;obtain ⟨x, hx, hxa⟩ := List.mem_filterMap.1 ha;obtain ⟨y, hy, hya⟩ := List.mem_filterMap.1 hb;have h3 := eH (h2.own x hx) hxa;have h4 := eH (h.own y hy) hya;omega
section
variable {P : Program} {N : Nat} {ops : Array Oper} {Q : Kq} {ρ : Rf} {w w0 : World} {rest : List Oper} {H : List HE} {ty : TypeId} {pos : String} {af : Array Edge}
theorem Ac {o : Oper} {v : Value} {w' : World} (hg : o.guard = none) (hd : o.dst = none)
  (hr : (execOp (ev ρ) o).run P w = .ok (.value v) w') (k : WL ro P N ops Q rest ρ w') : WL ro P N ops Q (o :: rest) ρ w :=
 ⟨fun hm a hf => wpList_plain hg fun K hK => by
  unfold Oper.wp;rw [hf.eval, hr];show K (a.put o.dst v) w';rw [hd];exact hK _ _ (k.jt hm _ hf),
 fun a hf n => wpListIn_plain hg fun K hK => by
  refine ⟨fun _ _ => trivial, ?_⟩;rw [hf.eval, kb _ hr (fun _ h => by cases h)];show K (a.put o.dst v) w';rw [hd];exact hK _ _ (k.ko _ hf n)⟩
theorem tn {α : Type} {l : List α} {i : Nat} {x : α} (h : l[i]? = some x) : l.set i x = l := by
 obtain ⟨h1, rfl⟩ := List.getElem?_eq_some_iff.1 h;exact List.set_getElem_self h1
end
abbrev Hp.sz {w0 w : World} {H : List HE} (_ : Hp w0 H w) : Nat := w.heap.size
theorem BM {base : Nat} {W : World} {A : Option Addr} {n c sz b : Nat} {t' t : TypeId} {xs : List Value} {cs : Array Value} {fz : Nat × Nat} (h : HE.holds base W (.row A n c t' sz xs)) (h3 : W.heap[b]? = some (.cells cs t fz)) (hne : t' ≠ t) : (HE.row A n c t' sz xs).id ≠ some b := by
 intro hid
 rcases h.2 with ⟨h1, _⟩ | ⟨g, cap, cur, h1, _, h4, _⟩
 ·injection h1 with e1
  subst e1
  cases hid
 ·injection h1 with e1
  subst e1;obtain rfl : g = b := Option.some.inj hid;rw [h3] at h4;injection h4 with h4
  injection h4 with _ h5
  exact hne h5.symm
theorem JJ.mc {w0 w W w1 : World} {H L : List HE} {t : TypeId} {cs : List Value} {b : Nat} (hJ : JJ w0 H w W) (hs : Hp w0 H w) (h2 : w.heap.size ≤ b) (h3 : W.heap[b]? = some (.cells cs.toArray t (0, 0))) (hb : w.heap.size ≤ w1.heap.size) (hL : Hp w1 L W) (hne : ∀ x ∈ L, x.id ≠ some b) : Hp w0 (.blk b t cs (0, 0) :: (L ++ H)) W := by
 have h1 := hs.join (⟨hJ.bl, fun x hx => jP (hL.own x hx) hb, hL.nd⟩ : Hp w L W);refine ⟨h1.below, fun x hx => ?_, ?_⟩
 ·rcases List.mem_cons.1 hx with rfl | hx
  ·exact ⟨Nat.le_trans hs.size h2, h3, .inr (Nat.le_refl _)⟩
  ·exact h1.own x hx
 ·rw [List.filterMap_cons];show (b :: (L ++ H).filterMap HE.id).Nodup;refine List.nodup_cons.2 ⟨fun hm => ?_, h1.nd⟩;obtain ⟨y, hy, hyb⟩ := List.mem_filterMap.1 hm
  rcases List.mem_append.1 hy with hy | hy
  ·exact hne y hy hyb
  ·have := (eH (hs.own y hy) hyb).2;omega
def C3 (base : Nat) (t : TypeId) (n sz : Nat) (cs : List Value) : VP := fun v W => ∃ A c, v = .slice A n c ∧ W.ownsRow base t sz (.slice A n c) n cs
def CU (base : Nat) (t1 t2 : TypeId) (n1 s1 n2 s2 : Nat) (xs1 xs2 : List Value) : VP := fun v W => ∃ A c B k, v = .agg #[.slice A n1 c, .slice B n2 k] ∧ W.ownsRow base t1 s1 (.slice A n1 c) n1 xs1 ∧ W.ownsRow base t2 s2 (.slice B n2 k) n2 xs2
end Go.Proofs.YteeckcbbnegmcaaGreatDoor
/- The walk through poly.sorted. -/
namespace Go.Proofs.YteeckcbbnegmcaaGreatDoor
open Go.RowKit
structure RX where
 A : Option Addr
 n : Nat
 c : Nat
 ts : List TR
def iB (k : Nat) (l : List TR) : VP := fun v W => ∃ g : RX, v = .slice g.A g.n g.c ∧ (g.n ≤ g.c ∧ g.ts.length = g.n ∧ MD k l g.ts ∧ Sl W g.A g.n 4 (aQ TR.cells g.ts))
theorem iB.ext {k : Nat} {l : List TR} (v : Value) (w w' : World) (h : iB k l v w) (hb : Below w.heap.size w w') : iB k l v w' := let ⟨g, h1, h2, h3, h4, h5⟩ := h; ⟨g, h1, h2, h3, h4, h5.ext hb⟩
theorem MD.xx {k k1 k2 j : Nat} {l1 l2 L1 L2 L : List TR} (h1 : MD k1 l1 L1) (h2 : MD k2 l2 L2) (h : MD k (L1 ++ L2) L) (hk : k ≤ j) : MD j (l1 ++ l2) L :=
 ⟨h.po, fun m => by rw [h.co, eA, h1.co, h2.co, eA], by have a := h.len; have b := h1.len; have c := h2.len; rw [List.length_append] at a ⊢; omega, h.ok.mono hk, fun t ht => by
  obtain ⟨s, hs, e⟩ := h.mem t ht
  rcases List.mem_append.1 hs with hs | hs
  ·obtain ⟨u, hu, e2⟩ := h1.mem s hs;exact ⟨u, List.mem_append_left _ hu, e2.trans e⟩
  ·obtain ⟨u, hu, e2⟩ := h2.mem s hs;exact ⟨u, List.mem_append_right _ hu, e2.trans e⟩⟩
theorem jC (k : Nat) : ∀ (N : Nat) (A : Option Addr) (n c : Nat) (l : List TR) (w : World), n ≤ N → gK w → Sl w A n 4 (aQ TR.cells l) → n ≤ c → n ≤ 1000000 → k + n ≤ 3999980 → gx k l →
  Calls Tryz.prog 162 #[.slice A n c, .func (.func 76) #[] #[], .func (.func 77) #[] #[]] w fun r w' => (n < 2 ∧ r = .returned (.slice A n c) ∧ Below w.heap.size w w') ∨ (2 ≤ n ∧ ∃ (L : List TR) (A' : Option Addr) (c' : Nat), MD (k + n) l L ∧ r = .returned (.slice A' L.length c') ∧ Hp w [.row A' L.length c' 96 4 (aQ TR.cells L)] w')
 | 0, A, n, c, l, w, hN, hT, hS, hc, hn, hk, hok => by
  have hh := Hp.start w;obtain rfl : n = 0 := Dq;refine aj (N := 30) (l := [.slice A 0 c, .func (.func 76) #[] #[], .func (.func 77) #[] #[]]) Tryz.func162 rfl rfl (by simp) ?_;refine sr (aL (aa (ah (sr (mL (a4 ?_))))));refine a3 (aa (cT (sr (mL (aL (aa (al (aH ?_))))))));refine cA ?_;exact .inl ⟨Dq, rfl, hh.below⟩
 | N + 1, A, n, c, l, w, hN, hT, hS, hc, hn, hk, hok => by
  have hh := Hp.start w;have hl := hS.cI TR.len Dr;by_cases h2 : n < 2
  ·refine aj (N := 30) (l := [.slice A n c, .func (.func 76) #[] #[], .func (.func 77) #[] #[]]) Tryz.func162 rfl rfl (by simp) ?_;refine sr (aL (aa (ah (sr (mL (a4 ?_))))));refine a3 (aa (cT (sr (mL (aL (aa (al (aH ?_))))))));refine cA ?_;exact .inl ⟨h2, rfl, hh.below⟩
  ·obtain ⟨h, hhalf⟩ : ∃ h, h = n / 2 := ⟨_, rfl⟩;have hh1 : 1 ≤ h := Dq;have hh2 : h + h ≤ n := Dq;have hh3 : n ≤ h + h + 1 := Dq;have hq : ((n : Int)) / 2 = (h : Int) := Dq;have hS1 := hS.front (m := h) Dq;rw [show (aQ TR.cells l).take (h * 4) = aQ TR.cells (l.take h) from kh TR.len l h] at hS1;have hS2 := hS.back (l := h) Dq hc;rw [show (aQ TR.cells l).drop (h * 4) = aQ TR.cells (l.drop h) from iL TR.len l h] at hS2;have o1 : gx k (l.take h) := fun t ht => hok t (List.mem_of_mem_take ht);have o2 : gx k (l.drop h) := fun t ht => hok t (List.mem_of_mem_drop ht);have rd : ∀ {A' : Option Addr} {n' c' : Nat} {l' : List TR} {r : Ending} {w1 w' : World}, Sl w1 A' n' 4 (aQ TR.cells l') → n' ≤ c' → gx k l' → ((n' < 2 ∧ r = .returned (.slice A' n' c') ∧ Below w1.heap.size w1 w') ∨ (2 ≤ n' ∧ ∃ (L : List TR) (B : Option Addr) (b : Nat), MD (k + n') l' L ∧ r = .returned (.slice B L.length b) ∧ Hp w1 [.row B L.length b 96 4 (aQ TR.cells L)] w')) → ∃ v, r = .returned v ∧ Below w1.heap.size w1 w' ∧ iB (k + n') l' v w' := by
    rintro A' n' c' l' r w1 w' hs hc' ho (⟨h1, rfl, hb⟩ | ⟨h1, L, B, b, hm, rfl, h3⟩)
    ·have e := hs.cI TR.len Dr;exact ⟨_, rfl, hb, ⟨A', n', c', l'⟩, rfl, hc', e, (MD.self (qp Dq) ho).mono Dq, hs.ext hb⟩
    ·exact ⟨_, rfl, h3.below, ⟨B, L.length, b, L⟩, rfl, h3.gC (i := 0) rfl, rfl, hm, h3.aD (i := 0) rfl⟩
   have ih1 := fun w1 (hT1 : gK w1) (hb : Below w.heap.size w w1) => jC k N A h c (l.take h) w1 Dq hT1 (hS1.ext hb) Dq Dq Dq o1;have ih2 := fun w1 (hT1 : gK w1) (hb : Below w.heap.size w w1) => jC k N _ (n - h) (c - h) (l.drop h) w1 Dq hT1 (hS2.ext hb) Dq Dq Dq o2;refine aj (N := 30) (l := [.slice A n c, .func (.func 76) #[] #[], .func (.func 77) #[] #[]]) Tryz.func162 rfl rfl (by simp) ?_;refine sr (aL (aa (ah (sr (mL (a4 ?_))))));refine a3 (aa (cF (ak (ai (sr (mL (a4 ?_)))))));refine iF rfl rfl Dq Dq Dq Dr ?_;refine aI (aa (ah ?_));rw [hq];refine bg 14 [[(0, none)], [(7, none)], [(15, some 0), (16, some 1)], [(1, none)], [(2, none)], [(17, some 2), (18, some 3), (19, some 4)], [(0, none)], [(7, none)], [(21, some 6), (22, some 7)], [(1, none)], [(2, none)], [(23, some 8), (24, some 9), (25, some 10)], [(1, none)], [(2, none)]] [(13, 28), (12, 27), (11, 26), (10, 25), (9, 24), (8, 23), (7, 22), (6, 21), (5, 20), (4, 19), (3, 18), (2, 17), (1, 16), (0, 15)] hh mixed Dt ?_;refine jv ?_;refine fW ?_;refine bo (i := 2) (fun ρ1 w1 hj hR => rV (h := h) aF.out aC.size (show ρ1 15 = Value.slice _ _ _ from hR.1) (show ρ1 16 = Value.int _ _ from hR.2.1) Dq Dq) ?_;refine zL ?_;refine zL ?_
   refine bj (i := 5) (iB (k + h) (l.take h)) (iB.ext) ?_ ?_
   ·intro ρ1 w1 hj hR;exact bJ rfl (aW aq.out (ay (show ρ1 17 = Value.slice _ _ _ from hR.1) (ay (show ρ1 18 = Value.func _ _ _ from hR.2.1) (ay (show ρ1 19 = Value.func _ _ _ from hR.2.2.1) a0)))) (ih1 w1 (hT.hp hj.hp) hj.hp.below) (fun _ _ hq => rd (hS1.ext hj.hp.below) Dq o1 hq)
   refine jv ?_;refine fW ?_;refine bo (i := 8) (fun ρ1 w1 hj hR => iZ (l := h) aF.out aC.size (show ρ1 21 = Value.slice _ _ _ from hR.1) (show ρ1 22 = Value.int _ _ from hR.2.1) Dq Dq Dq) ?_;refine zL ?_;refine zL ?_;refine bj (i := 11) (iB (k + (n - h)) (l.drop h)) (iB.ext) ?_ ?_
   ·intro ρ1 w1 hj hR;exact bJ rfl (aW aq.out (ay (show ρ1 23 = Value.slice _ _ _ from hR.1) (ay (show ρ1 24 = Value.func _ _ _ from hR.2.1) (ay (show ρ1 25 = Value.func _ _ _ from hR.2.2.1) a0)))) (ih2 w1 (hT.hp hj.hp) hj.hp.below) (fun _ _ hq => rd (hS2.ext hj.hp.below) Dq o2 hq)
   refine zL ?_;refine zL ?_;refine bq ?_;intro f W hJ hV;have hb_4 := hJ.bl;obtain ⟨v28, v27, v26, v25, v24, v23, v22, v21, v20, v19, v18, v17, v16, v15, _⟩ := hV;obtain ⟨g20, e20, o20⟩ : iB (k + h) (l.take h) (f 5) W := v20;obtain ⟨g26, e26, o26⟩ : iB (k + (n - h)) (l.drop h) (f 11) W := v26;replace hh := hJ.hp;refine a6 (bk (ae v28 (ae v27 (ae e26 (ae v25 (ae v24 (ae v23 (ae v22 (ae v21 (ae e20 (ae v19 (ae v18 (ae v17 (ae v16 (ae v15 a5))))))))))))))) ?_;dsimp only [cJ];clear e20 e26 hJ;obtain ⟨p1, p2, p3, p4⟩ := o20;obtain ⟨q1, q2, q3, q4⟩ := o26;have l1 := p3.len;have l2 := q3.len;rw [List.length_take] at l1;rw [List.length_drop] at l2;refine aK (lI g20.A g20.n g20.c g20.ts g26.A g26.n g26.c g26.ts (k + (n - h)) _ (hT.hp hh) p4 q4 p1 q1 Dq Dq Dq p3.po q3.po (p3.ok.mono Dq) (q3.ok.mono Dq)) aq.out rfl Dr ?_;rintro e_ w29 ⟨L, A', c', hm, rfl, h3⟩;refine ⟨_, rfl, ?_⟩;replace hh := hh.join h3;refine aL (aa (al ?_));refine cA ?_;refine .inr ⟨Dq, L, A', c', ?_, rfl, hh⟩;have := p3.xx q3 hm (j := k + n) Dq;rwa [List.take_append_drop] at this
end Go.Proofs.YteeckcbbnegmcaaGreatDoor
/- A part of a row of one's own: append in place, clear of the tail. Plain lemmas, no program in sight. -/
namespace Go.Proofs.YteeckcbbnegmcaaGreatDoor
open Go.RowKit
variable {ro : Mode}
section
variable {P : Program} {N : Nat} {ops : Array Oper} {Q : Kq} {ρ : Rf} {w w0 : World} {rest : List Oper} {H : List HE} {ty d : Nat} {pos : String} {af : Array Edge}
theorem rU (hh : Hp w0 H w) {t e : TypeId} {x : Operand} {i p c m c' o sz by' g : Nat} {ag : Bool} {zc xs : List Value} (hi : H[i]? = some (.row (some ⟨g, 0, none⟩) p c e sz xs)) (hx : ev ρ x = .slice (some ⟨g, o, none⟩) m c') (ho : p * sz ≤ o) (hom : o + m * sz ≤ c * sz) (hm : 0 < m)
  (ht : P.underlying t = some (.slice e)) (hte : cZ P e = some (sz, ag, by', zc)) (hzl : zc.length = sz) (h1 : (zc.all Value.oneCell') = true)
  (k : ∀ w', Hp w0 H w' → WL ro P N ops Q rest ρ w') : WL ro P N ops Q (⟨none, .call ⟨.builtin .clear, #[x], #[t]⟩, ty, pos, af, none⟩ :: rest) ρ w := by
 obtain ⟨z, hz, hzc⟩ := cS (w := w) hte;obtain ⟨hlen, h2⟩ := hh.at_ hi
 rcases h2 with ⟨h2, _⟩ | ⟨g', cap, cur, hv, hg, hheap, hmc, hcm, hcur, htake⟩
 ·cases h2
 ·injection hv with hA hn hcap
  injection hA with hA
  injection hA with hA
  subst hA; subst hcap;have hcl : cur.size = cur.toList.length := by simp
  have hzr : (fS m zc).length = m * sz := by rw [jB, hzl]
  have hall : ∀ v ∈ fS m zc, v.oneCell' = true := fun v hv => by
   obtain ⟨j, hj⟩ := List.mem_iff_getElem?.1 hv;have hj2 := (List.getElem?_eq_some_iff.1 hj).1;rw [jB] at hj2;rw [rN m zc j hj2] at hj;exact List.all_eq_true.1 h1 v (List.mem_of_getElem? hj)
  obtain ⟨w', hr, hb', hgr, hs⟩ := ff (P := P) (b := g) (t := e) (fz := (0, 0)) o (fS m zc) 0 cur.toList w (by simpa using hheap) (.inr (Nat.le_refl _)) (by rw [← hcl, hzr]; omega) hall;have hset := tn hi;refine Ac rfl rfl (w' := w') (v := .tuple #[]) ?_ (k w' (hset ▸ hh.grown hi hgr (.inl rfl) ⟨hlen, .inr ⟨g, c, (cg cur.toList (o + 0) (fS m zc)).toArray, rfl, hg, by simpa using hb', hmc, hcm, ?_, ?_⟩⟩))
  ·simp only [execOp, resolve, invoke, hx, List.map_toArray, List.map_cons, List.map_nil];have hzz : Builtin.zeroCells z.cells m = (fS m zc).toArray := by
    rw [Builtin.zeroCells, hzc, List.size_toArray]; exact iS m zc
   obtain ⟨q, rfl⟩ : ∃ q, m = q + 1 := ⟨m - 1, Dq⟩;simp [builtin, Builtin.clear_, run_underlying ht, hz, hzz, hr]
  ·simp only [List.size_toArray];rw [eK (by rw [← hcl, hzr]; omega), ← hcl, hcur]
  ·simp only [cg];rw [List.append_assoc, List.take_append_of_le_length (by rw [List.length_take, ← hcl]; omega), List.take_take, Nat.min_eq_left Dq];exact htake
end
end Go.Proofs.YteeckcbbnegmcaaGreatDoor
/- Append to a slice without room, whose memory nobody needs. Plain lemmas, no program in sight. -/
namespace Go.Proofs.YteeckcbbnegmcaaGreatDoor
open Go.RowKit
variable {ro : Mode}
section
variable {P : Program} {N : Nat} {ops : Array Oper} {Q : Kq} {ρ : Rf} {w w0 : World} {rest : List Oper} {d : Nat} {ty : TypeId} {pos : String} {af : Array Edge}
theorem vx {t e u : TypeId} {x y : Operand} {A : Option Addr} {n c n' c' : Nat} (ht : P.underlying t = some (.slice e)) (hx : ev ρ x = .slice A n c) (hy : ev ρ y = .slice none n' c') (hN : d < N)
  (kk : WL ro P N ops Q rest (cx ρ d (.bool A.isNone)) w) : WL ro P N ops Q (⟨some d, .binOp .eql t x y u, ty, pos, af, none⟩ :: rest) ρ w :=
 aU rfl rfl hN (by
  have h1 := Go.Lib.run_eql_slice_nil (P := P) w t e A n c n' c' ht;simp only [execOp, hx, hy];simp [eqGuard, h1]) kk
end
end Go.Proofs.YteeckcbbnegmcaaGreatDoor
/- The walks through slices.IndexFunc, ContainsFunc, DeleteFunc, Clone of terms. -/
namespace Go.Proofs.YteeckcbbnegmcaaGreatDoor
open Go.RowKit
theorem oD (A : Option Addr) (n c : Nat) (l : List TR) (g : FuncId) (cap : List Value) (p : TR → Bool) (w : World) (hS : Sl w A n 4 (aQ TR.cells l)) (hn : n ≤ 1000000) [aq Tryz.prog g]
  (hg : ∀ (z : TR) (w1 : World), z ∈ l → Below w.heap.size w w1 → Calls Tryz.prog g (.agg #[.string z.m, .bool z.c.neg, .string z.c.bM, .int .i64 z.c.e] :: cap).toArray w1 fun r w' => r = .returned (.bool (p z)) ∧ Below w1.heap.size w1 w') :
  Calls Tryz.prog 205 #[.slice A n c, .func (.func g) #[] cap.toArray] w fun r w' => ∃ v, r = .returned (.int .i64 v) ∧ ((l.any p = false ∧ v = -1) ∨ ∃ (i : Nat) (z : TR), i < n ∧ v = i ∧ (l.take i).any p = false ∧ l[i]? = some z ∧ p z = true) ∧ Below w.heap.size w w' := by
 have hh := Hp.start w;have hln := hS.cI TR.len Dr;refine aj (N := 19) (l := [.slice A n c, .func (.func g) #[] cap.toArray]) Tryz.func205 rfl rfl (by simp) ?_;refine sr (aI (aa (ah (sr (mL (a4 (mI (aa (ao ?_)))))))));refine bF [4, 5, 8, 9, 10, 11, 12, 13, 14, 15, 16, 17, 18] 8
  (fun v w' => ∃ i : Nat, i ≤ n ∧ v = .int .i64 i ∧ (l.take i).any p = false ∧ Hp w [] w')
  (fun v _ => n - (intOf v).toNat) ?_ ?_
 ·exact ⟨0, Nat.zero_le _, rfl, rfl, hh⟩
 ·clear hh;rintro ρ' v w' ⟨i, hi, rfl, hall, hh⟩;by_cases hlt : i < n
  ·obtain ⟨z, hz⟩ := aG (l := l) (k := i) Dq;obtain ⟨ad, rfl, hr⟩ := hS.at_ Dq;have hc := fun w1 => hg z w1 (List.mem_of_getElem? hz)
   cases gz : p z with
   | true =>
    rw [gz] at hc;refine sr ?_;refine a3 (aa (ah (cT (ak (ai (ah (ao (sr (mI (aI (aa (sr ?_))))))))))));refine fy (by first | exact gQ rfl | exact ev_nilf rfl) Dr ?_;refine mL (mI ?_);refine aZ (k := i) aF.out aC.size rfl rfl Dq Dq Dr ?_;refine bZ (vs := [_, _, _, _]) aC.out rfl ((hr.ext hh.below).recAt TR.len hz) rfl Dr ?_;refine fp (hc _ hh.below) aq.out rfl rfl Dr ?_;rintro e_ w16 ⟨rfl, hb_⟩;refine ⟨_, rfl, ?_⟩;replace hh := hh.ext hb_;refine aa (cT (sr (mI (aI (aa (al (bT (aH (aH (bT (aH ?_)))))))))));refine cA ?_;exact ⟨_, rfl, .inr ⟨i, z, hlt, rfl, hall, hz, gz⟩, hh.below⟩
   | false =>
    rw [gz] at hc;refine sr ?_;refine a3 (aa (ah (cT (ak (ai (ah (ao (sr (mI (aI (aa (sr ?_))))))))))));refine fy (by first | exact gQ rfl | exact ev_nilf rfl) Dr ?_;refine mL (mI ?_);refine aZ (k := i) aF.out aC.size rfl rfl Dq Dq Dr ?_;refine bZ (vs := [_, _, _, _]) aC.out rfl ((hr.ext hh.below).recAt TR.len hz) rfl Dr ?_;refine fp (hc _ hh.below) aq.out rfl rfl Dr ?_;rintro e_ w16 ⟨rfl, hb_⟩;refine ⟨_, rfl, ?_⟩;replace hh := hh.ext hb_;refine aa (cF (ak (aX (ai (ar ?_)))));refine bO (mI (aE (ai ?_)));refine ⟨⟨i + 1, Dq, rfl, by rw [aT hz, List.any_append, hall, List.any_cons, List.any_nil, gz]; rfl, hh⟩, by show n - (i + 1) < n - i; omega, ?_⟩;exact Du
  ·rw [List.take_of_length_le Dq] at hall;refine sr ?_;refine a3 (aa (ah (cF (aV (aA (aA (a8 (ai (sr (aI (aa (al ?_))))))))))));refine cA ?_;exact ⟨_, rfl, .inl ⟨hall, rfl⟩, hh.below⟩
theorem uS (A : Option Addr) (n c : Nat) (l : List TR) (g : FuncId) (cap : List Value) (p : TR → Bool) (w : World) (hS : Sl w A n 4 (aQ TR.cells l)) (hn : n ≤ 1000000) [aq Tryz.prog g]
  (hg : ∀ (z : TR) (w1 : World), z ∈ l → Below w.heap.size w w1 → Calls Tryz.prog g (.agg #[.string z.m, .bool z.c.neg, .string z.c.bM, .int .i64 z.c.e] :: cap).toArray w1 fun r w' => r = .returned (.bool (p z)) ∧ Below w1.heap.size w1 w') :
  Calls Tryz.prog 157 #[.slice A n c, .func (.func g) #[] cap.toArray] w fun r w' => r = .returned (.bool (l.any p)) ∧ Below w.heap.size w w' := by
 have hh := Hp.start w;refine aj (N := 9) (l := [.slice A n c, .func (.func g) #[] cap.toArray]) Tryz.func157 rfl rfl (by simp) ?_;refine sr (aB (aa (sr (mL ?_))));refine fy (by first | exact gQ rfl | exact ev_nilf rfl) Dr ?_;refine aK (oD A n c l g cap p _ (hS.ext hh.below) hn hg) aq.out rfl Dr ?_;rintro e_ w7 ⟨v_, rfl, hv_, hb_⟩;refine ⟨_, rfl, ?_⟩;replace hh := hh.ext hb_
 rcases hv_ with ⟨ha, rfl⟩ | ⟨i, z, hi, rfl, ht, hz, hp⟩
 ·rw [ha];refine dE (aB (aa (al ?_)));refine cA ?_;exact ⟨rfl, hh.below⟩
 ·rw [show l.any p = true from List.any_eq_true.2 ⟨z, List.mem_of_getElem? hz, hp⟩];refine dE (aB (aa (al ?_)));refine cA ?_;exact ⟨rfl, hh.below⟩
theorem lC (A : Option Addr) (n c : Nat) (l : List TR) (w : World) (hS : Sl w A n 4 (aQ TR.cells l)) (hn : n ≤ 1000000) :
  Calls Tryz.prog 79 #[.slice A n c] w fun r w' => ∃ A' c', r = .returned (.slice A' n c') ∧ w'.ownsRow w.heap.size 96 4 (.slice A' n c') n (aQ TR.cells l) ∧ Below w.heap.size w w' := by
 have hh := Hp.start w;have oX := bL TR.one l
 rcases A with _ | ad
 ·have hn0 : n = 0 := by
   rcases Nat.eq_zero_or_pos n with h | h
   ·exact h
   ·obtain ⟨_, h1, _⟩ := hS.2 h; cases h1
  subst hn0;have hl : l = [] := List.eq_nil_of_length_eq_zero (by have := hS.cI TR.len Dr; omega);subst hl;refine aj (N := 8) (l := [.slice none 0 c]) Tryz.func79 rfl rfl (by simp) ?_;refine sr (aL (aa (ah (sr (mL ?_)))));refine vx aF.out rfl rfl Dr ?_;refine aa (cT (sr (aL (aa (al (aH ?_))))));refine cA ?_;exact ⟨_, _, rfl, World.ownsRow_nil _ _ _ _, hh.below⟩
 ·refine aj (N := 8) (l := [.slice (some ad) n c]) Tryz.func79 rfl rfl (by simp) ?_;refine sr (aL (aa (ah (sr (mL ?_)))));refine vx aF.out rfl rfl Dr ?_;refine aa (cF (ak (ai (sr ?_))));refine o9 hh aF.out aC.out Dr ?_;intro b5 w5 hh;refine mL ?_;refine ck hh (i := 0) rfl rfl rfl (hS.ext hh.below) aF.out aC.out rfl Dr ?one7 Dq Dq Dr ?kk7
  case one7 => first | rfl | assumption | exact oneCells_i64s _ | exact oneCells_u8s _
  intro A7 c7 w7 hh;simp only [List.set_cons_zero] at hh;rw [Nat.zero_add] at hh ⊢;rw [List.nil_append] at hh;refine aL (aa (al ?_));refine cA ?_;exact ⟨_, _, rfl, hh.at_ (i := 0) rfl, hh.below⟩
theorem tw {α : Type} {l : List α} {i j : Nat} (h : i < j) (x : α) : (l.set i x).drop j = l.drop j := by
 refine List.ext_getElem? fun k => ?_;rw [List.getElem?_drop, List.getElem?_drop, List.getElem?_set, if_neg Dq]
theorem pS {α : Type} {l : List α} {i : Nat} (h : i < l.length) (x : α) : (l.set i x).take (i + 1) = l.take i ++ [x] := by
 rw [aT (show (l.set i x)[i]? = some x by rw [List.getElem?_set, if_pos rfl, if_pos h]), List.take_set_of_le (Nat.le_refl _)]
theorem uL {w0 : World} {Hr : List HE} (A : Option Addr) (n c : Nat) (l : List TR) (g : FuncId) (p : TR → Bool) (w : World) (hh : Hp w0 (.row A n c 96 4 (aQ TR.cells l) :: Hr) w) (hl : l.length = n) (hn : n ≤ 1000000) [aq Tryz.prog g]
  (hg : ∀ (z : TR) (w1 : World), z ∈ l → Calls Tryz.prog g (.agg #[.string z.m, .bool z.c.neg, .string z.c.bM, .int .i64 z.c.e] :: []).toArray w1 fun r w' => r = .returned (.bool (p z)) ∧ Below w1.heap.size w1 w') :
  Calls Tryz.prog 161 #[.slice A n c, .func (.func g) #[] #[]] w fun r w' => r = .returned (.slice A (l.filter fun z => !p z).length c) ∧ Hp w0 (.row A (l.filter fun z => !p z).length c 96 4 (aQ TR.cells (l.filter fun z => !p z)) :: Hr) w' := by
 have hc := hh.gC (i := 0) rfl;have hsl := hh.aD (i := 0) rfl;refine aj (N := 42) (l := [.slice A n c, .func (.func g) #[] #[]]) Tryz.func161 rfl rfl (by simp) ?_;refine sr (aL (aa (sr (mL ?_))));refine fy (by first | exact gQ rfl | exact ev_nilf rfl) Dr ?_;refine aK (oD A n c l g [] p _ hsl hn (fun z w1 hz _ => hg z w1 hz)) aq.out rfl Dr ?_;rintro e_ w10 ⟨v_, rfl, hv_, hb_⟩;refine ⟨_, rfl, ?_⟩;replace hh := hh.ext hb_
 rcases hv_ with ⟨ha, rfl⟩ | ⟨i0, z0, hi0, rfl, ht0, hz0, hp0⟩
 ·have hf : (l.filter fun z => !p z) = l := List.filter_eq_self.2 fun z hz => by
   have := List.any_eq_false.1 ha z hz;simpa using this
  rw [hf, hl];refine aI (aa (ah (sr (mI ?_))));refine cu (aa (cT (sr (mL (aL (aa (al (aH ?_))))))));refine cA ?_;exact ⟨rfl, hh⟩
 ·have hf0 : ((l.take (i0 + 1)).filter fun z => !p z) = l.take i0 := by
   rw [aT hz0, List.filter_append, List.filter_cons_of_neg (by rw [hp0]; decide), List.filter_nil, List.append_nil];exact List.filter_eq_self.2 fun z hz => by
    have := List.any_eq_false.1 ht0 z hz;simpa using this
  obtain ⟨g0, rfl⟩ := hh.fO (i := 0) rfl Dq;refine aI (aa (ah (sr (mI ?_))));refine cu (aa (cF (ak (ai (ah (sr (mI ?_)))))));refine bO (aI (aa (ao ?_)));refine de [5, 6, 7, 16, 17, 18, 19, 20, 21, 22, 23, 24, 25, 26, 27, 28, 29, 30, 31, 32, 33, 34, 35] 5 6
   (fun v5 v6 w' => ∃ (i j : Nat) (X : List TR), i < j ∧ j ≤ n ∧ v5 = .int .i64 i ∧ v6 = .int .i64 j ∧ X.length = n ∧ i = ((l.take j).filter fun z => !p z).length ∧ X.take i = ((l.take j).filter fun z => !p z) ∧ X.drop j = l.drop j ∧ Hp w0 (.row (some ⟨g0, 0, none⟩) n c 96 4 (aQ TR.cells X) :: Hr) w')
   (fun _ v _ => n - (intOf v).toNat) ?_ ?_
  ·exact ⟨i0, i0 + 1, l, Dq, Dq, rfl, rfl, hl, by rw [hf0, List.length_take]; omega, hf0.symm, rfl, hh⟩
  ·clear hh;rintro ρ' v5 v6 w' ⟨i, j, X, hij, hj, rfl, rfl, hX, hi, htk, hdr, hh⟩;by_cases hlt : j < n
   ·obtain ⟨z, hz⟩ := aG (l := l) (k := j) Dq;have hXj : X[j]? = some z := by
     have h1 : (X.drop j)[0]? = (l.drop j)[0]? := by rw [hdr]
     rw [List.getElem?_drop, List.getElem?_drop, Nat.add_zero] at h1;rw [h1, hz]
    have hgz := fun w1 => hg z w1 (List.mem_of_getElem? hz);have hdr2 : X.drop (j + 1) = l.drop (j + 1) := by rw [← List.drop_drop, ← List.drop_drop, hdr]
    have hrl := jD TR.len X;refine ah (sr (mI (mL (a4 ?_))));refine a3 (aa (cT (ak (ai (ah (ao (sr (mL (mI ?_)))))))));refine bm (k := j) aF.out aC.size rfl rfl Dq Dq Dr ?_;refine bZ (vs := [_, _, _, _]) aC.out rfl (hh.mq (f := TR.cells) (x := z) (l := X) (i := 0) rfl TR.len Dr hXj) rfl Dr ?_;refine cj hh ?_;intro b7 w7 hh;refine bD hh 0 [_,_,_,_] ?_;intro ws hh;replace hh : Hp _ (.blk _ _ [_, _, _, _] _ :: _) _ := hh;refine aa (sr ?_);refine fy (by first | exact gQ rfl | exact ev_nilf rfl) Dr ?_;refine cU hh 0 [_,_,_,_] ?_
    cases hpz : p z with
    | true =>
     rw [hpz] at hgz;have hfl : ((l.take (j + 1)).filter fun z => !p z) = ((l.take j).filter fun z => !p z) := by rw [aT hz, List.filter_append, List.filter_cons_of_neg (by rw [hpz]; decide), List.filter_nil, List.append_nil]
     refine fp (hgz _) aq.out rfl rfl Dr ?_;rintro e_ w28 ⟨rfl, hb_⟩;refine ⟨_, rfl, ?_⟩;replace hh := hh.ext hb_;refine gd ?_;refine aa (cF (ak (aX (ai (ar (mI ?_))))));refine bO (aI (aE (ai ?_)));replace hh := hh.sub (List.Sublist.cons _ (List.Sublist.cons_cons _ (List.Sublist.refl _)));refine ⟨⟨i, j + 1, X, Dq, Dq, rfl, rfl, hX, by rw [hfl]; exact hi, by rw [hfl]; exact htk, hdr2, hh⟩, by show n - (j + 1) < n - j; omega, ?_⟩;exact Du
    | false =>
     rw [hpz] at hgz;have hfl : ((l.take (j + 1)).filter fun z => !p z) = ((l.take j).filter fun z => !p z) ++ [z] := by rw [aT hz, List.filter_append, List.filter_cons_of_pos (by rw [hpz]; decide), List.filter_nil]
     refine fp (hgz _) aq.out rfl rfl Dr ?_;rintro e_ w28 ⟨rfl, hb_⟩;refine ⟨_, rfl, ?_⟩;replace hh := hh.ext hb_;refine gd ?_;refine aa (cT (sr (mL (mI ?_))));refine cU hh 0 [_,_,_,_] ?_;refine bm (k := i) aF.out aC.size rfl rfl Dq Dq Dr ?_;refine bA hh (i := 1) (vs := [_, _, _, _]) rfl rfl (cK rfl) rfl aC.out rfl Dq rfl ?_;intro ws hh;simp only [List.set_cons_zero, List.set_cons_succ] at hh;rw [show cg (aQ TR.cells X) (i * 4) [.string z.m, .bool z.c.neg, .string z.c.bM, .int .i64 z.c.e] = aQ TR.cells (X.set i z) from nB TR.len Dq] at hh;refine aa (ar (mI ?_));refine bO (aI (aE (aX (ai (ar (mI ?_))))));refine bO (aI (aE (ai ?_)));replace hh := hh.sub (List.Sublist.cons _ (List.Sublist.cons_cons _ (List.Sublist.refl _)));refine ⟨⟨i + 1, j + 1, X.set i z, Dq, Dq, rfl, rfl, by rw [List.length_set]; exact hX, by rw [hfl, List.length_append, ← hi]; rfl, by rw [hfl, pS Dq, htk], by rw [tw Dq]; exact hdr2, hh⟩, by show n - (j + 1) < n - j; omega, ?_⟩;exact Du
   ·obtain rfl : j = n := Dq;rw [show l.take j = l from List.take_of_length_le Dq] at hi htk;have hcap := hh.gC (i := 0) rfl;have hp31 : (if c = i then some (⟨g0, 0, none⟩ : Addr) else (some (⟨g0, 0, none⟩ : Addr)).map (·.add (i * 4))) = some ⟨g0, i * 4, none⟩ := by
     rw [if_neg Dq];show some ((⟨g0, 0, none⟩ : Addr).add (i * 4)) = _;rw [eG, Nat.zero_add]
    have htt : (aQ TR.cells X).take (i * 4) = aQ TR.cells (l.filter fun z => !p z) := by rw [kh TR.len, htk]
    refine ah (sr (mI (mL (a4 ?_))));refine a3 (aa (cF (aV (aA (aA (a8 (ai (sr (mL (mI ?_))))))))));refine aU rfl rfl Dr (gi (l := i) (h := j) aF.out aC.size rfl ⟨_, _, rfl, rfl⟩ rfl Dq Dq) ?_;rw [hp31];replace hh := hh.um (k := i) Dq;rw [htt] at hh;refine rU hh (i := 0) (o := i * 4) (m := j - i) rfl rfl Dq Dq Dq aF.out aC.out rfl rfl ?_;intro w38 hh;refine aa (sr (mL (mI ?_)));refine lE (h := i) aF.out aC.size rfl rfl Dq Dq Dr ?_;refine aL (aa (al ?_));refine cA ?_;rw [← hi];exact ⟨rfl, hh⟩
end Go.Proofs.YteeckcbbnegmcaaGreatDoor
/- The walk through poly.clean. -/
namespace Go.Proofs.YteeckcbbnegmcaaGreatDoor
open Go.RowKit
structure PX where
 v : Int
 A : Option Addr
 n : Nat
 c : Nat
 ts : List TR
def PX.row (g : PX) : HE := .row g.A g.n g.c 96 4 (aQ TR.cells g.ts)
def PX.at_ (g : PX) (w : World) : Prop := Sl w g.A g.n 4 (aQ TR.cells g.ts)
theorem PX.at_.ext {g : PX} {w w' : World} (h : g.at_ w) (hb : Below w.heap.size w w') : g.at_ w' := Sl.ext h hb
theorem PX.at_.ln {g : PX} {w : World} (h : g.at_ w) : g.ts.length = g.n := Sl.cI h TR.len Dr
structure dg (E v : Int) (ts : List TR) (g : PX) : Prop where
 v : g.v = if E = 0 then v else 0
 ts : g.ts = if E = 0 then ts else []
def PX.nil : PX := ⟨0, none, 0, 0, []⟩
theorem dg.err {E v : Int} {ts : List TR} (h : E ≠ 0) : dg E v ts PX.nil := ⟨by rw [if_neg h]; rfl, by rw [if_neg h]; rfl⟩
theorem Hp.ju {w0 w : World} {H : List HE} (h : Hp w0 H w) : Hp w0 (PX.nil.row :: H) w := h.eN 96 4
theorem pJ {w0 : World} {Hr : List HE} (A : Option Addr) (n c : Nat) (l : List TR) (k : Nat) (w : World) (hT : gK w) (hh : Hp w0 (.row A n c 96 4 (aQ TR.cells l) :: Hr) w) (hl : l.length = n) (hn : n ≤ 1000000) (hk : k + n ≤ 3999980) (ho : gx k l) :
  Calls Tryz.prog 162 #[.slice A n c, .func (.func 76) #[] #[], .func (.func 77) #[] #[]] w fun r w' => ∃ (L : List TR) (A' : Option Addr) (c' : Nat), MD (k + n) l L ∧ r = .returned (.slice A' L.length c') ∧ Hp w0 (.row A' L.length c' 96 4 (aQ TR.cells L) :: Hr) w' := by
 refine (jC k n A n c l w (Nat.le_refl _) hT (hh.aD (i := 0) rfl) (hh.gC (i := 0) rfl) hn hk ho).mono fun r w' h => ?_
 rcases h with ⟨h1, rfl, hb⟩ | ⟨h1, L, A', c', hm, rfl, h3⟩
 ·exact ⟨l, A, c, (MD.self (qp Dq) ho).mono Dq, by rw [hl], by rw [hl]; exact hh.ext hb⟩
 ·refine ⟨L, A', c', hm, rfl, ?_⟩;exact (hh.join h3).sub (List.Sublist.cons_cons _ (List.Sublist.cons _ (List.Sublist.refl _)))
def Cv (t : TR) : Bool := decide (t.c.d = 0)
theorem uq (l : List TR) : (l.filter fun z => !Cv z) = l.filter rj := rfl
theorem rG (z : TR) (w : World) : Calls Tryz.prog 163 #[.agg #[.string z.m, .bool z.c.neg, .string z.c.bM, .int .i64 z.c.e]] w fun r w' => r = .returned (.bool (Cv z)) ∧ Below w.heap.size w w' := by
 have hh := Hp.start w;refine aj (N := 7) (l := [.agg #[.string z.m, .bool z.c.neg, .string z.c.bM, .int .i64 z.c.e]]) Tryz.func163 rfl rfl (by simp) ?_;refine sr ?_;refine dp hh [_,_,_,_] ?_;intro b1 w1 hh;refine aB (aa (sr (bG ?_)));refine cU hh 0 [_,_,_] ?_;refine bB hh (nl z.c _) rfl ?_;intro w5 hh;have hz : z.c.i.sign = 0 ↔ z.c.d = 0 := by
  rw [Int.sign_eq_zero_iff_zero];exact ⟨fun h => by unfold NR.d; rw [h]; rfl, jx⟩
 unfold Cv;by_cases h0 : z.c.d = 0
 ·have hs := hz.2 h0;rw [decide_eq_true h0];refine cu (aB (aa (al ?_)));refine cA ?_;exact ⟨rfl, hh.below⟩
 ·have hs : ¬ z.c.i.sign = 0 := fun h => h0 (hz.1 h);rw [decide_eq_false h0];refine cu (aB (aa (al ?_)));refine cA ?_;exact ⟨rfl, hh.below⟩
def fL (l : List TR) : Int := if 4096 < (aJ l).length then 3 else 0
theorem sD {xs ys : List Value} {o : Nat} {v : Value} (h : xs[o]? = some v) : cg xs o (v :: ys) = cg xs (o + 1) ys := by
 unfold cg;rw [aT h, List.length_cons, show o + (ys.length + 1) = o + 1 + ys.length by omega];simp
def C1 (t : TR) : TR := ⟨t.m, nR t.c.d⟩
theorem wO {X : List TR} {i : Nat} {z : TR} (h : X[i]? = some z) (y : NR) : cg (aQ TR.cells X) (i * 4 + 1) [.bool y.neg, .string y.bM, .int .i64 y.e] = aQ TR.cells (X.set i ⟨z.m, y⟩) := by
 have h0 : (aQ TR.cells X)[i * 4]? = some (.string z.m) := by
  have h1 := o8 TR.len h;have h2 : (((aQ TR.cells X).drop (i * 4)).take 4)[0]? = some (.string z.m) := by rw [h1]; rfl
  rwa [List.getElem?_take_of_lt Dr, List.getElem?_drop, Nat.add_zero] at h2
 rw [← sD h0];exact nB TR.len (y := ⟨z.m, y⟩) (List.getElem?_eq_some_iff.1 h).1
theorem jH {w0 : World} {Hr : List HE} (v : Int) (A : Option Addr) (n c : Nat) (l : List TR) (k : Nat) (w : World) (hT : gK w0) (hh : Hp w0 (.row A n c 96 4 (aQ TR.cells l) :: Hr) w) (hl : l.length = n) (hn : n ≤ 1000000) (hk : k + n ≤ 3999980) (ho : gx k l) :
  Calls Tryz.prog 78 #[.int .i64 v, .slice A n c] w fun r w' => ∃ g : PX, dg (fL l) v (aJ l) g ∧ r = .returned (.tuple #[.agg #[.int .i64 g.v, .slice g.A g.n g.c], .int .i64 (fL l)]) ∧ Hp w0 (g.row :: Hr) w' := by
 refine aj (N := 33) (l := [.int .i64 v, .slice A n c]) Tryz.func78 rfl rfl (by simp) ?_;refine sr ?_;refine cj hh ?_;intro b4 w4 hh;refine aI (aa (sr (mL ?_)));replace hh := hh.perm (List.perm_middle (l₁ := [_]));simp only [List.cons_append, List.nil_append] at hh;refine aK (pJ A n c l k _ (hT.hp hh) hh hl hn hk ho) aq.out rfl Dr ?_;rintro e_ w8 ⟨L, A1, c1, hmd, rfl, hh⟩;refine ⟨_, rfl, ?_⟩;have hlen := hmd.len;refine aK (uL A1 L.length c1 L _ Cv _ hh rfl Dq (fun z w1 _ => rG z w1)) aq.out rfl Dr ?_;rintro e_ w9 ⟨rfl, hh⟩;refine ⟨_, rfl, ?_⟩;rw [uq] at hh ⊢;have hML : (L.filter rj).length ≤ L.length := List.length_filter_le _ _;have hgl : (aJ l).length = (L.filter rj).length := by rw [← hmd.aJ, List.length_map]
 have hgm := hmd.aJ;have hok : gx (k + n) (L.filter rj) := fun t ht => hmd.ok t (List.mem_filter.1 ht).1;generalize hM : L.filter rj = M at *;by_cases h4 : 4096 < M.length
 ·rw [show fL l = 3 by unfold fL; rw [if_pos Dq]];refine aL (aa (ah (sr (mL (a4 ?_)))));refine ct (aa (cT (sr ?_)));refine eX [_,_] ?_;refine bD hh 1 [_,_] ?_;intro ws hh;replace hh : Hp _ (_ :: .blk _ _ [_, _] _ :: _) _ := hh;refine aI (aa (al (aH ?_)));replace hh := hh.sub (List.Sublist.cons _ (List.Sublist.cons_cons _ (List.Sublist.refl _)));refine j0 (aN rfl (aO (vs := [_, _]) aC.out (hh.aw (i := 0) (n := 2) rfl rfl) rfl) (cf (cO rfl) a7)) ?_;exact ⟨PX.nil, dg.err Dr, rfl, (hh.sub (List.sublist_cons_self _ _)).ju⟩
 ·rw [show fL l = 0 by unfold fL; rw [if_neg Dq]];refine aL (aa (ah (sr (mL (a4 ?_)))));refine ct (aa (cF (ak (ai (ah (sr (mL (a4 (mI (aa (ao ?_)))))))))));refine bF [6, 16, 17, 18, 19, 20, 21, 22, 23, 24, 25, 26, 27, 28, 29] 16
   (fun v w' => ∃ (i : Nat) (X : List TR), i ≤ M.length ∧ v = .int .i64 i ∧ X.length = M.length ∧ X = (M.take i).map C1 ++ M.drop i ∧ Hp w0 (.row A1 M.length c1 96 4 (aQ TR.cells X) :: .blk b4 24 [.int .i64 0, .slice none 0 0] (0, 0) :: Hr) w')
   (fun v _ => M.length - (intOf v).toNat) ?_ ?_
  ·exact ⟨0, M, Nat.zero_le _, rfl, rfl, rfl, hh⟩
  ·clear hh;rintro ρ' v w' ⟨i, X, hi, rfl, hX, hXe, hh⟩;by_cases hlt : i < M.length
   ·obtain ⟨z, hz⟩ := aG (l := M) (k := i) Dq;have hXz : X[i]? = some z := by
     rw [hXe, List.getElem?_append_right (by rw [List.length_map, List.length_take]; omega), List.length_map, List.length_take, Nat.min_eq_left Dq, Nat.sub_self, List.getElem?_drop];exact hz
    have hzo := hok z (List.mem_of_getElem? hz);have hXn : X.set i ⟨z.m, nR z.c.d⟩ = (M.take (i + 1)).map C1 ++ M.drop (i + 1) := by
     rw [aT hz, List.map_append, hXe, List.set_append_right _ _ (by rw [List.length_map, List.length_take]; omega), List.length_map, List.length_take, Nat.min_eq_left Dq, Nat.sub_self, List.append_assoc];congr 1;obtain ⟨h1, h2⟩ := List.getElem?_eq_some_iff.1 hz;rw [List.drop_eq_getElem_cons h1, h2]
     rfl
    have hrl := jD TR.len X;obtain ⟨g0, rfl⟩ := hh.fO (i := 0) rfl Dq;refine sr ?_;refine a3 (aa (ah (cT (ak (ai (ah (ao (sr (mI (aI (aa (ar (mL (mI (mL (mI ?_))))))))))))))));refine bm (k := i) aF.out aC.size rfl rfl Dq Dq Dr ?_;refine bG ?_;refine bZ (vs := [_, _, _]) aC.out rfl ((hh.mq (f := TR.cells) (x := z) (l := X) (i := 0) rfl TR.len Dr hXz).drop 1) rfl Dr ?_;refine bB hh (ep z.c _ (hT.hp hh) (by have := hzo.1.1; omega) (by have := hzo.1.2.1; omega) (by have := hzo.1.2.2; omega)) rfl ?_;intro w26 hh;refine bm (k := i) aF.out aC.size rfl rfl Dq Dq Dr ?_;refine bG ?_;refine bA hh (i := 0) (vs := [_, _, _]) rfl rfl (cK rfl) rfl aC.out rfl Dq rfl ?_;intro ws hh;simp only [List.set_cons_zero] at hh;rw [wO hXz, hXn] at hh;refine aE (aX (ai (ar ?_)));refine bO (mI (aE (ai ?_)));refine ⟨⟨i + 1, _, Dq, rfl, ?_, rfl, hh⟩, by show M.length - (i + 1) < M.length - i; omega, ?_⟩
    ·rw [← hXn, List.length_set, hX]
    ·exact Du
   ·obtain rfl : i = M.length := Dq;rw [List.take_of_length_le (Nat.le_refl _), List.drop_of_length_le (Nat.le_refl _), List.append_nil] at hXe;have hXg : X = aJ l := by rw [hXe]; exact hgm
    rw [hXg] at hh;refine sr ?_;refine a3 (aa (ah (cF (aV (aA (aA (a8 (ai (sr (mI (mL ?_)))))))))));refine eX [_,_] ?_;refine bD hh 1 [_,_] ?_;intro ws hh;replace hh : Hp _ (_ :: .blk _ _ [_, _] _ :: _) _ := hh;refine aI (aa (al ?_));refine j0 (aN rfl (aO (vs := [_, _]) aC.out (hh.aw (i := 1) (n := 2) rfl rfl) rfl) (cf (cO rfl) a7)) ?_;exact ⟨⟨v, A1, M.length, c1, aJ l⟩, ⟨rfl, rfl⟩, rfl, hh.sub (List.Sublist.cons_cons _ (List.Sublist.cons _ (List.Sublist.refl _)))⟩
end Go.Proofs.YteeckcbbnegmcaaGreatDoor
/- The walks through the program's package of products of powers (mono), and through the document's answer's. -/
namespace Go.Proofs.YteeckcbbnegmcaaGreatDoor
open Go.RowKit
theorem iJ (s : ByteArray) (n : Int) (w : World) (hs : s.size ≤ 9223372036854775807) :
  Calls Tryz.prog 159 #[.string s, .int .i64 n] w fun e w' => e = .returned (.bool (dq s.data.toList && decide ((s.size : Int) = n))) ∧ Below w.heap.size w w' := by
 refine aj (N := 20) (l := [.string s, .int .i64 n]) Tryz.func159 rfl rfl (by simp) ?_;refine sr (aB (aa (ah (sr (mS ?_)))));refine bs aF.out rfl Dr ?_;refine mI (aa (ao ?_));refine bF [4, 5, 8, 9, 10, 11, 12, 13, 14, 15] 8
  (fun v w' => ∃ k : Nat, k ≤ s.size ∧ v = .int .i64 k ∧ dq (s.data.toList.take k) = true ∧ w' = w)
  (fun v _ => s.size - (intOf v).toNat) ?_ ?_
 ·exact ⟨0, Nat.zero_le _, rfl, rfl, rfl⟩
 ·rintro ρ' v w' ⟨k, hk, rfl, hm, rfl⟩;by_cases hlt : k < s.size
  ·obtain ⟨c, hc⟩ := aG (l := s.data.toList) (k := k) (by rw [← ca]; exact hlt);have hb := c.toNat_lt;by_cases h8 : c.toNat < 128
   ·refine sr ?_;refine a3 (aa (ah (cT (ak (ai (ah (ao (sr (mI (aI (aa (sr (mS (mI ?_))))))))))))));refine bu aF.out rfl rfl Dq (by assumption) Dr ?_;refine ct (aa (cF (ak (aX (ai (ar ?_))))));refine bO (mI (aE (ai ?_)));refine ⟨⟨k + 1, Dq, rfl, by rw [aT hc, wC, hm]; simpa using h8, rfl⟩, by show s.size - (k + 1) < s.size - k; omega, ?_⟩;exact Du
   ·refine sr ?_;refine a3 (aa (ah (cT (ak (ai (ah (ao (sr (mI (aI (aa (sr (mS (mI ?_))))))))))))));refine bu aF.out rfl rfl Dq (by assumption) Dr ?_;refine ct (aa (cT (sr (aB (aa (al (bT (aH (aH (bT (aH ?_)))))))))));refine cA ?_;rw [yT hc h8];exact ⟨rfl, Below.refl _ _⟩
  ·refine sr ?_;refine a3 (aa (ah (cF (aV (aA (aA (a8 (ai (sr (mS ?_))))))))));refine bs aF.out rfl Dr ?_;refine mI ?_;refine vA rfl rfl Dr ?_;refine aB (aa (al ?_));refine cA ?_;rw [List.take_of_length_le (by rw [← ca]; omega)] at hm;rw [hm];exact ⟨rfl, Below.refl _ _⟩
theorem jG (s : ByteArray) (w : World) (hs : s.size ≤ 9223372036854775807) :
  Calls Tryz.prog 159 #[.string s, .int .i64 s.size] w fun e w' => e = .returned (.bool (dq s.data.toList)) ∧ Below w.heap.size w w' := by
 have h := iJ s s.size w hs;simpa using h
theorem yO (A : Option Addr) (n c : Nat) (xs : List Int) (w : World) (hsl : Sl w A n 1 (jw xs)) (hn : n ≤ 100000) :
  Calls Tryz.prog 187 #[.slice A n c] w fun e w' => e = .returned (.tuple #[.string (str (y6 xs)), .int .i64 (Ae xs)]) ∧ Below w.heap.size w w' := by
 have hlen : xs.length = n := by have := hsl.1; rw [nc] at this; omega
 have hh := Hp.start w;refine aj (N := 27) (l := [.slice A n c]) Tryz.func187 rfl rfl (by simp) ?_;refine sr (aS (aI (aa (sr (aL (aa (ah (sr (mL (a4 (mI (aa (ao ?_)))))))))))));refine de [2, 3, 4, 6, 9, 10, 11, 12, 13, 14, 15, 16, 17, 18, 19, 20, 21, 22, 23, 24] 4 9
  (fun b i w' => ∃ (k c' : Nat) (A' : Option Addr), k ≤ n ∧ i = .int .i64 k ∧ b = .slice A' k c' ∧ (xs.take k).all ej = true ∧ Hp w [.row A' k c' 5 1 (jj ((xs.take k).map pV))] w')
  (fun _ v _ => n - (intOf v).toNat) ?_ ?_
 ·exact ⟨0, 0, none, Nat.zero_le _, rfl, rfl, rfl, hh.eN _ _⟩
 ·clear hh;rintro ρ' b i w' ⟨k, c', A', hk, rfl, rfl, hall, hh⟩;by_cases hlt : k < n
  ·obtain ⟨x, hx⟩ := aG (l := xs) (k := k) Dq;obtain ⟨ad, rfl, hr⟩ := (hsl.ext hh.below).at_ Dq;by_cases h0 : x < 0
   ·refine sr ?_;refine a3 (aa (ah (cT (ak (ai (ah (ao (sr ?_))))))));refine fC aF.out aC.size rfl rfl Dq Dq Dr ?_;refine bp aC.out rfl (oH hr (kY hx) rfl) Dr ?_;refine aI (aa (ah (sr (mI ?_))));refine a3 (mB ?_);first | refine gS ?_ | (refine gT ?_; refine mI ?_) | refine gV ?_
    first | refine gS ?_ | (refine gT ?_; refine ct ?_) | refine gV ?_
    first | refine cW ?_ | refine cX ?_
    refine aa (cT (sr (aS (aI (aa (al (aH (bT (aH (aH (bT (aH ?_))))))))))));refine vW ?_;obtain ⟨e1, e2⟩ := x7 hx (by simp [ej]; omega);rw [e1, e2];exact ⟨rfl, hh.below⟩
   ·by_cases h1 : 127 < x
    ·refine sr ?_;refine a3 (aa (ah (cT (ak (ai (ah (ao (sr ?_))))))));refine fC aF.out aC.size rfl rfl Dq Dq Dr ?_;refine bp aC.out rfl (oH hr (kY hx) rfl) Dr ?_;refine aI (aa (ah (sr (mI ?_))));refine a3 (mB ?_);first | refine gS ?_ | (refine gT ?_; refine mI ?_) | refine gV ?_
     first | refine gS ?_ | (refine gT ?_; refine ct ?_) | refine gV ?_
     first | refine cW ?_ | refine cX ?_
     refine aa (cT (sr (aS (aI (aa (al (aH (bT (aH (aH (bT (aH ?_))))))))))));refine vW ?_;obtain ⟨e1, e2⟩ := x7 hx (by simp [ej]; omega);rw [e1, e2];exact ⟨rfl, hh.below⟩
    ·have hok : ej x = true := by simp [ej]; omega
     refine sr ?_;refine a3 (aa (ah (cT (ak (ai (ah (ao (sr ?_))))))));refine fC aF.out aC.size rfl rfl Dq Dq Dr ?_;refine bp aC.out rfl (oH hr (kY hx) rfl) Dr ?_;refine aI (aa (ah (sr (mI ?_))));refine a3 (mB ?_);first | refine gS ?_ | (refine gT ?_; refine mI ?_) | refine gV ?_
     first | refine gS ?_ | (refine gT ?_; refine ct ?_) | refine gV ?_
     first | refine cW ?_ | refine cX ?_
     refine aa (cF (ak (ai (ar (mL (mI ?_))))));refine pF aF.out aF.out rfl Dr ?_;refine bf hh (cs := [_]) aF.out aC.out (aY (bK rfl) bQ) rfl rfl Dr Dr Dr rfl Dr ?_;intro b22 w22 hh;refine ck hh (i := 1) rfl rfl rfl (hh.aD (i := 0) rfl) aF.out aC.out rfl Dr rfl Dq Dq Dr ?_;intro A23 c23 w23 hh;simp only [List.set_cons_zero, List.set_cons_succ] at hh;replace hh := hh.sub (List.sublist_cons_self _ _);refine aL (aE (aX (ai (ar ?_))));refine bO (mI (aE (ai ?_)));refine ⟨⟨k + 1, c23, A23, Dq, rfl, rfl, x9 hx hall hok, ?_⟩, by show n - (k + 1) < n - k; omega, ?_⟩
     ·rw [Ai Dq Dq, yu hx hok] at hh;exact hh
     ·exact Du
  ·obtain rfl : k = n := Dq;rw [List.take_of_length_le Dq] at hall hh;obtain ⟨e1, e2⟩ := nI hall;refine sr ?_;refine a3 (aa (ah (cF (aV (aA (aA (a8 (ai (sr (mL ?_))))))))));refine jL aF.out aF.out aF.out rfl (hh.aD (i := 0) rfl) Dr ?_;refine aS (aI (aa (al ?_)));refine vW ?_;rw [e1, e2];exact ⟨rfl, hh.below⟩
theorem jo (s : ByteArray) (w : World) (hs : s.size ≤ 100000) :
  Calls Tryz.prog 91 #[.string s] w fun e w' => ∃ A c, e = .returned (.slice A (jF s.data.toList).length c) ∧ w'.ownsRow w.heap.size 3 1 (.slice A (jF s.data.toList).length c) (jF s.data.toList).length (jw (jF s.data.toList)) ∧ Below w.heap.size w w' := by
 have hh := Hp.start w;have hsz := ca s
 cases hm : dq s.data.toList with
 | false =>
  refine aj (N := 22) (l := [.string s]) Tryz.func91 rfl rfl (by simp) ?_;refine sr (aL (aa (ah (sr (mS (mS ?_))))));refine bs aF.out rfl Dr ?_;refine bB hh (jG s _ Dq) rfl ?_;intro w9 hh;rw [hm];refine gd ?_;refine aa (cT (sr (aL (aa (al (aH ?_))))));refine cA ?_;rw [x6 hm];exact ⟨none, 0, rfl, World.ownsRow_nil _ _ _ _, hh.below⟩
 | true =>
  refine aj (N := 22) (l := [.string s]) Tryz.func91 rfl rfl (by simp) ?_;refine sr (aL (aa (ah (sr (mS (mS ?_))))));refine bs aF.out rfl Dr ?_;refine bB hh (jG s _ Dq) rfl ?_;intro w9 hh;rw [hm];refine gd ?_;refine aa (cF (ak (ai (sr (aL (aa (ah (sr (mS ?_)))))))));refine lb hh aF.out rfl Dr ?_;intro b12 w12 hh;skip;refine aa (ao ?_);refine bF [3, 5, 13, 14, 15, 16, 17, 18, 19, 20] 3
   (fun v w' => ∃ (k c' : Nat) (A' : Option Addr), k ≤ s.size ∧ v = .slice A' k c' ∧ Hp w [.row A' k c' 3 1 (jw (ints (s.data.toList.take k))), .it b12 s k] w')
   (fun v _ => s.size - lenOf v) ?_ ?_
  ·exact ⟨0, 0, none, Nat.zero_le _, rfl, hh.eN _ _⟩
  ·clear hh;rintro ρ' v w' ⟨k, c', A', hk, rfl, hh⟩;by_cases hlt : k < s.size
   ·obtain ⟨c, hc⟩ := aG (l := s.data.toList) (k := k) Dq;have h8 := gO hm hc;refine sr ?_;refine lh hh (i := 1) rfl rfl hc h8 Dr ?_;intro w13 hh;simp only [List.set_cons_zero, List.set_cons_succ] at hh;skip;refine da ?_;refine aa (ah (cT (ak (ai (ao (sr ?_))))));refine da ?_;refine aI (aa (ar (mL (mI ?_))));refine cV aF.out aF.out rfl Dq Dq Dr ?_;refine bf hh (cs := [_]) aF.out aC.out (aY (bK rfl) bQ) rfl rfl Dr Dr Dr rfl Dr ?_;intro b19 w19 hh;refine ck hh (i := 1) rfl rfl rfl (hh.aD (i := 0) rfl) aF.out aC.out rfl Dr rfl Dq Dq Dr ?_;intro A20 c20 w20 hh;simp only [List.set_cons_zero, List.set_cons_succ] at hh;replace hh := hh.sub (List.sublist_cons_self _ _);refine aL (aE (aX (ai ?_)));rw [nX hc] at hh;refine ⟨⟨k + 1, c20, A20, Dq, rfl, hh⟩, by show s.size - (k + 1) < s.size - k; omega, ?_⟩;exact Du
   ·refine sr ?_;refine kZ hh (i := 1) rfl rfl hlt Dr ?_;skip;refine da ?_;refine aa (ah (cF (aV (aA (aA (a8 (ai (sr (mL (aL (aa (al ?_))))))))))));refine cA ?_;obtain rfl : k = s.size := Dq;rw [List.take_of_length_le Dq] at hh;have h1 := hh.at_ (i := 0) rfl;rw [mF hm, cM, ← hsz];exact ⟨A', c', rfl, h1, hh.below⟩
theorem om (a b : ByteArray) (g : FuncId) (f : Int → Int → Int) (w : World) (ha : a.size ≤ 100000) (hb : b.size ≤ 100000) [aq Tryz.prog g]
  (hg : ∀ (x y : Int) (w : World), 0 ≤ x → x ≤ 127 → 0 ≤ y → y ≤ 127 → Calls Tryz.prog g #[.int .i64 x, .int .i64 y] w fun e w' => e = .returned (.int .i64 (f x y)) ∧ Below w.heap.size w w') :
  Calls Tryz.prog 206 #[.string a, .string b, .func (.func g) #[] #[]] w fun e w' =>
   (fJ f a.data.toList b.data.toList = none ∧ e = .returned (.tuple #[.slice none 0 0, .bool false]) ∧ Below w.heap.size w w') ∨
   ∃ l, fJ f a.data.toList b.data.toList = some l ∧ l.length = b.size ∧ ∃ A c, e = .returned (.tuple #[.slice A l.length c, .bool true]) ∧ w'.ownsRow w.heap.size 3 1 (.slice A l.length c) l.length (jw l) ∧ Below w.heap.size w w' := by
 have hh := Hp.start w;have hsa := ca a;have hsb := ca b
 cases hma : dq a.data.toList with
 | false =>
  refine aj (N := 45) (l := [.string a, .string b, .func (.func g) #[] #[]]) Tryz.func206 rfl rfl (by simp) ?_;refine sr (aL (aB (aa (sr (mS ?_)))));refine aK (jo b _ hb) aq.out rfl Dr ?_;rintro e_ w12 ⟨A12, c12, rfl, hown_, hb_⟩;refine ⟨_, rfl, ?_⟩;replace hh := hh.a9 (x := .row _ _ _ _ _ _) hb_ hown_;refine aL (aa (ah (sr (mS (mS ?_)))));refine bs aF.out rfl Dr ?_;refine bB hh (jG a _ Dq) rfl ?_;intro w16 hh;rw [hma];refine gd ?_;refine mB ?_;first | refine gS ?_ | (refine gT ?_; refine mS ?_) | refine gV ?_
  first | refine gS ?_ | (refine gT ?_; refine mS ?_) | refine gV ?_
  first | refine gS ?_ | (refine gT ?_; refine bs aF.out rfl Dr ?_) | refine gV ?_
  refine cb Dr rfl rfl Dr ?_;first | refine gS ?_ | (refine gT ?_; refine gd ?_) | refine gV ?_
  first | refine cW ?_ | refine cX ?_
  refine aa (cT (sr (aL (aB (aa (al (aH ?_)))))));refine vW ?_;exact .inl ⟨by simp [fJ, hma], rfl, hh.below⟩
 | true =>
  cases hmb : (dq b.data.toList && decide ((b.size : Int) = a.size)) with
  | false =>
   refine aj (N := 45) (l := [.string a, .string b, .func (.func g) #[] #[]]) Tryz.func206 rfl rfl (by simp) ?_;refine sr (aL (aB (aa (sr (mS ?_)))));refine aK (jo b _ hb) aq.out rfl Dr ?_;rintro e_ w12 ⟨A12, c12, rfl, hown_, hb_⟩;refine ⟨_, rfl, ?_⟩;replace hh := hh.a9 (x := .row _ _ _ _ _ _) hb_ hown_;refine aL (aa (ah (sr (mS (mS ?_)))));refine bs aF.out rfl Dr ?_;refine bB hh (jG a _ Dq) rfl ?_;intro w16 hh;rw [hma];refine gd ?_;refine mB ?_;first | refine gS ?_ | (refine gT ?_; refine mS ?_) | refine gV ?_
   first | refine gS ?_ | (refine gT ?_; refine mS ?_) | refine gV ?_
   first | refine gS ?_ | (refine gT ?_; refine bs aF.out rfl Dr ?_) | refine gV ?_
   refine br rfl rfl ?_;refine bB hh (iJ b _ _ Dq) rfl ?_;intro w22 hh;rw [hmb];first | refine gS ?_ | (refine gT ?_; refine gd ?_) | refine gV ?_
   first | refine cW ?_ | refine cX ?_
   refine aa (cT (sr (aL (aB (aa (al (aH ?_)))))));refine vW ?_;have : (dq b.data.toList && decide ((b.data.toList.length : Int) = a.data.toList.length)) = false := by rw [← hsa, ← hsb]; exact hmb
   exact .inl ⟨by simp only [fJ, hma, this]; rfl, rfl, hh.below⟩
  | true =>
   have hmb2 := hmb;simp only [Bool.and_eq_true, decide_eq_true_eq] at hmb2;have hbl : fJ f a.data.toList b.data.toList = some (List.zipWith f (ints a.data.toList) (ints b.data.toList)) := by
    have : (dq b.data.toList && decide ((b.data.toList.length : Int) = a.data.toList.length)) = true := by rw [← hsa, ← hsb]; exact hmb
    simp only [fJ, hma, this]; rfl
   have hea := mF hma;have heb := mF hmb2.1;have hlab : (ints a.data.toList).length = (ints b.data.toList).length := by rw [cM, cM]; omega
   have hlb := cM b.data.toList;have hla := cM a.data.toList;have hA := jo a;have hB := jo b;rw [hea] at hA;rw [heb] at hB;generalize hia : ints a.data.toList = ia at *;generalize hib : ints b.data.toList = ib at *;have bda : ∀ (k : Nat) (x : Int), ia[k]? = some x → 0 ≤ x ∧ x ≤ 127 := fun k x h => vH (l := a.data.toList) (by rw [hea]; exact h);have bdb : ∀ (k : Nat) (x : Int), ib[k]? = some x → 0 ≤ x ∧ x ≤ 127 := fun k x h => vH (l := b.data.toList) (by rw [heb]; exact h);clear hea heb;refine aj (N := 45) (l := [.string a, .string b, .func (.func g) #[] #[]]) Tryz.func206 rfl rfl (by simp) ?_;refine sr (aL (aB (aa (sr (mS ?_)))));refine aK (hB _ hb) aq.out rfl Dr ?_;rintro e_ w12 ⟨A12, c12, rfl, hown_, hb_⟩;refine ⟨_, rfl, ?_⟩;replace hh := hh.a9 (x := .row _ _ _ _ _ _) hb_ hown_;refine aL (aa (ah (sr (mS (mS ?_)))));refine bs aF.out rfl Dr ?_;refine bB hh (jG a _ Dq) rfl ?_;intro w16 hh;rw [hma];refine gd ?_;refine mB ?_;first | refine gS ?_ | (refine gT ?_; refine mS ?_) | refine gV ?_
   first | refine gS ?_ | (refine gT ?_; refine mS ?_) | refine gV ?_
   first | refine gS ?_ | (refine gT ?_; refine bs aF.out rfl Dr ?_) | refine gV ?_
   refine br rfl rfl ?_;refine bB hh (iJ b _ _ Dq) rfl ?_;intro w22 hh;rw [hmb];first | refine gS ?_ | (refine gT ?_; refine gd ?_) | refine gV ?_
   first | refine cW ?_ | refine cX ?_
   refine aa (cF (ak (ai (ah (sr (mS ?_))))));refine aK (hA _ ha) aq.out rfl Dr ?_;rintro e_ w26 ⟨A26, c26, rfl, hown_, hb_⟩;refine ⟨_, rfl, ?_⟩;replace hh := hh.a9 (x := .row _ _ _ _ _ _) hb_ hown_;refine a4 (mI (aa (ao ?_)));refine bF [9, 10, 28, 29, 30, 31, 32, 33, 34, 35, 36, 37, 38, 39, 40, 41, 42, 43] 28
    (fun i w' => ∃ k : Nat, k ≤ ib.length ∧ i = .int .i64 k ∧ Hp w [.row A26 ia.length c26 3 1 (jw ia), .row A12 ib.length c12 3 1 (jw (jU f ia ib k))] w')
    (fun i _ => ib.length - (intOf i).toNat) ?_ ?_
   ·exact ⟨0, Nat.zero_le _, rfl, by rw [xG]; exact hh⟩
   ·clear hh hown_ hb_;rintro ρ' i w' ⟨k, hk, rfl, hh⟩;by_cases hlt : k < ib.length
    ·obtain ⟨x, hx⟩ := aG (l := ia) (k := k) Dq;obtain ⟨y, hy⟩ := aG hlt;have bx := bda k x hx;have byy := bdb k y hy;have hx2 := kY hx;have hy2 := kY (Bf (f := f) hlab hy);have hml := zy (f := f) hlab hk;have hml2 := nc (jU f ia ib k);obtain ⟨ga, rfl⟩ := hh.fO (i := 0) rfl Dq;obtain ⟨gb, rfl⟩ := hh.fO (i := 1) rfl Dq;refine sr ?_;refine a3 (aa (ah (cT (ak (ai (ah (ao (sr (mI ?_)))))))));refine bm aF.out aC.size rfl rfl rfl Dq Dr ?_;refine bp aC.out rfl (hh.cE (i := 0) rfl (by first | assumption | (simp only [Nat.mul_one]; assumption))) Dr ?_;refine aI (aI (aa (ar (mL (mI ?_)))));refine fy (by first | exact gQ rfl | exact ev_nilf rfl) Dr ?_;refine mI (mL (mI ?_));refine bm aF.out aC.size rfl rfl rfl Dq Dr ?_;refine bp aC.out rfl (hh.cE (i := 1) rfl (by first | assumption | (simp only [Nat.mul_one]; assumption))) Dr ?_;refine fp (hg x y _ bx.1 bx.2 byy.1 byy.2) aq.out rfl rfl Dr ?_;rintro e_ w41 ⟨rfl, hb_⟩;refine ⟨_, rfl, ?_⟩;replace hh := hh.ext hb_;refine bm aF.out aC.size rfl rfl rfl Dq Dr ?_;refine bA hh (i := 1) (vs := [_]) rfl rfl (bK rfl) rfl aC.out rfl Dq rfl ?_;intro ws hh;simp only [List.set_cons_zero, List.set_cons_succ] at hh;refine aE (aX (ai (ar ?_)))
     refine bO (mI (aE (ai ?_)));rw [Nat.mul_one, zZ hlab hx hy] at hh;refine ⟨⟨k + 1, Dq, rfl, hh⟩, by show _ - (k + 1) < _ - k; omega, ?_⟩;exact Du
    ·refine sr ?_;refine a3 (aa (ah (cF (aV (aA (aA (a8 (ai (sr (mL (aL (aB (aa (al ?_))))))))))))));refine vW ?_;obtain rfl : k = ib.length := Dq;rw [xw hlab] at hh;have h1 := hh.at_ (i := 1) rfl;have hzl : (List.zipWith f ia ib).length = ib.length := by simp [hlab]
     refine .inr ⟨_, hbl, Dq, A12, c12, ?_⟩;rw [hzl];exact ⟨rfl, h1, hh.below⟩
theorem wN (a b : ByteArray) (g : FuncId) (f : Int → Int → Int) (w : World) (ha : a.size ≤ 100000) (hb : b.size ≤ 100000) [aq Tryz.prog g]
  (hg : ∀ (x y : Int) (w : World), 0 ≤ x → x ≤ 127 → 0 ≤ y → y ≤ 127 → Calls Tryz.prog g #[.int .i64 x, .int .i64 y] w fun e w' => e = .returned (.int .i64 (f x y)) ∧ Below w.heap.size w w')
  (h : fJ f a.data.toList b.data.toList = none) :
  Calls Tryz.prog 206 #[.string a, .string b, .func (.func g) #[] #[]] w fun e w' => e = .returned (.tuple #[.slice none 0 0, .bool false]) ∧ Below w.heap.size w w' :=
 (om a b g f w ha hb hg).mono fun e w' hq => by
  rcases hq with hq | ⟨l, hl, _⟩
  ·exact hq.2
  ·rw [h] at hl; cases hl
theorem vY (a b : ByteArray) (g : FuncId) (f : Int → Int → Int) (w : World) (ha : a.size ≤ 100000) (hb : b.size ≤ 100000) [aq Tryz.prog g]
  (hg : ∀ (x y : Int) (w : World), 0 ≤ x → x ≤ 127 → 0 ≤ y → y ≤ 127 → Calls Tryz.prog g #[.int .i64 x, .int .i64 y] w fun e w' => e = .returned (.int .i64 (f x y)) ∧ Below w.heap.size w w')
  {l : List Int} (h : fJ f a.data.toList b.data.toList = some l) :
  Calls Tryz.prog 206 #[.string a, .string b, .func (.func g) #[] #[]] w fun e w' => ∃ A c, e = .returned (.tuple #[.slice A l.length c, .bool true]) ∧ w'.ownsRow w.heap.size 3 1 (.slice A l.length c) l.length (jw l) ∧ Below w.heap.size w w' :=
 (om a b g f w ha hb hg).mono fun e w' hq => by
  rcases hq with ⟨hn, _⟩ | ⟨l', hl, _, hq⟩
  ·rw [h] at hn; cases hn
  ·rw [h] at hl; injection hl with hl; subst hl; exact hq
theorem xp {f : Int → Int → Int} {a b : List UInt8} {l : List Int} (h : fJ f a b = some l) : l.length ≤ b.length := by
 unfold fJ at h;split at h
 ·injection h with h; subst h; simp [ints]; omega
 ·cases h
theorem nV (x y : Int) (w : World) (h1 : 0 ≤ x) (h2 : x ≤ 127) (h3 : 0 ≤ y) (h4 : y ≤ 127) :
  Calls Tryz.prog 207 #[.int .i64 x, .int .i64 y] w fun e w' => e = .returned (.int .i64 (x + y)) ∧ Below w.heap.size w w' := by
 refine aj (N := 8) (l := [.int .i64 x, .int .i64 y]) Tryz.func207 rfl rfl (by simp) ?_;refine sr (aI (aa (sr (mI (mI ?_)))));refine bO (aI (aa (al ?_)));refine cA ?_;exact ⟨rfl, Below.refl _ _⟩
theorem xb (a b : ByteArray) (w : World) (ha : a.size ≤ 100000) (hb : b.size ≤ 100000) :
  Calls Tryz.prog 165 #[.string a, .string b] w fun e w' => e = .returned (.tuple #[.string (str (mulL a.data.toList b.data.toList).1), .int .i64 (mulL a.data.toList b.data.toList).2]) ∧ Below w.heap.size w w' := by
 have hh := Hp.start w;have hsb := ca b
 cases hbo : fJ (· + ·) a.data.toList b.data.toList with
 | none =>
  refine aj (N := 20) (l := [.string a, .string b]) Tryz.func165 rfl rfl (by simp) ?_;refine sr (aS (aI (aa (sr (mS (mS ?_))))));refine bB hh (wN a b _ _ _ ha hb nV hbo) rfl ?_;intro w11 hh;refine mT ?_;refine da ?_;refine da ?_;refine aL (aB (aa (ah (sr (mB ?_)))));refine gd ?_;refine aa (cT (sr (aS (aI (aa (al (aH ?_)))))));refine vW ?_;simp only [mulL, hbo];first | exact ⟨rfl, hh.below⟩ | exact ⟨trivial, hh.below⟩
 | some l =>
  have hl := xp hbo;refine aj (N := 20) (l := [.string a, .string b]) Tryz.func165 rfl rfl (by simp) ?_;refine sr (aS (aI (aa (sr (mS (mS ?_))))));refine aK (vY a b _ _ _ ha hb nV hbo) aq.out rfl Dr ?_;rintro e_ w11 ⟨A11, c11, rfl, hown_, hb_⟩;refine ⟨_, rfl, ?_⟩;replace hh := hh.a9 (x := .row _ _ _ _ _ _) hb_ hown_;refine mT ?_;refine da ?_;refine da ?_;refine aL (aB (aa (ah (sr (mB ?_)))));refine gd ?_;refine aa (cF (ak (ai (sr (mL ?_)))));refine bB hh (yO _ _ _ _ _ (hh.aD (i := 0) rfl) Dq) rfl ?_;intro w17 hh;refine da ?_;refine da ?_;refine aS (aI (aa (al ?_)));refine vW ?_;simp only [mulL, hbo];first | exact ⟨rfl, hh.below⟩ | exact ⟨trivial, hh.below⟩
end Go.Proofs.YteeckcbbnegmcaaGreatDoor
