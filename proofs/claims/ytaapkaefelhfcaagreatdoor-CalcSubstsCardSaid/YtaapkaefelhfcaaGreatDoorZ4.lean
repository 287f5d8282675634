/- Lemmas for calcSubsts, part 4. -/
import Derived.LaidMore
import Derived.Lay
import Derived.Deep.Slices
import Derived.Stop.Joined
import Derived.Deep.Strs
import Derived.Laws.OwnMore
import Derived.Lib.SliceRun
import Derived.Test.YtaapkaefelhfcaaGreatDoorZ3
/- Several texts in one: RefA, RefB, RefC, RefD. -/
namespace Go.Proofs.YtaapkaefelhfcaaGreatDoor
open Go.RowKit
theorem Sl.BU {w : World} {A : Option Addr} {n : Nat} {xs : List Nat} (h : Sl w A n 1 (fy xs)) {k : Nat} (hk : k ≤ n) : Sl w A k 1 (fy (xs.take k)) := by
 have hl := h.1
 rw [cH] at hl
 refine ⟨by rw [cH, List.length_take]; omega, fun h0 => ?_⟩
 obtain ⟨ad, he, hr⟩ := h.2 (by omega)
 exact ⟨ad, he, by rw [td]; exact hr.take k⟩
theorem Sl.Cr {w : World} {A : Option Addr} {n : Nat} {xs : List Nat} (h : Sl w A n 1 (fy xs)) : Sl w A (dI xs).length 1 (fy (dI xs)) := by
 have hl := h.1
 rw [cH] at hl
 have := eN xs
 have h2 := h.BU (k := (dI xs).length) (by omega)
 rwa [← iq] at h2
theorem Hp.Bx {w0 w : World} {H : List HE} {A : Option Addr} {n c : Nat} {t : TypeId} {xs : List Nat} (h : Hp w0 (.row A n c t 1 (fy xs) :: H) w) (hl : xs.length = n) : Hp w0 (.row A (dI xs).length c t 1 (fy (dI xs)) :: H) w := by
 have h1 := eN xs
 have h2 := h.ua (k := (dI xs).length) (by omega)
 rw [Nat.mul_one, ← td, ← iq] at h2
 exact h2
theorem jB (A : Option Addr) (n c : Nat) (xs : List Nat) (w : World) (hx : Sl w A n 1 (fy xs)) (hc : n ≤ c) (hn : n ≤ 1000000000000) :
  Calls Tryz.prog 269 #[.slice A n c] w fun e w' => e = .returned (.slice A (dI xs).length c) ∧ Below w.heap.size w w' := by
 have hlen : xs.length = n := by have := hx.1; rw [cH] at this; omega
 have hh := Hp.start w
 refine ak (N := 21) (l := [.slice A n c]) Tryz.func269 rfl rfl (by simp) ?_
 refine sr (aL (ae (sr (mL (aO (aI (ae (ah (al ?_)))))))))
 refine bs [3, 6, 7, 8, 9, 10, 11, 12, 13, 14, 15, 16, 17] 3
  (fun v w' => ∃ k : Nat, k ≤ n ∧ v = .int .i64 k ∧ dI (xs.take k) = dI xs ∧ w' = w)
  (fun v _ => (intOf v).toNat) ?_ ?_
 ·exact ⟨n, Nat.le_refl _, rfl, by rw [List.take_of_length_le (by omega)], rfl⟩
 ·rintro ρ' v w' ⟨k, hk, rfl, hcut, rfl⟩
  by_cases h0 : k = 0
  ·subst h0
   refine ah (sr (mI ?_))
   refine bY (mB ?_)
   first | refine gS ?_ | (refine gT ?_; refine mL ?_) | refine gV ?_
   first | refine gS ?_ | (refine gT ?_; refine mI ?_) | refine gV ?_
   first | refine gS ?_ | (refine gT ?_; refine eB ?_) | refine gV ?_
   first | refine gS ?_ | (refine gT ?_; refine cJ aF.out aC.size rfl rfl (by omega) (by omega) (by decide) ?_) | refine gV ?_
   first | (refine cm (by decide) rfl rfl (by decide) ?_) | (refine gj (by decide) rfl rfl ?_)
   first | refine gS ?_ | (refine gT ?_; refine ck ?_) | refine gV ?_
   first | refine cR ?_ | refine cQ ?_
   refine ae (cF ?_)
   refine aP ?_
   refine ay (ay (a6 (ai (sr (mL (mI ?_))))))
   refine jg (h := 0) aF.out aC.size rfl rfl (by omega) (by omega) (by decide) ?_
   refine aL (ae (ao ?_))
   refine cA ?_
   rw [← hcut]
   exact ⟨rfl, hh.below⟩
  ·obtain ⟨j, rfl⟩ : ∃ j, k = j + 1 := ⟨k - 1, by omega⟩
   obtain ⟨d, hd⟩ := aD (l := xs) (k := j) (by omega)
   obtain ⟨ad, rfl, hr⟩ := hx.at_ (by omega)
   have hd2 := k7 hd
   rw [aJ hd] at hcut
   by_cases hz : d = 0
   ·subst hz
    rw [nW] at hcut
    refine ah (sr (mI ?_))
    refine bY (mB ?_)
    first | refine gS ?_ | (refine gT ?_; refine mL ?_) | refine gV ?_
    first | refine gS ?_ | (refine gT ?_; refine mI ?_) | refine gV ?_
    first | refine gS ?_ | (refine gT ?_; refine eB ?_) | refine gV ?_
    first | refine gS ?_ | (refine gT ?_; refine aR (k := j) aF.out aC.size rfl rfl (by omega) (by omega) (by decide) ?_) | refine gV ?_
    first | refine gS ?_ | (refine gT ?_; refine bh aC.out rfl ((hr.ext hh.below).nJ (by assumption)) (by decide) ?_) | refine gV ?_
    first | refine gS ?_ | (refine gT ?_; refine ck ?_) | refine gV ?_
    first | refine cR ?_ | refine cQ ?_
    refine ae (cT (aj (ai (al (aq (mI ?_))))))
    refine eB (aI (aE (aW (ai ?_))))
    refine ⟨⟨j, by omega, by show Value.int _ _ = Value.int _ _; congr 1; omega, hcut, rfl⟩, by show (((j + 1 : Nat) : Int) - 1).toNat < (((j + 1 : Nat) : Int)).toNat; omega, ?_⟩
    (repeat (first | exact aw _ _ _ | refine ax rfl ?_ | refine ar rfl ?_))
   ·rw [qN hz] at hcut
    refine ah (sr (mI ?_))
    refine bY (mB ?_)
    first | refine gS ?_ | (refine gT ?_; refine mL ?_) | refine gV ?_
    first | refine gS ?_ | (refine gT ?_; refine mI ?_) | refine gV ?_
    first | refine gS ?_ | (refine gT ?_; refine eB ?_) | refine gV ?_
    first | refine gS ?_ | (refine gT ?_; refine aR (k := j) aF.out aC.size rfl rfl (by omega) (by omega) (by decide) ?_) | refine gV ?_
    first | refine gS ?_ | (refine gT ?_; refine bh aC.out rfl ((hr.ext hh.below).nJ (by assumption)) (by decide) ?_) | refine gV ?_
    first | refine gS ?_ | (refine gT ?_; refine ck ?_) | refine gV ?_
    first | refine cR ?_ | refine cQ ?_
    refine ae (cF ?_)
    refine aP ?_
    refine ay (ay (a6 (ai (sr (mL (mI ?_))))))
    refine jg (h := j + 1) aF.out aC.size rfl rfl (by omega) (by omega) (by decide) ?_
    refine aL (ae (ao ?_))
    refine cA ?_
    rw [← hcut, List.length_append, List.length_take, Nat.min_eq_left (by omega)]
    exact ⟨rfl, hh.below⟩
theorem xr {s : List UInt8} {j k : Nat} {c : UInt8} (hc : (tN s)[j]? = some c.toNat) (hk : k < 8) : c.toNat / 2 ^ k % 2 = bn s / 2 ^ (8 * j + k) % 2 := by
 have h1 := nA (q6 s) hc
 rw [← h1, ← bn, Nat.pow_add, Nat.pow_mul, show (2 ^ 8 : Nat) = 256 from rfl, ← Nat.div_div_eq_div_mul]
 generalize bn s / 256 ^ j = m
 have e : (256 : Nat) = 2 ^ k * 2 ^ (8 - k) := by rw [← Nat.pow_add, show k + (8 - k) = 8 by omega]
 have e2 : 2 ^ (8 - k) = 2 * 2 ^ (7 - k) := by rw [← Nat.pow_succ']; congr 1; omega
 rw [e, Nat.mod_mul_right_div_self, e2, Nat.mod_mul_right_mod]
theorem cU (a : ByteArray) (w : World) (ha : a.size ≤ 1000000000) :
  Calls Tryz.prog 238 #[.string a] w fun e w' => ∃ A c, e = .returned (.slice A (aZ 2 (bN a)).length c) ∧ w'.ownsRow w.heap.size 5 1 (.slice A (aZ 2 (bN a)).length c) (aZ 2 (bN a)).length (fy (aZ 2 (bN a))) ∧ Below w.heap.size w w' := by
 have hsz := cw a
 have hh := Hp.start w
 refine ak (N := 28) (l := [.string a]) Tryz.func238 rfl rfl (by simp) ?_
 refine sr (aL (ae (sr (aL (ae (ah (sr (mS ?_))))))))
 refine bg aF.out rfl (by decide) ?_
 refine eB (aI (ae (al ?_)))
 replace hh := hh.di 5 1
 refine ct [3, 4, 5, 9, 10, 11, 12, 13, 14, 15, 16, 17, 18, 19, 20, 21, 22, 23, 24, 25] 3 4
  (fun o v w' => ∃ (j : Nat) (A : Option Addr) (c : Nat), j ≤ a.size ∧ v = .int .i64 ((a.size : Int) - 1 - j) ∧ o = .slice A (8 * j) c ∧ Hp w [.row A (8 * j) c 5 1 (fy (bT 2 (8 * j) (bN a)))] w')
  (fun _ v _ => (intOf v + 1).toNat) ?_ ?_
 ·exact ⟨0, none, 0, Nat.zero_le _, by show Value.int _ _ = Value.int _ _; congr 1; omega, rfl, hh⟩
 ·clear hh
  rintro ρ' o v w' ⟨j, A, c, hj, rfl, rfl, hh⟩
  by_cases hlt : j < a.size
  ·obtain ⟨ch, hc⟩ := aD (l := a.data.toList) (k := ((a.size : Int) - 1 - j).toNat) (by omega)
   have hlo := y6 (s := a.data.toList) (i := j) (c := ch) (by omega) (by rw [← hc]; congr 1; omega)
   have hc8 := ch.toNat_lt
   refine ah (sr (mI ?_))
   refine dn (ae (cT (aj (ai (ah (al (sr (aI (ae (al ?_))))))))))
   refine ct [3, 5, 13, 14, 15, 16, 17, 18, 19, 20, 21, 22, 23, 24, 25] 3 5
    (fun o v w' => ∃ (k : Nat) (A : Option Addr) (c : Nat), k ≤ 8 ∧ v = .int .i64 (k : Int) ∧ o = .slice A (8 * j + k) c ∧ Hp w [.row A (8 * j + k) c 5 1 (fy (bT 2 (8 * j + k) (bN a)))] w')
    (fun _ v _ => 8 - (intOf v).toNat) ?_ ?_
   ·exact ⟨0, A, c, Nat.zero_le _, rfl, rfl, hh⟩
   ·clear hh
    rintro ρ2 o v w2 ⟨k, A2, c2, hk, rfl, rfl, hh⟩
    by_cases hk8 : k < 8
    ·have hst := xr hlo hk8
     have hand : ∀ z : Nat, z &&& 1 = z % 2 := fun z => Nat.and_one_is_mod z
     have hcl : ch.toNat / 2 ^ (k : Int).toNat < 256 := Nat.lt_of_le_of_lt (Nat.div_le_self _ _) hc8
     refine ah (sr (mI ?_))
     refine aU (ae (cT (aj (ai (ah (al (aq (mL (mS (mI ?_))))))))))
     refine bo aF.out rfl rfl (by omega) (by assumption) (by decide) ?_
     refine mI ?_
     refine uj rfl rfl (by omega) (by decide) ?_
     refine j1 (b := 1) rfl rfl (by first | assumption | omega) (by first | assumption | omega) (by decide) ?_
     refine bB hh (cs := [_]) aF.out aC.out (bm (cb rfl) cn) rfl rfl (by decide) (by decide) (by decide) rfl (by decide) ?_
     intro b24 w24 hh
     refine bF hh (i := 1) rfl rfl rfl (hh.aK (i := 0) rfl) aF.out aC.out rfl (by decide) (by first | rfl | exact bU _ | exact bI _ | exact oneCells_i64s _ | exact bf NR.one _) (by omega) (by omega) (by decide) ?_
     intro A25 c25 w25 hh
     simp only [List.set_cons_zero, List.set_cons_succ] at hh
     replace hh := hh.sub (List.sublist_cons_self _ _)
     refine aL (aE (aW (ai (aq (mI ?_)))))
     refine bL (aI (aE (ai ?_)))
     have e1 : fy (bT 2 (8 * j + k) (bN a)) ++ [Value.int .u8 ((ch.toNat / 2 ^ (k : Int).toNat &&& 1 : Nat) : Int)] = fy (bT 2 (8 * j + (k + 1)) (bN a)) := by
      rw [hand, Int.toNat_natCast, hst, ← Nat.add_assoc, jl, pz]; rfl
     rw [e1] at hh
     refine ⟨⟨k + 1, A25, c25, by omega, rfl, rfl, hh⟩, by show 8 - (k + 1) < 8 - k; omega, ?_⟩
     (repeat (first | exact aw _ _ _ | refine ax rfl ?_ | refine ar rfl ?_))
    ·obtain rfl : k = 8 := by omega
     refine ah (sr (mI ?_))
     refine aU (ae (cF ?_))
     refine aP ?_
     refine ay (ay (a6 (aW (ai (aq (mI ?_))))))
     refine eB (aI (aE (ai ?_)))
     refine ⟨⟨j + 1, A2, c2, by omega, by show Value.int _ _ = Value.int _ _; congr 1; omega, rfl, hh⟩, by show ((a.size : Int) - 1 - j - 1 + 1).toNat < ((a.size : Int) - 1 - j + 1).toNat; omega, ?_⟩
     (repeat (first | exact aw _ _ _ | refine ax rfl ?_ | refine ar rfl ?_))
  ·obtain rfl : j = a.size := by omega
   refine ah (sr (mI ?_))
   refine dn (ae (cF ?_))
   refine aP ?_
   refine ay (ay (a6 (ai (sr (mL ?_)))))
   refine bG hh (jB _ _ _ (bT 2 (8 * a.size) (bN a)) _ (hh.aK (i := 0) rfl) (hh.dv (i := 0) rfl) (by omega)) rfl ?_
   intro w27 hh
   refine aL (ae (ao ?_))
   refine cA ?_
   have hb := qt a
   rw [show (256 : Nat) = 2 ^ 8 from rfl, ← Nat.pow_mul] at hb
   have hd : dI (bT 2 (8 * a.size) (bN a)) = aZ 2 (bN a) := by
    rw [eT (by omega) (ec (by omega) _ _), cu hb]
   have h1 := (Hp.Bx (xs := bT 2 (8 * a.size) (bN a)) hh (aY _ _)).at_ (i := 0) rfl
   rw [hd] at h1
   rw [hd]
   exact ⟨_, _, rfl, h1, hh.below⟩
theorem Ap {l : List Nat} {j v : Nat} (h : j < l.length) : l.reverse.set (l.length - 1 - j) v = (l.set j v).reverse := by
 apply List.ext_getElem?
 intro i
 rcases Nat.lt_or_ge i l.length with hi | hi
 ·rw [List.getElem?_reverse (by rw [List.length_set]; exact hi), List.length_set, List.getElem?_set, List.getElem?_set, List.getElem?_reverse hi, List.length_reverse]
  by_cases he : l.length - 1 - j = i
  ·rw [if_pos he, if_pos (by omega), if_pos (by omega), if_pos h]
  ·rw [if_neg he, if_neg (by omega)]
 ·rw [List.getElem?_eq_none (by simp; omega), List.getElem?_eq_none (by simp; omega)]
theorem uS {i b k : Nat} (P : Nat) (hP : P < 2 ^ i) (hb : b < 2) (hk : i / 8 < k) : P / 256 ^ (i / 8) % 256 + b * 2 ^ (i % 8) < 256 ∧ (bT 256 k P).set (i / 8) (P / 256 ^ (i / 8) % 256 + b * 2 ^ (i % 8)) = bT 256 k (P + 2 ^ i * b) := by
 have hp : 2 ^ i = 256 ^ (i / 8) * 2 ^ (i % 8) := by
  rw [show (256 : Nat) = 2 ^ 8 from rfl, ← Nat.pow_mul, ← Nat.pow_add]; congr 1; omega
 have h1 : P / 256 ^ (i / 8) < 2 ^ (i % 8) := by
  rw [Nat.div_lt_iff_lt_mul (Nat.pow_pos (by omega)), Nat.mul_comm, ← hp]; exact hP
 have h2 : 2 ^ (i % 8) ≤ 128 := by
  have := Nat.pow_le_pow_right (show 0 < 2 by omega) (show i % 8 ≤ 7 by omega)
  omega
 have h3 : P / 256 ^ (i / 8) % 256 < 2 ^ (i % 8) := Nat.lt_of_le_of_lt (Nat.mod_le _ _) h1
 have h4 : b * 2 ^ (i % 8) ≤ 1 * 2 ^ (i % 8) := Nat.mul_le_mul_right _ (by omega)
 have h5 : 2 ^ i * b = 256 ^ (i / 8) * (b * 2 ^ (i % 8)) := by rw [hp, Nat.mul_assoc, Nat.mul_comm b]
 refine ⟨by omega, ?_⟩
 rw [h5]
 refine ma (by omega) hk ?_ (by omega)
 rw [← h5]
 have h6 : 2 ^ i * b ≤ 2 ^ i * 1 := Nat.mul_le_mul_left _ (by omega)
 have h7 : 2 ^ (i + 1) ≤ 256 ^ k := by
  rw [show (256 : Nat) = 2 ^ 8 from rfl, ← Nat.pow_mul]
  exact Nat.pow_le_pow_right (by omega) (by omega)
 rw [Nat.pow_succ] at h7
 omega
theorem dV (A : Option Addr) (n c : Nat) (xs : List Nat) (w : World) (hx : Sl w A n 1 (fy xs)) (hd : Dg 2 xs) (hc : n ≤ c) (hn : n ≤ 100000000000) :
  Calls Tryz.prog 264 #[.slice A n c] w fun e w' => e = .returned (.string (sN (bD 2 xs))) ∧ Below w.heap.size w w' := by
 have hl := hx.1
 rw [cH] at hl
 have hcl := eN xs
 have hcx := hx.Cr
 have hcan := eT (by omega) hd
 have hlen := uy (bD 2 xs)
 rw [hcan] at hcl hcx
 have hcd := (dw (B := 2) (by omega) (bD 2 xs)).1
 have hcv := dK (B := 2) (by omega) (bD 2 xs)
 have hbl : (aZ 2 (bD 2 xs)).length = bM (bD 2 xs) := rfl
 have hh := Hp.start w
 refine ak (N := 38) (l := [.slice A n c]) Tryz.func264 rfl rfl (by simp) ?_
 refine sr (aS (ae (sr (mL ?_))))
 refine bG hh (jB _ _ _ xs _ hx hc (by omega)) rfl ?_
 intro w6 hh
 rw [hcan]
 generalize bD 2 xs = M at *
 generalize aZ 2 M = xs' at *
 refine aL (ae (sr (mL (aO ?_))))
 refine bL ?_
 refine jd rfl rfl (by omega) (by omega) (by omega) (by decide) ?_
 refine gO (n := (xs'.length + 7) / 8) hh rfl rfl (by omega) (by omega) aF.out aC.out rfl (by omega) (by omega) (by decide) ?_
 intro b11 w11 hh
 refine aL (ae (ah (sr (aI (ae (al ?_))))))
 rw [lE] at hh
 refine bs [4, 12, 13, 14, 15, 16, 17, 18, 19, 20, 21, 22, 23, 24, 25, 26, 27, 28, 29, 30, 31, 32, 33, 34, 35] 4
  (fun v w' => ∃ i : Nat, i ≤ xs'.length ∧ v = .int .i64 i ∧ Hp w [.row (some ⟨b11, 0, none⟩) ((xs'.length + 7) / 8) ((xs'.length + 7) / 8) 5 1 (fy (bT 256 ((xs'.length + 7) / 8) (bD 2 (xs'.take i))).reverse)] w')
  (fun v _ => xs'.length - (intOf v).toNat) ?_ ?_
 ·exact ⟨0, Nat.zero_le _, rfl, by rw [List.take_zero, bD, mz, List.reverse_replicate]; exact hh⟩
 ·clear hh
  rintro ρ' v w' ⟨i, hi, rfl, hh⟩
  by_cases hlt : i < xs'.length
  ·obtain ⟨d, hdi⟩ := aD (l := xs') (k := i) (by omega)
   obtain ⟨ad, rfl, hr⟩ := hcx.at_ (by omega)
   have hd2 := k7 hdi
   have hdw := hcd.at_ hdi
   have hP := gl (hcd.take i)
   rw [List.length_take, Nat.min_eq_left (by omega)] at hP
   obtain ⟨s1, s2⟩ := uS (k := (xs'.length + 7) / 8) (bD 2 (xs'.take i)) hP hdw (by omega)
   have hg : (bT 256 ((xs'.length + 7) / 8) (bD 2 (xs'.take i))).reverse[(xs'.length + 7) / 8 - 1 - i / 8]? = some (bD 2 (xs'.take i) / 256 ^ (i / 8) % 256) := by
    rw [List.getElem?_reverse (by rw [aY]; omega), aY, show (xs'.length + 7) / 8 - 1 - ((xs'.length + 7) / 8 - 1 - i / 8) = i / 8 by omega]
    exact gp _ _ _ (by omega)
   have hg2 := k7 hg
   have e1 : ((i : Int) % 8).toNat = i % 8 := by omega
   have hset := Ap (l := bT 256 ((xs'.length + 7) / 8) (bD 2 (xs'.take i))) (j := i / 8) (v := bD 2 (xs'.take i) / 256 ^ (i / 8) % 256 + d * 2 ^ (i % 8)) (by rw [aY]; omega)
   rw [aY, s2] at hset
   refine ah (sr (mI (mL (aO ?_))))
   refine aU (ae (cT (aj (ai (ah (al ?_))))))
   refine aX 16 [[(3, none)], [(3, none)], [(19, some 1)], [(20, some 2)], [(4, none)], [(22, some 4)], [(21, some 3), (23, some 5)], [(18, some 0), (24, some 6)], [(25, some 7)], [(0, none)], [(4, none)], [(27, some 9), (28, some 10)], [(29, some 11)], [(4, none)], [(31, some 13)], [(30, some 12), (32, some 14)]] [(15, 33), (14, 32), (13, 31), (12, 30), (11, 29), (10, 28), (9, 27), (8, 26), (7, 25), (6, 24), (5, 23), (4, 22), (3, 21), (2, 20), (1, 19), (0, 18)] hh mixed (by kernel_rfl) ?_
   refine fN ?_
   refine fN ?_
   refine qV ?_
   refine jU ?_
   refine eb ?_
   refine bq (i := 5) (fun ρ1 w1 hj hR => qO (show ρ1 22 = Value.int _ _ from hR.1) rfl (by omega) (by omega) (by omega)) ?_
   refine jU ?_
   refine AH ((xs'.length + 7) / 8 - 1 - i / 8) ?_
   refine bq (i := 8) (fun ρ1 w1 hj hR => ic aC.out (show ρ1 25 = Value.pointer _ from hR.1) (hj.hp.cI (i := 0) rfl (by rw [Nat.mul_one]; exact hg2))) ?_
   refine fN ?_
   refine eb ?_
   refine iA (i) ?_
   refine hU (fun _ hj => (hr.ext hj.hp.below).nJ hd2) ?_
   refine eb ?_
   refine bq (i := 14) (fun ρ1 w1 hj hR => mQ (show ρ1 31 = Value.int _ _ from hR.1) rfl (by omega) (by omega)) ?_
   refine bq (i := 15) (fun ρ1 w1 hj hR => rH (show ρ1 30 = Value.int _ _ from hR.1) (show ρ1 32 = Value.int _ _ from hR.2.1) (by omega)) ?_
   refine a0 ?_
   intro f W hJ hV
   have hb_6 := hJ.bl
   obtain ⟨v33, v32, v31, v30, v29, v28, v27, v26, v25, v24, v23, v22, v21, v20, v19, v18, _⟩ := hV
   replace hh := hJ.hp
   refine aN (a4 (aa v33 (aa v32 (aa v31 (aa v30 (aa v29 (aa v28 (aa v27 (aa v26 (aa v25 (aa v24 (aa v23 (aa v22 (aa v21 (aa v20 (aa v19 (aa v18 aM))))))))))))))))) ?_
   dsimp only [ca]
   clear hJ
   refine gm rfl rfl (by decide) ?_
   refine bp (k := (xs'.length + 7) / 8 - 1 - i / 8) aF.out aC.size rfl rfl (by omega) (by omega) (by decide) ?_
   refine bP hh (i := 0) (vs := [_]) rfl rfl (cb rfl) rfl aC.out rfl (by rw [cH, List.length_reverse, aY]; omega) rfl ?_
   intro ws hh
   simp only [List.set_cons_zero] at hh
   rw [e1, Nat.mod_eq_of_lt (show d * 2 ^ (i % 8) < 256 by omega), Nat.mod_eq_of_lt s1, Nat.mul_one, cz (by rw [cH, List.length_reverse, aY]; omega), ky, hset, ← eA hdi] at hh
   refine aE (aW (ai (aq (mI ?_))))
   refine bL (aI (aE (ai ?_)))
   refine ⟨⟨i + 1, by omega, rfl, hh⟩, by show xs'.length - (i + 1) < xs'.length - i; omega, ?_⟩
   (repeat (first | exact aw _ _ _ | refine ax rfl ?_ | refine ar rfl ?_))
  ·obtain rfl : i = xs'.length := by omega
   rw [List.take_length, hcv, hbl] at hh
   have hfin : fy (bT 256 ((bM M + 7) / 8) M).reverse = je (sb M) := by
    rw [← hlen]
    have h1 : M < 256 ^ (aZ 256 M).length := kF (by omega) M
    rw [sE (by omega) h1, Nat.sub_self, List.replicate_zero, List.append_nil, pW (fun d hd => (dw (B := 256) (by omega) M).1 d (List.mem_reverse.1 hd)), sb, List.map_reverse]
   rw [hfin, ← hbl] at hh
   refine ah (sr (mI (mL (aO ?_))))
   refine aU (ae (cF ?_))
   refine aP ?_
   refine ay (ay (a6 (ai (sr (mL ?_)))))
   refine iY aF.out aF.out aF.out rfl (hh.aK (i := 0) rfl) (by decide) ?_
   refine aS (ae (ao ?_))
   refine cA ?_
   exact ⟨rfl, hh.below⟩
end Go.Proofs.YtaapkaefelhfcaaGreatDoor
namespace Go.Proofs.YtaapkaefelhfcaaGreatDoor
open Go.RowKit
theorem zz {xs : List Nat} (h : Dg 2 xs) (i : Nat) : bD 2 xs / 2 ^ i % 2 = (xs[i]?).getD 0 := by
 cases hi : xs[i]? with
 | some d => exact nA h hi
 | none =>
  rw [oB h (List.getElem?_eq_none_iff.1 hi) (by omega)]; rfl
theorem dk (A : Option Addr) (n c i : Nat) (xs : List Nat) (w : World) (hx : Sl w A n 1 (fy xs)) (hd : Dg 2 xs) (hn : n ≤ 1000000000000) (hi : i ≤ 1000000000000) :
  Calls Tryz.prog 286 #[.slice A n c, .int .i64 (i : Int)] w fun e w' => e = .returned (.int .u8 ((bD 2 xs / 2 ^ i % 2 : Nat) : Int)) ∧ Below w.heap.size w w' := by
 have hl := hx.1
 rw [cH] at hl
 have hh := Hp.start w
 rw [zz hd]
 by_cases hlt : i < n
 ·obtain ⟨d, hdi⟩ := aD (l := xs) (k := i) (by omega)
  obtain ⟨ad, rfl, hr⟩ := hx.at_ (by omega)
  have hd2 := k7 hdi
  rw [hdi]
  refine ak (N := 13) (l := [.slice (some ad) n c, .int .i64 (i : Int)]) Tryz.func286 rfl rfl (by simp) ?_
  refine sr (aI (ae (ah (sr (mI (mL (aO ?_)))))))
  refine aU (ae (cT (sr (mL (mI ?_)))))
  refine aR (k := i) aF.out aC.size rfl rfl (by omega) (by omega) (by decide) ?_
  refine bh aC.out rfl ((hr.ext hh.below).nJ (by assumption)) (by decide) ?_
  refine aI (ae (ao (az ?_)))
  refine cA ?_
  exact ⟨rfl, hh.below⟩
 ·rw [List.getElem?_eq_none (by omega)]
  refine ak (N := 13) (l := [.slice A n c, .int .i64 (i : Int)]) Tryz.func286 rfl rfl (by simp) ?_
  refine sr (aI (ae (ah (sr (mI (mL (aO ?_)))))))
  refine aU (ae (cF (aj (ai (sr (aI (ae (ao ?_))))))))
  refine cA ?_
  exact ⟨rfl, hh.below⟩
theorem jM (X i : Nat) : X / 2 ^ i = 2 * (X / 2 ^ (i + 1)) + X / 2 ^ i % 2 := by
 rw [Nat.pow_succ, ← Nat.div_div_eq_div_mul]; omega
theorem p9 {X Y k : Nat} (h : X / 2 ^ k < Y / 2 ^ k) : X < Y := by
 refine Nat.lt_of_not_le fun h2 => ?_
 have := Nat.div_le_div_right (c := 2 ^ k) h2
 omega
theorem j8 (A B : Option Addr) (n c m c' : Nat) (xs ys : List Nat) (w : World) (hx : Sl w A n 1 (fy xs)) (hy : Sl w B m 1 (fy ys)) (hdx : Dg 2 xs) (hdy : Dg 2 ys) (hn : n ≤ 100000000000) (hm : m ≤ 100000000000) :
  Calls Tryz.prog 285 #[.slice A n c, .slice B m c'] w fun e w' => e = .returned (.int .i64 (ju (bD 2 xs) (bD 2 ys))) ∧ Below w.heap.size w w' := by
 have hlx := hx.1
 have hly := hy.1
 rw [cH] at hlx hly
 have hh := Hp.start w
 have e1 : (if (m : Int) > (n : Int) then (m : Int) else (n : Int)) - 1 = ((max n m : Nat) : Int) - 1 := by split <;> omega
 refine ak (N := 30) (l := [.slice A n c, .slice B m c']) Tryz.func285 rfl rfl (by simp) ?_
 refine sr (aI (ae (ah (sr (mL (aO (mL (aO ?_))))))))
 refine kq rfl rfl (by decide) ?_
 refine eB (aI (ae (al ?_)))
 rw [e1]
 refine bs [4, 5, 12, 13, 14, 15, 16, 17, 18, 19, 20, 21, 22, 23, 24, 25, 26, 27, 28, 29] 5
  (fun v w' => ∃ k : Nat, k ≤ max n m ∧ v = .int .i64 ((k : Int) - 1) ∧ bD 2 xs / 2 ^ k = bD 2 ys / 2 ^ k ∧ Hp w [] w')
  (fun v _ => (intOf v + 1).toNat) ?_ ?_
 ·exact ⟨max n m, Nat.le_refl _, rfl, by rw [oB hdx (by omega) (by omega), oB hdy (by omega) (by omega)], hh⟩
 ·clear hh
  rintro ρ' v w' ⟨k, hk, rfl, heq, hh⟩
  by_cases h0 : k = 0
  ·subst h0
   refine ah (sr (mI ?_))
   refine dn (ae (cF ?_))
   refine aP ?_
   refine ay (ay (a6 (ai (sr (aI (ae (ao ?_)))))))
   refine cA ?_
   rw [Nat.pow_zero, Nat.div_one, Nat.div_one] at heq
   exact ⟨by rw [vX heq], hh.below⟩
  ·obtain ⟨j, rfl⟩ : ∃ j, k = j + 1 := ⟨k - 1, by omega⟩
   have hj : ((j + 1 : Nat) : Int) - 1 = (j : Int) := by omega
   have hXb := jM (bD 2 xs) j
   have hYb := jM (bD 2 ys) j
   by_cases hlt : bD 2 xs / 2 ^ j % 2 < bD 2 ys / 2 ^ j % 2
   ·have hf : bD 2 xs < bD 2 ys := p9 (k := j) (by omega)
    rw [hj]
    refine ah (sr (mI ?_))
    refine dn (ae (cT (aj (ai (ah (al (ah (sr (mL (mI ?_))))))))))
    refine bG hh (dk A n c j xs _ (hx.ext hh.below) hdx (by omega) (by omega)) rfl ?_
    intro w18 hh
    refine mL (mI ?_)
    refine bG hh (dk B m c' j ys _ (hy.ext hh.below) hdy (by omega) (by omega)) rfl ?_
    intro w21 hh
    refine aU (ae (cT (sr (aI (ae (ao (az (br (az (az (br ?_)))))))))))
    refine az ?_
    refine cA ?_
    exact ⟨by rw [jL hf], hh.below⟩
   ·by_cases hgt : bD 2 ys / 2 ^ j % 2 < bD 2 xs / 2 ^ j % 2
    ·have hf : bD 2 ys < bD 2 xs := p9 (k := j) (by omega)
     rw [hj]
     refine ah (sr (mI ?_))
     refine dn (ae (cT (aj (ai (ah (al (ah (sr (mL (mI ?_))))))))))
     refine bG hh (dk A n c j xs _ (hx.ext hh.below) hdx (by omega) (by omega)) rfl ?_
     intro w18 hh
     refine mL (mI ?_)
     refine bG hh (dk B m c' j ys _ (hy.ext hh.below) hdy (by omega) (by omega)) rfl ?_
     intro w21 hh
     refine aU (ae (cF (aj (ai (sr (mL (mI ?_)))))))
     refine bG hh (dk A n c j xs _ (hx.ext hh.below) hdx (by omega) (by omega)) rfl ?_
     intro w25 hh
     refine mL (mI ?_)
     refine bG hh (dk B m c' j ys _ (hy.ext hh.below) hdy (by omega) (by omega)) rfl ?_
     intro w28 hh
     refine bY (ae (cT (sr (aI (ae (ao (br (az (az (br (az ?_)))))))))))
     refine cA ?_
     exact ⟨by rw [rq hf], hh.below⟩
    ·rw [hj]
     refine ah (sr (mI ?_))
     refine dn (ae (cT (aj (ai (ah (al (ah (sr (mL (mI ?_))))))))))
     refine bG hh (dk A n c j xs _ (hx.ext hh.below) hdx (by omega) (by omega)) rfl ?_
     intro w18 hh
     refine mL (mI ?_)
     refine bG hh (dk B m c' j ys _ (hy.ext hh.below) hdy (by omega) (by omega)) rfl ?_
     intro w21 hh
     refine aU (ae (cF (aj (ai (sr (mL (mI ?_)))))))
     refine bG hh (dk A n c j xs _ (hx.ext hh.below) hdx (by omega) (by omega)) rfl ?_
     intro w25 hh
     refine mL (mI ?_)
     refine bG hh (dk B m c' j ys _ (hy.ext hh.below) hdy (by omega) (by omega)) rfl ?_
     intro w28 hh
     refine bY (ae (cF (aj (aW (ai (aq (mI ?_)))))))
     refine eB (aI (aE (ai ?_)))
     refine ⟨⟨j, by omega, rfl, by omega, hh⟩, by show ((j : Int) - 1 + 1).toNat < ((j : Int) + 1).toNat; omega, ?_⟩
     (repeat (first | exact aw _ _ _ | refine ax rfl ?_ | refine ar rfl ?_))
theorem Ai (S T i : Nat) : (S + T) / 2 ^ i % 2 = (S / 2 ^ i % 2 + (S % 2 ^ i + T % 2 ^ i) / 2 ^ i + T / 2 ^ i % 2) % 2 ∧ (S % 2 ^ (i + 1) + T % 2 ^ (i + 1)) / 2 ^ (i + 1) = (S / 2 ^ i % 2 + (S % 2 ^ i + T % 2 ^ i) / 2 ^ i + T / 2 ^ i % 2) / 2 ∧ (S % 2 ^ i + T % 2 ^ i) / 2 ^ i ≤ 1 := by
 have hS := Nat.div_add_mod S (2 ^ i)
 have hT := Nat.div_add_mod T (2 ^ i)
 have hp : 0 < 2 ^ i := Nat.pow_pos (by omega)
 have hS2 : S % 2 ^ (i + 1) = S % 2 ^ i + 2 ^ i * (S / 2 ^ i % 2) := by rw [Nat.pow_succ, Nat.mod_mul]
 have hT2 : T % 2 ^ (i + 1) = T % 2 ^ i + 2 ^ i * (T / 2 ^ i % 2) := by rw [Nat.pow_succ, Nat.mod_mul]
 have hSl := Nat.mod_lt S hp
 have hTl := Nat.mod_lt T hp
 have hc := Nat.div_add_mod (S % 2 ^ i + T % 2 ^ i) (2 ^ i)
 have hcl := Nat.mod_lt (S % 2 ^ i + T % 2 ^ i) hp
 have hc1 : (S % 2 ^ i + T % 2 ^ i) / 2 ^ i ≤ 1 := by
  have : (S % 2 ^ i + T % 2 ^ i) / 2 ^ i < 2 := by rw [Nat.div_lt_iff_lt_mul hp]; omega
  omega
 have e1 : (S + T) / 2 ^ i = S / 2 ^ i + T / 2 ^ i + (S % 2 ^ i + T % 2 ^ i) / 2 ^ i := by
  have : S + T = (S % 2 ^ i + T % 2 ^ i) % 2 ^ i + 2 ^ i * (S / 2 ^ i + T / 2 ^ i + (S % 2 ^ i + T % 2 ^ i) / 2 ^ i) := by
   rw [Nat.mul_add, Nat.mul_add]; omega
  conv => lhs; rw [this]
  rw [Nat.add_mul_div_left _ _ hp, Nat.div_eq_of_lt hcl, Nat.zero_add]
 refine ⟨by rw [e1]; omega, ?_, hc1⟩
 rw [hS2, hT2]
 have e2 : S % 2 ^ i + 2 ^ i * (S / 2 ^ i % 2) + (T % 2 ^ i + 2 ^ i * (T / 2 ^ i % 2)) = (S % 2 ^ i + T % 2 ^ i) % 2 ^ i + 2 ^ i * (S / 2 ^ i % 2 + (S % 2 ^ i + T % 2 ^ i) / 2 ^ i + T / 2 ^ i % 2) := by
  rw [Nat.mul_add, Nat.mul_add]; omega
 rw [e2, Nat.pow_succ, ← Nat.div_div_eq_div_mul, Nat.add_mul_div_left _ _ hp, Nat.div_eq_of_lt hcl, Nat.zero_add]
theorem BD (Y up i : Nat) : Y * 2 ^ up / 2 ^ i % 2 = if up ≤ i then Y / 2 ^ (i - up) % 2 else 0 := by
 split
 ·rename_i h
  have e : 2 ^ i = 2 ^ up * 2 ^ (i - up) := by rw [← Nat.pow_add]; congr 1; omega
  rw [e, ← Nat.div_div_eq_div_mul, Nat.mul_div_cancel _ (Nat.pow_pos (by omega))]
 ·rename_i h
  have e : 2 ^ up = 2 ^ i * 2 * 2 ^ (up - i - 1) := by rw [← Nat.pow_succ, ← Nat.pow_add]; congr 1; omega
  have e2 : Y * 2 ^ up = 2 ^ i * (2 * (Y * 2 ^ (up - i - 1))) := by rw [e]; simp only [Nat.mul_assoc, Nat.mul_left_comm]
  rw [e2, Nat.mul_div_cancel_left _ (Nat.pow_pos (by omega))]
  omega
theorem AO {K i N : Nat} (h : i < K) : (bT 2 i N ++ List.replicate (K - i) 0).set i (N / 2 ^ i % 2) = bT 2 (i + 1) N ++ List.replicate (K - (i + 1)) 0 := by
 rw [show K - i = (K - (i + 1)) + 1 by omega, List.replicate_succ, List.set_append_right _ _ (by rw [aY]; omega), aY, Nat.sub_self, List.set_cons_zero, jl]
 simp
theorem j3 (A B : Option Addr) (n c m c' up : Nat) (xs ys : List Nat) (w : World) (hx : Sl w A n 1 (fy xs)) (hy : Sl w B m 1 (fy ys)) (hdx : Dg 2 xs) (hdy : Dg 2 ys) (hn : n ≤ 100000000000) (hm : m ≤ 100000000000) (hup : up ≤ 100000000000) :
  Calls Tryz.prog 266 #[.slice A n c, .slice B m c', .int .i64 (up : Int)] w fun e w' => ∃ b, e = .returned (.slice (some ⟨b, 0, none⟩) (max n (m + up) + 1) (max n (m + up) + 1)) ∧ w'.ownsRow w.heap.size 5 1 (.slice (some ⟨b, 0, none⟩) (max n (m + up) + 1) (max n (m + up) + 1)) (max n (m + up) + 1) (fy (bT 2 (max n (m + up) + 1) (bD 2 xs + bD 2 ys * 2 ^ up))) ∧ Below w.heap.size w w' := by
 have hlx := hx.1
 have hly := hy.1
 rw [cH] at hlx hly
 have hh := Hp.start w
 have e1 : (if ((m : Int) + (up : Int)) > (n : Int) then ((m : Int) + (up : Int)) else (n : Int)) + 1 = ((max n (m + up) + 1 : Nat) : Int) := by split <;> omega
 have hand : ∀ z : Nat, z &&& 1 = z % 2 := fun z => Nat.and_one_is_mod z
 refine ak (N := 49) (l := [.slice A n c, .slice B m c', .int .i64 (up : Int)]) Tryz.func266 rfl rfl (by simp) ?_
 refine sr (aL (ae (sr (mL (aO (mL (aO (mI ?_))))))))
 refine bL ?_
 refine kq rfl rfl (by decide) ?_
 refine bL ?_
 rw [e1]
 generalize hK : max n (m + up) + 1 = K at *
 refine gO (n := K) hh rfl rfl (by omega) (by omega) aF.out aC.out rfl (by omega) (by omega) (by decide) ?_
 intro b19 w19 hh
 refine aL (ae (sr (aI (ae (ah (sr (aI (ae (al ?_)))))))))
 rw [lE] at hh
 refine ct [8, 9, 10, 20, 21, 22, 23, 24, 25, 26, 27, 28, 29, 30, 31, 32, 33, 34, 35, 36, 37, 38, 39, 40, 41, 42, 43, 44, 45, 46, 47] 8 9
  (fun cr v w' => ∃ i : Nat, i ≤ K ∧ v = .int .i64 (i : Int) ∧ cr = .int .u8 (((bD 2 xs % 2 ^ i + bD 2 ys * 2 ^ up % 2 ^ i) / 2 ^ i : Nat) : Int) ∧ Hp w [.row (some ⟨b19, 0, none⟩) K K 5 1 (fy (bT 2 i (bD 2 xs + bD 2 ys * 2 ^ up) ++ List.replicate (K - i) 0))] w')
  (fun _ v _ => K - (intOf v).toNat) ?_ ?_
 ·exact ⟨0, Nat.zero_le _, rfl, by simp [Nat.mod_one]; rfl, hh⟩
 ·clear hh
  rintro ρ' cr v w' ⟨i, hi, rfl, rfl, hh⟩
  by_cases hlt : i < K
  ·obtain ⟨b1, b2, b3⟩ := Ai (bD 2 xs) (bD 2 ys * 2 ^ up) i
   have hbu := BD (bD 2 ys) up i
   have hxb : bD 2 xs / 2 ^ i % 2 < 2 := Nat.mod_lt _ (by omega)
   have hyb : bD 2 ys / 2 ^ (i - up) % 2 < 2 := Nat.mod_lt _ (by omega)
   have hll : (fy (bT 2 i (bD 2 xs + bD 2 ys * 2 ^ up) ++ List.replicate (K - i) 0)).length = K := by rw [cH, List.length_append, aY, List.length_replicate]; omega
   have hfk := AO (N := bD 2 xs + bD 2 ys * 2 ^ up) hlt
   generalize hC : (bD 2 xs % 2 ^ i + bD 2 ys * 2 ^ up % 2 ^ i) / 2 ^ i = C at *
   generalize hX : bD 2 xs / 2 ^ i % 2 = X at *
   refine ah (sr (mI (mL (aO ?_))))
   refine aU (ae (cT (aj (ai (ah (al (sr (mL (mI ?_)))))))))
   refine bG hh (dk A n c i xs _ (hx.ext hh.below) hdx (by omega) (by omega)) rfl ?_
   intro w28 hh
   rw [hX]
   by_cases hiu : up ≤ i
   ·rw [if_pos hiu] at hbu
    rw [hbu] at b1 b2
    generalize hY : bD 2 ys / 2 ^ (i - up) % 2 = Y at *
    have es : ((X + C) % 256 + Y) % 256 = X + C + Y := by omega
    have ei : (i : Int) - (up : Int) = ((i - up : Nat) : Int) := by omega
    refine mI ?_
    refine gm rfl rfl (by decide) ?_
    refine aI (ae (ah (sr (mI (mI ?_)))))
    refine dn (ae (cT (aq (mI (mL (mI (mI ?_)))))))
    refine eB ?_
    rw [ei]
    refine bG hh (dk B m c' (i - up) ys _ (hy.ext hh.below) hdy (by omega) (by omega)) rfl ?_
    intro w39 hh
    rw [hY]
    refine gm rfl rfl (by decide) ?_
    refine aI (ae (sr (mL (mI (mI ?_)))))
    refine j1 (b := 1) rfl rfl (by first | assumption | omega) (by first | assumption | omega) (by decide) ?_
    refine bp (k := i) aF.out aC.size rfl rfl (by omega) (by omega) (by decide) ?_
    refine bP hh (i := 0) (vs := [_]) rfl rfl (cb rfl) rfl aC.out rfl (by rw [hll]; omega) rfl ?_
    intro ws hh
    simp only [List.set_cons_zero] at hh
    rw [hand, es, Nat.mul_one, cz (by rw [hll]; omega), ky, ← b1, hfk] at hh
    refine ae (aq (mI ?_))
    refine eC (s := 1) (m := 2) rfl rfl (by decide) (by decide) (by decide) ?_
    refine aI (aE (aW (ai (aq (mI ?_)))))
    refine bL (aI (aE (ai ?_)))
    rw [es]
    refine ⟨⟨i + 1, by omega, rfl, by rw [b2]; rfl, hh⟩, by show K - (i + 1) < K - i; omega, ?_⟩
    (repeat (first | exact aw _ _ _ | refine ax rfl ?_ | refine ar rfl ?_))
   ·rw [if_neg hiu] at hbu
    rw [hbu] at b1 b2
    have es : (X + C) % 256 = X + C + 0 := by omega
    refine mI ?_
    refine gm rfl rfl (by decide) ?_
    refine aI (ae (ah (sr (mI (mI ?_)))))
    refine dn (ae (cF (aj (ai (sr (mL (mI (mI ?_))))))))
    refine j1 (b := 1) rfl rfl (by first | assumption | omega) (by first | assumption | omega) (by decide) ?_
    refine bp (k := i) aF.out aC.size rfl rfl (by omega) (by omega) (by decide) ?_
    refine bP hh (i := 0) (vs := [_]) rfl rfl (cb rfl) rfl aC.out rfl (by rw [hll]; omega) rfl ?_
    intro ws hh
    simp only [List.set_cons_zero] at hh
    rw [hand, es, Nat.mul_one, cz (by rw [hll]; omega), ky, ← b1, hfk] at hh
    refine ae (aq (mI ?_))
    refine eC (s := 1) (m := 2) rfl rfl (by decide) (by decide) (by decide) ?_
    refine aI (aE (aW (ai (aq (mI ?_)))))
    refine bL (aI (aE (ai ?_)))
    rw [es]
    refine ⟨⟨i + 1, by omega, rfl, by rw [b2]; rfl, hh⟩, by show K - (i + 1) < K - i; omega, ?_⟩
    (repeat (first | exact aw _ _ _ | refine ax rfl ?_ | refine ar rfl ?_))
  ·obtain rfl : i = K := by omega
   rw [Nat.sub_self, List.replicate_zero, List.append_nil] at hh
   refine ah (sr (mI (mL (aO ?_))))
   refine aU (ae (cF ?_))
   refine aP ?_
   refine ay (ay (a6 (ai (sr (mL (aL (ae (ao ?_))))))))
   refine cA ?_
   exact ⟨_, rfl, hh.at_ (i := 0) rfl, hh.below⟩
end Go.Proofs.YtaapkaefelhfcaaGreatDoor
namespace Go.Proofs.YtaapkaefelhfcaaGreatDoor
open Go.RowKit
theorem zD {X Y : Nat} (h : Y ≤ X) (i : Nat) : ((2 + X / 2 ^ i % 2 + 256 - Y / 2 ^ i % 2) % 256 + 256 - (if X % 2 ^ i < Y % 2 ^ i then 1 else 0)) % 256 % 2 = (X - Y) / 2 ^ i % 2 ∧
  (1 + 256 - ((2 + X / 2 ^ i % 2 + 256 - Y / 2 ^ i % 2) % 256 + 256 - (if X % 2 ^ i < Y % 2 ^ i then 1 else 0)) % 256 / 2) % 256 = (if X % 2 ^ (i + 1) < Y % 2 ^ (i + 1) then 1 else 0) := by
 have hX := Nat.div_add_mod X (2 ^ i)
 have hY := Nat.div_add_mod Y (2 ^ i)
 have hp : 0 < 2 ^ i := Nat.pow_pos (by omega)
 have hX2 : X % 2 ^ (i + 1) = X % 2 ^ i + 2 ^ i * (X / 2 ^ i % 2) := by rw [Nat.pow_succ, Nat.mod_mul]
 have hY2 : Y % 2 ^ (i + 1) = Y % 2 ^ i + 2 ^ i * (Y / 2 ^ i % 2) := by rw [Nat.pow_succ, Nat.mod_mul]
 have hXl := Nat.mod_lt X hp
 have hYl := Nat.mod_lt Y hp
 rw [hX2, hY2]
 generalize hx1 : X / 2 ^ i = x1 at *
 generalize hy1 : Y / 2 ^ i = y1 at *
 generalize hx0 : X % 2 ^ i = x0 at *
 generalize hy0 : Y % 2 ^ i = y0 at *
 have key : ∀ b : Nat, b = (if x0 < y0 then 1 else 0) → (X - Y) / 2 ^ i = x1 - y1 - b ∧ y1 + b ≤ x1 := by
  intro b hb
  have hle : y1 + b ≤ x1 := by
   refine Nat.le_of_not_lt fun hlt => ?_
   have h1 : 2 ^ i * (x1 + 1) ≤ 2 ^ i * (y1 + b) := Nat.mul_le_mul_left _ hlt
   rw [Nat.mul_add, Nat.mul_add] at h1
   split at hb
   ·subst hb; omega
   ·subst hb; omega
  refine ⟨?_, hle⟩
  have e : X - Y = (x0 + 2 ^ i * b - y0) + 2 ^ i * (x1 - y1 - b) := by
   have h2 : 2 ^ i * (x1 - y1 - b) = 2 ^ i * x1 - 2 ^ i * y1 - 2 ^ i * b := by rw [Nat.mul_sub, Nat.mul_sub]
   have h3 : 2 ^ i * (y1 + b) ≤ 2 ^ i * x1 := Nat.mul_le_mul_left _ hle
   rw [Nat.mul_add] at h3
   split at hb
   ·subst hb; omega
   ·subst hb; omega
  rw [e, Nat.add_mul_div_left _ _ hp, Nat.div_eq_of_lt, Nat.zero_add]
  split at hb
  ·subst hb; omega
  ·subst hb; omega
 obtain ⟨k1, k2⟩ := key _ rfl
 rw [k1]
 have hlt : (x0 + 2 ^ i * (x1 % 2) < y0 + 2 ^ i * (y1 % 2)) ↔ (x1 % 2 < y1 % 2 ∨ x1 % 2 = y1 % 2 ∧ x0 < y0) := by
  rcases Nat.mod_two_eq_zero_or_one x1 with h1 | h1 <;> rcases Nat.mod_two_eq_zero_or_one y1 with h2 | h2 <;> rw [h1, h2] <;> omega
 by_cases hb : x0 < y0
 ·rw [if_pos hb] at k2 ⊢
  refine ⟨by omega, ?_⟩
  by_cases hc : x0 + 2 ^ i * (x1 % 2) < y0 + 2 ^ i * (y1 % 2)
  ·rw [if_pos hc]; rw [hlt] at hc; omega
  ·rw [if_neg hc]; rw [hlt] at hc; omega
 ·rw [if_neg hb] at k2 ⊢
  refine ⟨by omega, ?_⟩
  by_cases hc : x0 + 2 ^ i * (x1 % 2) < y0 + 2 ^ i * (y1 % 2)
  ·rw [if_pos hc]; rw [hlt] at hc; omega
  ·rw [if_neg hc]; rw [hlt] at hc; omega
theorem lU (A B : Option Addr) (n c m c' : Nat) (xs ys : List Nat) (w : World) (hx : Sl w A n 1 (fy xs)) (hy : Sl w B m 1 (fy ys)) (hdx : Dg 2 xs) (hdy : Dg 2 ys) (hn : n ≤ 100000000000) (hm : m ≤ 100000000000) (hle : bD 2 ys ≤ bD 2 xs) :
  Calls Tryz.prog 268 #[.slice A n c, .slice B m c'] w fun e w' => ∃ b, e = .returned (.slice (some ⟨b, 0, none⟩) n n) ∧ w'.ownsRow w.heap.size 5 1 (.slice (some ⟨b, 0, none⟩) n n) n (fy (bT 2 n (bD 2 xs - bD 2 ys))) ∧ Below w.heap.size w w' := by
 have hlx := hx.1
 have hly := hy.1
 rw [cH] at hlx hly
 have hh := Hp.start w
 have hand : ∀ z : Nat, z &&& 1 = z % 2 := fun z => Nat.and_one_is_mod z
 refine ak (N := 37) (l := [.slice A n c, .slice B m c']) Tryz.func268 rfl rfl (by simp) ?_
 refine sr (aL (ae (sr (mL (aO ?_)))))
 refine gO (n := n) hh rfl rfl (by omega) (by omega) aF.out aC.out rfl (by omega) (by omega) (by decide) ?_
 intro b11 w11 hh
 refine aL (ae (sr (aI (ae (ah (sr (aI (ae (al ?_)))))))))
 rw [lE] at hh
 refine ct [6, 7, 8, 12, 13, 14, 15, 16, 17, 18, 19, 20, 21, 22, 23, 24, 25, 26, 27, 28, 29, 30, 31, 32, 33, 34, 35] 6 7
  (fun cr v w' => ∃ i : Nat, i ≤ n ∧ v = .int .i64 (i : Int) ∧ cr = .int .u8 ((if bD 2 xs % 2 ^ i < bD 2 ys % 2 ^ i then 1 else 0 : Nat) : Int) ∧ Hp w [.row (some ⟨b11, 0, none⟩) n n 5 1 (fy (bT 2 i (bD 2 xs - bD 2 ys) ++ List.replicate (n - i) 0))] w')
  (fun _ v _ => n - (intOf v).toNat) ?_ ?_
 ·exact ⟨0, Nat.zero_le _, rfl, by simp [Nat.mod_one]; rfl, hh⟩
 ·clear hh
  rintro ρ' cr v w' ⟨i, hi, rfl, rfl, hh⟩
  by_cases hlt : i < n
  ·obtain ⟨b1, b2⟩ := zD hle i
   have hxb : bD 2 xs / 2 ^ i % 2 < 2 := Nat.mod_lt _ (by omega)
   have hyb : bD 2 ys / 2 ^ i % 2 < 2 := Nat.mod_lt _ (by omega)
   have hcb : (if bD 2 xs % 2 ^ i < bD 2 ys % 2 ^ i then 1 else 0 : Nat) ≤ 1 := by split <;> omega
   have hll : (fy (bT 2 i (bD 2 xs - bD 2 ys) ++ List.replicate (n - i) 0)).length = n := by rw [cH, List.length_append, aY, List.length_replicate]; omega
   have hfk := AO (N := bD 2 xs - bD 2 ys) hlt
   refine ah (sr (mI (mL (aO ?_))))
   refine aU (ae (cT (aj (ai (ah (al (sr (mL (mI ?_)))))))))
   refine bG hh (dk A n c i xs _ (hx.ext hh.below) hdx (by omega) (by omega)) rfl ?_
   intro w20 hh
   refine gm (a := 2) rfl rfl (by decide) ?_
   refine mL (mI ?_)
   refine bG hh (dk B m c' i ys _ (hy.ext hh.below) hdy (by omega) (by omega)) rfl ?_
   intro w24 hh
   generalize hC : (if bD 2 xs % 2 ^ i < bD 2 ys % 2 ^ i then 1 else 0 : Nat) = C at *
   generalize hX : bD 2 xs / 2 ^ i % 2 = X at *
   generalize hY : bD 2 ys / 2 ^ i % 2 = Y at *
   have es : ((2 + X) % 256 + 256 - Y) % 256 = (2 + X + 256 - Y) % 256 := by omega
   have hS : ((2 + X + 256 - Y) % 256 + 256 - C) % 256 < 256 := Nat.mod_lt _ (by omega)
   refine rA rfl rfl (by omega) (by decide) ?_
   refine mI ?_
   rw [es]
   refine rA rfl rfl (by omega) (by decide) ?_
   refine aI (ae (sr (mL (mI (mI ?_)))))
   refine j1 (b := 1) rfl rfl (by first | assumption | omega) (by first | assumption | omega) (by decide) ?_
   refine bp (k := i) aF.out aC.size rfl rfl (by omega) (by omega) (by decide) ?_
   refine bP hh (i := 0) (vs := [_]) rfl rfl (cb rfl) rfl aC.out rfl (by rw [hll]; omega) rfl ?_
   intro ws hh
   simp only [List.set_cons_zero] at hh
   rw [hand, b1, Nat.mul_one, cz (by rw [hll]; omega), ky, hfk] at hh
   refine ae (aq (mI ?_))
   refine eC (s := 1) (m := 2) rfl rfl (by decide) (by decide) (by decide) ?_
   refine rA (a := 1) rfl rfl (by omega) (by decide) ?_
   refine aI (aE (aW (ai (aq (mI ?_)))))
   refine bL (aI (aE (ai ?_)))
   refine ⟨⟨i + 1, by omega, rfl, by rw [← b2]; rfl, hh⟩, by show n - (i + 1) < n - i; omega, ?_⟩
   (repeat (first | exact aw _ _ _ | refine ax rfl ?_ | refine ar rfl ?_))
  ·obtain rfl : i = n := by omega
   rw [Nat.sub_self, List.replicate_zero, List.append_nil] at hh
   refine ah (sr (mI (mL (aO ?_))))
   refine aU (ae (cF ?_))
   refine aP ?_
   refine ay (ay (a6 (ai (sr (mL (aL (ae (ao ?_))))))))
   refine cA ?_
   exact ⟨_, rfl, hh.at_ (i := 0) rfl, hh.below⟩
theorem qe (n : Nat) (w : World) (hn : n < 18446744073709551616) :
  Calls Tryz.prog 240 #[.int .u64 (n : Int)] w fun e w' => e = .returned (.string (sN n)) ∧ Below w.heap.size w w' := by
 have hh := Hp.start w
 refine ak (N := 16) (l := [.int .u64 (n : Int)]) Tryz.func240 rfl rfl (by simp) ?_
 refine sr (aS (ae (sr (aL (ae (ah (al ?_)))))))
 replace hh := hh.di 5 1
 refine ct [0, 3, 4, 5, 6, 7, 8, 9, 10, 11, 12, 13] 0 3
  (fun v o w' => ∃ (k m : Nat) (A : Option Addr) (c : Nat), v = .int .u64 (m : Int) ∧ m < 18446744073709551616 ∧ k ≤ 64 ∧ m < 2 ^ (64 - k) ∧ o = .slice A k c ∧ m = n / 2 ^ k ∧ Hp w [.row A k c 5 1 (fy (bT 2 k n))] w')
  (fun v _ _ => (intOf v).toNat) ?_ ?_
 ·exact ⟨0, n, none, 0, rfl, hn, by omega, by simpa using hn, rfl, by simp, hh⟩
 ·clear hh
  rintro ρ' v o w' ⟨k, m, A, c, rfl, hm, hk, hmk, rfl, hmn, hh⟩
  by_cases h0 : m = 0
  ·subst h0
   refine ah (sr (mI ?_))
   refine bY (ae (cF ?_))
   refine aP ?_
   refine ay (ay (a6 (ai (sr (mL ?_)))))
   refine bG hh (dV _ _ _ (bT 2 k n) _ (hh.aK (i := 0) rfl) (ec (by omega) _ _) (hh.dv (i := 0) rfl) (by omega)) rfl ?_
   intro w15 hh
   have hlt : n < 2 ^ k := by
    have := Nat.div_add_mod n (2 ^ k)
    have h2 := Nat.mod_lt n (Nat.pow_pos (n := k) (show 0 < 2 by omega))
    rw [← hmn] at this
    omega
   rw [cu hlt]
   refine aS (ae (ao ?_))
   refine cA ?_
   exact ⟨rfl, hh.below⟩
  ·have hk64 : k < 64 := by
    refine Nat.lt_of_not_le fun h => ?_
    rw [show 64 - k = 0 by omega] at hmk
    omega
   have hm2 : m % 2 < 256 := by omega
   refine ah (sr (mI ?_))
   refine bY (ae (cT (aj (ai (ah (al (aq (mL (mI ?_)))))))))
   refine uv (b := 2) rfl rfl (by omega) (by decide) ?_
   first | refine dq aF.out aF.out rfl (by first | assumption | omega) (by decide) ?_ | refine fp aF.out aF.out rfl (by decide) ?_
   refine bB hh (cs := [_]) aF.out aC.out (bm (cb rfl) cn) rfl rfl (by decide) (by decide) (by decide) rfl (by decide) ?_
   intro b12 w12 hh
   refine bF hh (i := 1) rfl rfl rfl (hh.aK (i := 0) rfl) aF.out aC.out rfl (by decide) (by first | rfl | exact bU _ | exact bI _ | exact oneCells_i64s _ | exact bf NR.one _) (by omega) (by omega) (by decide) ?_
   intro A13 c13 w13 hh
   simp only [List.set_cons_zero, List.set_cons_succ] at hh
   replace hh := hh.sub (List.sublist_cons_self _ _)
   refine aL (aE (aW (ai (aq (mI ?_)))))
   refine Be (b := 2) rfl rfl (by omega) (by first | assumption | omega) (by decide) ?_
   refine aI (aE (ai ?_))
   have e1 : fy (bT 2 k n) ++ [Value.int .u8 ((m % 2 : Nat) : Int)] = fy (bT 2 (k + 1) n) := by
    rw [hmn, jl, pz]; rfl
   rw [e1] at hh
   refine ⟨⟨k + 1, m / 2, A13, c13, rfl, by omega, by omega, ?_, rfl, ?_, hh⟩, by show (((m / 2 : Nat) : Int)).toNat < ((m : Int)).toNat; omega, ?_⟩
   ·rw [show 64 - k = (64 - (k + 1)) + 1 by omega, Nat.pow_succ] at hmk
    omega
   ·rw [hmn, Nat.div_div_eq_div_mul, Nat.pow_succ]
   ·(repeat (first | exact aw _ _ _ | refine ax rfl ?_ | refine ar rfl ?_))
theorem fm (a : ByteArray) : (aZ 2 (bN a)).length ≤ 8 * a.size := eJ a
theorem gE (n : Nat) : Dg 2 (aZ 2 n) := (dw (by omega) n).1
theorem fx (n : Nat) : bD 2 (aZ 2 n) = n := dK (by omega) n
theorem oU (a b : ByteArray) (w : World) (ha : a.size ≤ 1000000000) (hb : b.size ≤ 1000000000) :
  Calls Tryz.prog 267 #[.string a, .string b] w fun e w' => e = .returned (.int .i64 (ju (bN a) (bN b))) ∧ Below w.heap.size w w' := by
 have hh := Hp.start w
 have h1 := fm a
 have h2 := fm b
 refine ak (N := 10) (l := [.string a, .string b]) Tryz.func267 rfl rfl (by simp) ?_
 refine sr (aI (ae (sr (mS ?_))))
 refine aV (cU a _ ha) av.out rfl (by decide) ?_
 rintro e_ w6 ⟨A6, c6, rfl, hown_, hb_⟩
 refine ⟨_, rfl, ?_⟩
 replace hh := hh.bk (x := .row _ _ _ _ _ _) hb_ hown_
 refine mS ?_
 refine aV (cU b _ hb) av.out rfl (by decide) ?_
 rintro e_ w8 ⟨A8, c8, rfl, hown_, hb_⟩
 refine ⟨_, rfl, ?_⟩
 replace hh := hh.bk (x := .row _ _ _ _ _ _) hb_ hown_
 refine bG hh (j8 _ _ _ _ _ _ (aZ 2 (bN a)) (aZ 2 (bN b)) _ (hh.aK (i := 1) rfl) (hh.aK (i := 0) rfl) (gE _) (gE _) (by omega) (by omega)) rfl ?_
 intro w9 hh
 rw [fx, fx]
 refine aI (ae (ao ?_))
 refine cA ?_
 exact ⟨rfl, hh.below⟩
theorem la (a : ByteArray) (w : World) (ha : a.size ≤ 1000000000) :
  Calls Tryz.prog 263 #[.string a] w fun e w' => e = .returned (.int .i64 (bM (bN a))) ∧ Below w.heap.size w w' := by
 have hh := Hp.start w
 refine ak (N := 6) (l := [.string a]) Tryz.func263 rfl rfl (by simp) ?_
 refine sr (aI (ae (sr (mS ?_))))
 refine aV (cU a _ ha) av.out rfl (by decide) ?_
 rintro e_ w4 ⟨A4, c4, rfl, hown_, hb_⟩
 refine ⟨_, rfl, ?_⟩
 replace hh := hh.bk (x := .row _ _ _ _ _ _) hb_ hown_
 refine aO (aI (ae (ao ?_)))
 refine cA ?_
 exact ⟨rfl, hh.below⟩
theorem lj (a b : ByteArray) (w : World) (ha : a.size ≤ 1000000000) (hb : b.size ≤ 1000000000) :
  Calls Tryz.prog 236 #[.string a, .string b] w fun e w' => e = .returned (.tuple #[.string (sN (bN a - bN b)), .bool (decide (bN b ≤ bN a))]) ∧ Below w.heap.size w w' := by
 have hh := Hp.start w
 have h1 := fm a
 have h2 := fm b
 by_cases hlt : bN a < bN b
 ·refine ak (N := 16) (l := [.string a, .string b]) Tryz.func236 rfl rfl (by simp) ?_
  refine sr (aS (aB (ae (ah (sr (mS (mS ?_)))))))
  refine bG hh (oU a b _ ha hb) rfl ?_
  intro w8 hh
  rw [jL hlt]
  refine aU (ae (cT (sr (aS (aB (ae (ao (az ?_))))))))
  refine q5 ?_
  rw [Nat.sub_eq_zero_of_le (by omega), decide_eq_false (by omega), hZ]
  exact ⟨rfl, hh.below⟩
 ·have hc : ¬ ju (bN a) (bN b) < 0 := by unfold ju; split <;> (try split) <;> omega
  have hbl : bN a - bN b < 2 ^ (aZ 2 (bN a)).length := Nat.lt_of_le_of_lt (Nat.sub_le _ _) (df (bN a))
  refine ak (N := 16) (l := [.string a, .string b]) Tryz.func236 rfl rfl (by simp) ?_
  refine sr (aS (aB (ae (ah (sr (mS (mS ?_)))))))
  refine bG hh (oU a b _ ha hb) rfl ?_
  intro w8 hh
  refine aU (ae (cF (aj (ai (sr (mS ?_))))))
  refine aV (cU a _ ha) av.out rfl (by decide) ?_
  rintro e_ w11 ⟨A11, c11, rfl, hown_, hb_⟩
  refine ⟨_, rfl, ?_⟩
  replace hh := hh.bk (x := .row _ _ _ _ _ _) hb_ hown_
  refine mS ?_
  refine aV (cU b _ hb) av.out rfl (by decide) ?_
  rintro e_ w13 ⟨A13, c13, rfl, hown_, hb_⟩
  refine ⟨_, rfl, ?_⟩
  replace hh := hh.bk (x := .row _ _ _ _ _ _) hb_ hown_
  refine aV (lU _ _ _ _ _ _ (aZ 2 (bN a)) (aZ 2 (bN b)) _ (hh.aK (i := 1) rfl) (hh.aK (i := 0) rfl) (gE _) (gE _) (by omega) (by omega) (by rw [fx, fx]; omega)) av.out rfl (by decide) ?_
  rintro e_ w_ ⟨b14, rfl, hown_, hb_⟩
  refine ⟨_, rfl, ?_⟩
  replace hh := hh.bk (x := .row _ _ _ _ _ _) hb_ hown_
  rw [fx, fx] at hh
  refine bG hh (dV _ _ _ (bT 2 (aZ 2 (bN a)).length (bN a - bN b)) _ (hh.aK (i := 0) rfl) (ec (by omega) _ _) (Nat.le_refl _) (by omega)) rfl ?_
  intro w15 hh
  rw [cu hbl]
  refine aS (aB (ae (ao ?_)))
  refine q5 ?_
  rw [decide_eq_true (by omega)]
  exact ⟨rfl, hh.below⟩
theorem uE (a : ByteArray) (m : Nat) (w : World) (ha : a.size ≤ 1000000000) (hm : m ≤ 10000000000) :
  Calls Tryz.prog 237 #[.string a, .int .i64 (m : Int)] w fun e w' => e = .returned (.string (sN (bN a * 2 ^ m))) ∧ Below w.heap.size w w' := by
 have hh := Hp.start w
 have h1 := fm a
 have e1 : (if (0 : Int) > (m : Int) then 0 else (m : Int)) = m := if_neg (by omega)
 have hbd : bN a * 2 ^ m < 2 ^ (max 0 ((aZ 2 (bN a)).length + m) + 1) := by
  refine Nat.lt_of_lt_of_le (df _) (Nat.pow_le_pow_right (by omega) ?_)
  have := gy (bN a) m
  show bM _ ≤ max 0 (bM _ + m) + 1
  omega
 refine ak (N := 11) (l := [.string a, .int .i64 (m : Int)]) Tryz.func237 rfl rfl (by simp) ?_
 refine sr (aS (ae (sr (mS ?_))))
 refine aV (cU a _ ha) av.out rfl (by decide) ?_
 rintro e_ w6 ⟨A6, c6, rfl, hown_, hb_⟩
 refine ⟨_, rfl, ?_⟩
 replace hh := hh.bk (x := .row _ _ _ _ _ _) hb_ hown_
 refine mI ?_
 refine kq rfl rfl (by decide) ?_
 rw [e1]
 refine aV (j3 none _ 0 0 _ _ m [] (aZ 2 (bN a)) _ (Sl.nil _ _ _) (hh.aK (i := 0) rfl) Dg.nil (gE _) (by omega) (by omega) (by omega)) av.out rfl (by decide) ?_
 rintro e_ w_ ⟨b9, rfl, hown_, hb_⟩
 refine ⟨_, rfl, ?_⟩
 replace hh := hh.bk (x := .row _ _ _ _ _ _) hb_ hown_
 rw [fx, bD, Nat.zero_add] at hh
 refine bG hh (dV _ _ _ (bT 2 (max 0 ((aZ 2 (bN a)).length + m) + 1) (bN a * 2 ^ m)) _ (hh.aK (i := 0) rfl) (ec (by omega) _ _) (Nat.le_refl _) (by omega)) rfl ?_
 intro w10 hh
 rw [cu hbd]
 refine aS (ae (ao ?_))
 refine cA ?_
 exact ⟨rfl, hh.below⟩
end Go.Proofs.YtaapkaefelhfcaaGreatDoor
namespace Go.Proofs.YtaapkaefelhfcaaGreatDoor
open Go.RowKit
theorem uk (L : Option Addr) (n c : Nat) (ss : List ByteArray) (w : World) (hS : Sl w L n 1 (sJ ss)) (hn : n ≤ 1000000) (hs : ∀ s ∈ ss, s.size ≤ 1000000000) :
  Calls Tryz.prog 235 #[.slice L n c] w fun e w' => e = .returned (.string (sN (ss.map bN).sum)) ∧ Below w.heap.size w w' := by
 have hsl : ss.length = n := by have := hS.1; rw [na] at this; omega
 have hh := Hp.start w
 refine ak (N := 20) (l := [.slice L n c]) Tryz.func235 rfl rfl (by simp) ?_
 refine sr (aS (ae (sr (aL (ae (ah (sr (aI (ae (al ?_))))))))))
 replace hh := hh.di 5 1
 refine ct [3, 4, 5, 6, 7, 8, 9, 10, 11, 12, 13, 14, 15, 16, 17] 3 4
  (fun v j w' => ∃ (i : Nat) (A : Option Addr) (c' T K : Nat), i ≤ n ∧ j = .int .i64 i ∧ T = ((ss.take i).map bN).sum ∧ v = .slice A K c' ∧ K ≤ 8000000000 + i ∧ T < 2 ^ K ∧ Hp w [.row A K c' 5 1 (fy (bT 2 K T))] w')
  (fun _ j _ => n - (intOf j).toNat) ?_ ?_
 ·exact ⟨0, none, 0, 0, 0, Nat.zero_le _, rfl, rfl, rfl, by omega, by simp, hh⟩
 ·clear hh
  rintro ρ' v j w' ⟨i, A, c', T, K, hi, rfl, hT, rfl, hTl, hTb, hh⟩
  by_cases hlt : i < n
  ·obtain ⟨s, hsi⟩ := aD (l := ss) (k := i) (by omega)
   obtain ⟨ad, rfl, hr⟩ := hS.at_ (by omega)
   have hs2 := vz hsi
   have hsz := hs s (List.mem_of_getElem? hsi)
   have hlx := fm s
   have hT2 : ((ss.take (i + 1)).map bN).sum = T + bN s := by rw [aJ hsi, List.map_append, List.map_singleton, mZ, hT]
   have hbs : bN s < 2 ^ (aZ 2 (bN s)).length := df _
   have hb2 : T + bN s < 2 ^ (max K ((aZ 2 (bN s)).length + 0) + 1) := by
    have h1 : 2 ^ K ≤ 2 ^ max K ((aZ 2 (bN s)).length + 0) := Nat.pow_le_pow_right (by omega) (by omega)
    have h2 : 2 ^ (aZ 2 (bN s)).length ≤ 2 ^ max K ((aZ 2 (bN s)).length + 0) := Nat.pow_le_pow_right (by omega) (by omega)
    rw [Nat.pow_succ]; omega
   refine ah (sr (mI (mL (aO ?_))))
   refine aU (ae (cT (aj (ai (ah (al (aq (mL (mL (mI ?_))))))))))
   refine aR (k := i) aF.out aC.size rfl rfl (by omega) (by omega) (by decide) ?_
   refine bh aC.out rfl ((hr.ext hh.below).nJ (by assumption)) (by decide) ?_
   refine aV (cU s _ hsz) av.out rfl (by decide) ?_
   rintro e_ w16 ⟨A16, c16, rfl, hown_, hb_⟩
   refine ⟨_, rfl, ?_⟩
   replace hh := hh.bk (x := .row _ _ _ _ _ _) hb_ hown_
   refine aV (j3 _ _ _ _ _ _ 0 (bT 2 K T) (aZ 2 (bN s)) _ (hh.aK (i := 1) rfl) (hh.aK (i := 0) rfl) (ec (by omega) _ _) (gE _) (by omega) (by omega) (by omega)) av.out rfl (by decide) ?_
   rintro e_ w_ ⟨b17, rfl, hown_, hb_⟩
   refine ⟨_, rfl, ?_⟩
   rw [fx, cu hTb, Nat.pow_zero, Nat.mul_one] at hown_
   replace hh := (hh.bk (x := .row _ _ _ _ _ _) hb_ hown_).sub (List.sublist_append_left [_] _)
   refine aL (aE (aW (ai (aq (mI ?_)))))
   refine bL (aI (aE (ai ?_)))
   refine ⟨⟨i + 1, _, _, T + bN s, _, by omega, rfl, hT2.symm, rfl, by omega, hb2, hh⟩, by show n - (i + 1) < n - i; omega, ?_⟩
   (repeat (first | exact aw _ _ _ | refine ax rfl ?_ | refine ar rfl ?_))
  ·refine ah (sr (mI (mL (aO ?_))))
   refine aU (ae (cF ?_))
   refine aP ?_
   refine ay (ay (a6 (ai (sr (mL ?_)))))
   refine bG hh (dV _ _ _ (bT 2 K T) _ (hh.aK (i := 0) rfl) (ec (by omega) _ _) (hh.dv (i := 0) rfl) (by omega)) rfl ?_
   intro w19 hh
   rw [cu hTb]
   refine aS (ae (ao ?_))
   refine cA ?_
   rw [List.take_of_length_le (by omega)] at hT
   rw [hT]
   exact ⟨rfl, hh.below⟩
theorem uf (a b : ByteArray) (w : World) (ha : a.size ≤ 1000000000) (hb : b.size ≤ 1000000000) :
  Calls Tryz.prog 234 #[.string a, .string b] w fun e w' => e = .returned (.string (sN (bN a * bN b))) ∧ Below w.heap.size w w' := by
 have hh := Hp.start w
 have h1 := fm a
 have h2 := fm b
 have hYl : bN b < 2 ^ (aZ 2 (bN b)).length := df _
 have hXd := gE (bN a)
 have hX := fx (bN a)
 refine ak (N := 30) (l := [.string a, .string b]) Tryz.func234 rfl rfl (by simp) ?_
 refine sr (aS (ae (sr (mS ?_))))
 refine aV (cU a _ ha) av.out rfl (by decide) ?_
 rintro e_ w10 ⟨A10, c10, rfl, hown_, hb_⟩
 refine ⟨_, rfl, ?_⟩
 replace hh := hh.bk (x := .row _ _ _ _ _ _) hb_ hown_
 refine mS ?_
 refine aV (cU b _ hb) av.out rfl (by decide) ?_
 rintro e_ w12 ⟨A12, c12, rfl, hown_, hb_⟩
 refine ⟨_, rfl, ?_⟩
 replace hh := hh.bk (x := .row _ _ _ _ _ _) hb_ hown_
 generalize aZ 2 (bN a) = xs at *
 refine aL (aL (ae (sr (aL (ae (ah (sr (aI (ae (al ?_))))))))))
 replace hh := hh.di 5 1
 refine ct [7, 8, 13, 14, 15, 16, 17, 18, 19, 20, 21, 22, 23, 24, 25, 26, 27] 7 8
  (fun v j w' => ∃ (i : Nat) (A : Option Addr) (c' P K : Nat), i ≤ xs.length ∧ j = .int .i64 i ∧ P = bD 2 (xs.take i) * bN b ∧ v = .slice A K c' ∧ K ≤ (aZ 2 (bN b)).length + i ∧ P < 2 ^ K ∧ Hp w [.row A K c' 5 1 (fy (bT 2 K P)), .row A12 (aZ 2 (bN b)).length c12 5 1 (fy (aZ 2 (bN b))), .row A10 xs.length c10 5 1 (fy xs)] w')
  (fun _ j _ => xs.length - (intOf j).toNat) ?_ ?_
 ·exact ⟨0, none, 0, 0, 0, Nat.zero_le _, rfl, by simp [bD], rfl, by omega, by simp, hh⟩
 ·clear hh
  rintro ρ' v j w' ⟨i, A, c', P, K, hi, rfl, hP, rfl, hK, hPb, hh⟩
  by_cases hlt : i < xs.length
  ·obtain ⟨d, hd⟩ := aD (l := xs) (k := i) (by omega)
   have hd2 := k7 hd
   have hdw := hXd.at_ hd
   have hsn := eA (B := 2) hd
   obtain ⟨g, rfl⟩ := hh.eO (i := 2) rfl (by omega)
   by_cases h0 : d = 0
   ·subst h0
    refine ah (sr (mI (mL (aO ?_))))
    refine aU (ae (cT (aj (ai (ah (al (sr (mL (mI ?_)))))))))
    refine bp (k := i) aF.out aC.size rfl rfl (by omega) (by omega) (by decide) ?_
    refine bh aC.out rfl (hh.cI (i := 2) rfl (by first | assumption | (simp only [Nat.mul_one]; assumption))) (by decide) ?_
    refine ck (ae (cF (aj (aW (ai (aq (mI ?_)))))))
    refine bL (aI (aE (ai ?_)))
    refine ⟨⟨i + 1, _, _, P, _, by omega, rfl, by rw [hsn, hP]; simp, rfl, by omega, hPb, hh⟩, by show xs.length - (i + 1) < xs.length - i; omega, ?_⟩
    (repeat (first | exact aw _ _ _ | refine ax rfl ?_ | refine ar rfl ?_))
   ·obtain rfl : d = 1 := by omega
    have hb2 : P + bN b * 2 ^ i < 2 ^ (max K ((aZ 2 (bN b)).length + i) + 1) := by
     have h1 : 2 ^ K ≤ 2 ^ max K ((aZ 2 (bN b)).length + i) := Nat.pow_le_pow_right (by omega) (by omega)
     have h2 : 2 ^ ((aZ 2 (bN b)).length + i) ≤ 2 ^ max K ((aZ 2 (bN b)).length + i) := Nat.pow_le_pow_right (by omega) (by omega)
     have h3 : bN b * 2 ^ i < 2 ^ (aZ 2 (bN b)).length * 2 ^ i := Nat.mul_lt_mul_of_pos_right hYl (Nat.pow_pos (by omega))
     rw [← Nat.pow_add] at h3
     rw [Nat.pow_succ]; omega
    refine ah (sr (mI (mL (aO ?_))))
    refine aU (ae (cT (aj (ai (ah (al (sr (mL (mI ?_)))))))))
    refine bp (k := i) aF.out aC.size rfl rfl (by omega) (by omega) (by decide) ?_
    refine bh aC.out rfl (hh.cI (i := 2) rfl (by first | assumption | (simp only [Nat.mul_one]; assumption))) (by decide) ?_
    refine ck (ae (cT (aq (mL (mL (mI ?_))))))
    refine aV (j3 _ _ _ _ _ _ i (bT 2 K P) (aZ 2 (bN b)) _ (hh.aK (i := 0) rfl) (hh.aK (i := 1) rfl) (ec (by omega) _ _) (gE _) (by omega) (by omega) (by omega)) av.out rfl (by decide) ?_
    rintro e_ w_ ⟨b27, rfl, hown_, hb_⟩
    refine ⟨_, rfl, ?_⟩
    rw [fx, cu hPb] at hown_
    replace hh := (hh.bk (x := .row _ _ _ _ _ _) hb_ hown_).sub (.cons_cons _ (.cons _ (List.Sublist.refl _)))
    refine aL (aE (aW (ai (aq (mI ?_)))))
    refine bL (aI (aE (ai ?_)))
    refine ⟨⟨i + 1, _, _, _, _, by omega, rfl, ?_, rfl, by omega, hb2, hh⟩, by show xs.length - (i + 1) < xs.length - i; omega, ?_⟩
    ·rw [hsn, hP, Nat.add_mul, Nat.mul_one, Nat.mul_comm (2 ^ i)]
    ·(repeat (first | exact aw _ _ _ | refine ax rfl ?_ | refine ar rfl ?_))
  ·rw [List.take_of_length_le (by omega), hX] at hP
   refine ah (sr (mI (mL (aO ?_))))
   refine aU (ae (cF ?_))
   refine aP ?_
   refine ay (ay (a6 (ai (sr (mL ?_)))))
   refine bG hh (dV _ _ _ (bT 2 K P) _ (hh.aK (i := 0) rfl) (ec (by omega) _ _) (hh.dv (i := 0) rfl) (by omega)) rfl ?_
   intro w29 hh
   rw [cu hPb, hP]
   refine aS (ae (ao ?_))
   refine cA ?_
   exact ⟨rfl, hh.below⟩
theorem ym (X Y k : Nat) (hY : 0 < Y) : X / 2 ^ k % Y = (if Y ≤ X / 2 ^ k % 2 + 2 * (X / 2 ^ (k + 1) % Y) then X / 2 ^ k % 2 + 2 * (X / 2 ^ (k + 1) % Y) - Y else X / 2 ^ k % 2 + 2 * (X / 2 ^ (k + 1) % Y)) ∧
  X / 2 ^ k / Y % 2 = (if Y ≤ X / 2 ^ k % 2 + 2 * (X / 2 ^ (k + 1) % Y) then 1 else 0) ∧ X / 2 ^ k / Y / 2 = X / 2 ^ (k + 1) / Y := by
 have h1 := jM X k
 have hb : X / 2 ^ k % 2 < 2 := Nat.mod_lt _ (by omega)
 generalize X / 2 ^ k % 2 = b at *
 generalize X / 2 ^ k = Z at *
 generalize X / 2 ^ (k + 1) = V at *
 have h2 := Nat.div_add_mod V Y
 have h3 := Nat.mod_lt V hY
 generalize V / Y = q at *
 generalize V % Y = r at *
 have e : Z = (b + 2 * r) + Y * (2 * q) := by rw [h1, ← h2, Nat.mul_add, Nat.mul_left_comm]; omega
 rw [e, Nat.add_mul_mod_self_left, Nat.add_mul_div_left _ _ hY]
 by_cases hc : Y ≤ b + 2 * r
 ·rw [if_pos hc, if_pos hc]
  have e2 : b + 2 * r = (b + 2 * r - Y) + Y * 1 := by omega
  have h4 : b + 2 * r - Y < Y := by omega
  have h5 : (b + 2 * r) / Y = 1 := by rw [e2, Nat.add_mul_div_left _ _ hY, Nat.div_eq_of_lt h4]
  have h6 : (b + 2 * r) % Y = b + 2 * r - Y := by conv => lhs; rw [e2, Nat.add_mul_mod_self_left, Nat.mod_eq_of_lt h4]
  rw [h5, h6]
  omega
 ·rw [if_neg hc, if_neg hc, Nat.mod_eq_of_lt (by omega), Nat.div_eq_of_lt (by omega)]
  omega
theorem lb (a b : ByteArray) (w : World) (ha : a.size ≤ 1000000000) (hb : b.size ≤ 1000000000) (hb0 : bN b ≠ 0) :
  Calls Tryz.prog 265 #[.string a, .string b] w fun e w' => e = .returned (.tuple #[.string (sN (bN a / bN b)), .string (sN (bN a % bN b)), .bool true]) ∧ Below w.heap.size w w' := by
 have hh := Hp.start w
 have h1 := fm a
 have h2 := fm b
 have hX := fx (bN a)
 have hXd := gE (bN a)
 have hXl : bN a < 2 ^ (aZ 2 (bN a)).length := df _
 have hYp : 0 < (aZ 2 (bN b)).length := lQ hb0
 have hget : ∀ k, k < (aZ 2 (bN a)).length → (aZ 2 (bN a))[k]? = some (bN a / 2 ^ k % 2) := fun k hk => te (by omega) hk
 refine ak (N := 52) (l := [.string a, .string b]) Tryz.func265 rfl rfl (by simp) ?_
 refine sr (aS (aS (aB (ae (sr (mS ?_))))))
 refine aV (cU a _ ha) av.out rfl (by decide) ?_
 rintro e_ w13 ⟨A13, c13, rfl, hown_, hb_⟩
 refine ⟨_, rfl, ?_⟩
 replace hh := hh.bk (x := .row _ _ _ _ _ _) hb_ hown_
 refine mS ?_
 refine aV (cU b _ hb) av.out rfl (by decide) ?_
 rintro e_ w15 ⟨A15, c15, rfl, hown_, hb_⟩
 refine ⟨_, rfl, ?_⟩
 replace hh := hh.bk (x := .row _ _ _ _ _ _) hb_ hown_
 refine aL (aL (ae (ah (sr (mL (aO ?_))))))
 refine ck (ae (cF (aj (ai (sr (mL (aO ?_)))))))
 refine gO hh rfl rfl rfl rfl aF.out aC.out rfl (by omega) (by omega) (by decide) ?_
 intro b21 w21 hh
 refine aL (ae (sr (aL (ae (ah (sr (mL (aO ?_))))))))
 refine eB (aI (ae (al ?_)))
 rw [lE] at hh
 generalize hxs : aZ 2 (bN a) = xs at *
 replace hh := hh.di 5 1
 refine ct [10, 11, 25, 26, 27, 28, 29, 30, 31, 32, 33, 34, 35, 36, 37, 38, 39, 40, 41, 42, 43, 44, 45, 46, 47] 10 11
  (fun v j w' => ∃ (k : Nat) (A : Option Addr) (c' : Nat), k ≤ xs.length ∧ j = .int .i64 ((k : Int) - 1) ∧ v = .slice A (aZ 2 (bN a / 2 ^ k % bN b)).length c' ∧ Hp w [.row A (aZ 2 (bN a / 2 ^ k % bN b)).length c' 5 1 (fy (aZ 2 (bN a / 2 ^ k % bN b))), .row (some ⟨b21, 0, none⟩) xs.length xs.length 5 1 (fy (List.replicate k 0 ++ bT 2 (xs.length - k) (bN a / 2 ^ k / bN b))), .row A15 (aZ 2 (bN b)).length c15 5 1 (fy (aZ 2 (bN b))), .row A13 xs.length c13 5 1 (fy xs)] w')
  (fun _ j _ => (intOf j + 1).toNat) ?_ ?_
 ·refine ⟨xs.length, none, 0, Nat.le_refl _, rfl, ?_, ?_⟩
  ·rw [Nat.div_eq_of_lt hXl, Nat.zero_mod, fu (by omega)]; rfl
  ·rw [Nat.div_eq_of_lt hXl, Nat.zero_mod, fu (by omega), Nat.sub_self]; simp only [bT, List.append_nil]; exact hh
 ·clear hh
  rintro ρ' v j w' ⟨k, A, c', hk, rfl, rfl, hh⟩
  by_cases h0 : k = 0
  ·subst h0
   rw [Nat.pow_zero, Nat.div_one, Nat.sub_zero, List.replicate_zero, List.nil_append] at hh
   rw [Nat.pow_zero, Nat.div_one]
   have hq : bN a / bN b < 2 ^ xs.length := Nat.lt_of_le_of_lt (Nat.div_le_self _ _) hXl
   have hrl : (aZ 2 (bN a % bN b)).length ≤ (aZ 2 (bN b)).length := kT (by omega) (Nat.le_of_lt (Nat.mod_lt _ (by omega)))
   refine ah (sr (mI ?_))
   refine dn (ae (cF ?_))
   refine aP ?_
   refine ay (ay (a6 (ai (sr (mL ?_)))))
   refine bG hh (dV _ _ _ (bT 2 xs.length (bN a / bN b)) _ (hh.aK (i := 1) rfl) (ec (by omega) _ _) (Nat.le_refl _) (by omega)) rfl ?_
   intro w49 hh
   rw [cu hq]
   refine mL ?_
   refine bG hh (dV _ _ _ (aZ 2 (bN a % bN b)) _ (hh.aK (i := 0) rfl) (gE _) (hh.dv (i := 0) rfl) (by omega)) rfl ?_
   intro w51 hh
   rw [fx]
   refine aS (aS (aB (ae (ao ?_))))
   refine C8 ?_
   exact ⟨rfl, hh.below⟩
  ·obtain ⟨i, rfl⟩ : ∃ i, k = i + 1 := ⟨k - 1, by omega⟩
   have hji : ((i + 1 : Nat) : Int) - 1 = (i : Int) := by omega
   obtain ⟨d1, d2, d3⟩ := ym (bN a) (bN b) i (by omega)
   have hgi := k7 (hget i (by omega))
   have hdw : bN a / 2 ^ i % 2 < 2 := Nat.mod_lt _ (by omega)
   have hrl : (aZ 2 (bN a / 2 ^ (i + 1) % bN b)).length ≤ (aZ 2 (bN b)).length := kT (by omega) (Nat.le_of_lt (Nat.mod_lt _ (by omega)))
   have hqk : bT 2 (xs.length - i) (bN a / 2 ^ i / bN b) = (bN a / 2 ^ i / bN b % 2) :: bT 2 (xs.length - (i + 1)) (bN a / 2 ^ (i + 1) / bN b) := by
    rw [show xs.length - i = (xs.length - (i + 1)) + 1 by omega, bT, d3]
   rw [hji]
   obtain ⟨g, rfl⟩ := hh.eO (i := 3) rfl (by omega)
   refine ah (sr (mI ?_))
   refine dn (ae (cT (aj (ai (ah (al (sr (mL (mI ?_)))))))))
   refine bp (k := i) aF.out aC.size rfl rfl (by omega) (by omega) (by decide) ?_
   refine bh aC.out rfl (hh.cI (i := 3) rfl (by first | assumption | (simp only [Nat.mul_one]; assumption))) (by decide) ?_
   refine bB hh (cs := [_]) aF.out aC.out (bm (cb rfl) cn) rfl rfl (by decide) (by decide) (by decide) rfl (by decide) ?_
   intro b33 w33 hh
   refine mL ?_
   refine bF hh (i := 0) rfl rfl rfl (hh.aK (i := 1) rfl) aF.out aC.out rfl (by decide) (by first | rfl | exact bU _ | exact bI _ | exact oneCells_i64s _ | exact bf NR.one _) (by omega) (by omega) (by decide) ?_
   intro A35 c35 w35 hh
   simp only [List.set_cons_zero] at hh
   have e35 : [Value.int .u8 ((bN a / 2 ^ i % 2 : Nat) : Int)] ++ fy (aZ 2 (bN a / 2 ^ (i + 1) % bN b)) = fy ((bN a / 2 ^ i % 2) :: aZ 2 (bN a / 2 ^ (i + 1) % bN b)) := rfl
   rw [e35] at hh
   generalize hR : bN a / 2 ^ (i + 1) % bN b = R at *
   generalize hbt : bN a / 2 ^ i % 2 = bt at *
   have hdg : Dg 2 (bt :: aZ 2 R) := Dg.cons hdw (gE _)
   have hcv : dI (bt :: aZ 2 R) = aZ 2 (bt + 2 * R) := by rw [eT (by omega) hdg, bD, fx]
   have hll : (bt :: aZ 2 R).length = 1 + (aZ 2 R).length := by rw [List.length_cons]; omega
   have hcl := eN (bt :: aZ 2 R)
   refine bG hh (jB _ _ _ (bt :: aZ 2 R) _ (hh.aK (i := 0) rfl) (hh.dv (i := 0) rfl) (by omega)) rfl ?_
   intro w36 hh
   replace hh := hh.Bx hll
   rw [hcv] at hh hcl
   rw [hcv]
   refine aL (ae (sr (mL (mL ?_))))
   refine bG hh (j8 _ _ _ _ _ _ (aZ 2 (bt + 2 * R)) (aZ 2 (bN b)) _ (hh.aK (i := 0) rfl) (hh.aK (i := 3) rfl) (gE _) (gE _) (by omega) (by omega)) rfl ?_
   intro w39 hh
   rw [fx, fx]
   by_cases hge : bN b ≤ bt + 2 * R
   ·have hc : 0 ≤ ju (bt + 2 * R) (bN b) := by unfold ju; rw [if_neg (by omega)]; split <;> omega
    rw [if_pos hge] at d1 d2
    have hml : bt + 2 * R - bN b < 2 ^ (aZ 2 (bt + 2 * R)).length := Nat.lt_of_le_of_lt (Nat.sub_le _ _) (df _)
    have hcm : dI (bT 2 (aZ 2 (bt + 2 * R)).length (bt + 2 * R - bN b)) = aZ 2 (bt + 2 * R - bN b) := by rw [eT (by omega) (ec (by omega) _ _), cu hml]
    refine dn (ae (cT (sr (mL (mL ?_)))))
    refine aV (lU _ _ _ _ _ _ (aZ 2 (bt + 2 * R)) (aZ 2 (bN b)) _ (hh.aK (i := 0) rfl) (hh.aK (i := 3) rfl) (gE _) (gE _) (by omega) (by omega) (by rw [fx, fx]; exact hge)) av.out rfl (by decide) ?_
    rintro e_ w_ ⟨b43, rfl, hown_, hb_⟩
    refine ⟨_, rfl, ?_⟩
    replace hh := hh.bk (x := .row _ _ _ _ _ _) hb_ hown_
    rw [fx, fx] at hh
    refine bG hh (jB _ _ _ (bT 2 (aZ 2 (bt + 2 * R)).length (bt + 2 * R - bN b)) _ (hh.aK (i := 0) rfl) (Nat.le_refl _) (by omega)) rfl ?_
    intro w44 hh
    replace hh := hh.Bx (aY _ _)
    rw [hcm] at hh
    rw [hcm]
    have hql : (fy (List.replicate (i + 1) 0 ++ bT 2 (xs.length - (i + 1)) (bN a / 2 ^ (i + 1) / bN b))).length = xs.length := by rw [cH, List.length_append, List.length_replicate, aY]; omega
    refine aL (ae (aq (mL (mI ?_))))
    refine bp (k := i) aF.out aC.size rfl rfl (by omega) (by omega) (by decide) ?_
    refine bP hh (i := 3) (vs := [_]) rfl rfl (cb rfl) rfl aC.out rfl (by rw [hql]; omega) rfl ?_
    intro ws hh
    simp only [List.set_cons_zero, List.set_cons_succ] at hh
    rw [Nat.mul_one, cz (by rw [hql]; omega)] at hh
    have hset : (fy (List.replicate (i + 1) 0 ++ bT 2 (xs.length - (i + 1)) (bN a / 2 ^ (i + 1) / bN b))).set i (.int .u8 1) = fy (List.replicate i 0 ++ bT 2 (xs.length - i) (bN a / 2 ^ i / bN b)) := by
     have := ky (List.replicate (i + 1) 0 ++ bT 2 (xs.length - (i + 1)) (bN a / 2 ^ (i + 1) / bN b)) i 1
     rw [hqk, d2, ← vV]
     exact this
    rw [hset] at hh
    replace hh := hh.sub (.cons_cons _ (.cons _ (.cons _ (List.Sublist.refl _))))
    refine aE (aW (ai (aq (mI ?_))))
    refine eB (aI (aE (ai ?_)))
    refine ⟨⟨i, _, _, by omega, rfl, by rw [d1]; rfl, by rw [d1]; exact hh⟩, by show ((i : Int) - 1 + 1).toNat < ((i : Int) + 1).toNat; omega, ?_⟩
    (repeat (first | exact aw _ _ _ | refine ax rfl ?_ | refine ar rfl ?_))
   ·have hc : ¬ 0 ≤ ju (bt + 2 * R) (bN b) := by rw [jL (by omega)]; omega
    rw [if_neg hge] at d1 d2
    refine dn (ae (cF (aj (aW (ai (aq (mI ?_)))))))
    refine eB (aI (aE (ai ?_)))
    have hrep : List.replicate (i + 1) 0 ++ bT 2 (xs.length - (i + 1)) (bN a / 2 ^ (i + 1) / bN b) = List.replicate i 0 ++ bT 2 (xs.length - i) (bN a / 2 ^ i / bN b) := by
     rw [hqk, d2, List.replicate_succ', List.append_assoc]; rfl
    rw [hrep] at hh
    replace hh := hh.sub (.cons_cons _ (.cons _ (List.Sublist.refl _)))
    refine ⟨⟨i, _, _, by omega, rfl, by rw [d1]; rfl, by rw [d1]; exact hh⟩, by show ((i : Int) - 1 + 1).toNat < ((i : Int) + 1).toNat; omega, ?_⟩
    (repeat (first | exact aw _ _ _ | refine ax rfl ?_ | refine ar rfl ?_))
end Go.Proofs.YtaapkaefelhfcaaGreatDoor
/- The walks through the document's answer for whole numbers (ogeeref02), as far as layer 4 needs it. -/
namespace Go.Proofs.YtaapkaefelhfcaaGreatDoor
open Go.RowKit
theorem kV {n : Nat} : bM n = 0 ↔ n = 0 := by
 constructor
 ·intro h
  have := df n
  rw [h] at this
  omega
 ·intro h; rw [h]; exact jf
theorem kt {a b : Nat} (h : a ≤ b) : bM a ≤ bM b := du (Nat.lt_of_le_of_lt h (df b))
theorem xT (a b : Nat) : bM (a + b) ≤ bM a + bM b + 1 := by
 apply du
 have h1 := df a
 have h2 := df b
 have h3 : 2 ^ bM a ≤ 2 ^ (bM a + bM b) := Nat.pow_le_pow_right (by omega) (by omega)
 have h4 : 2 ^ bM b ≤ 2 ^ (bM a + bM b) := Nat.pow_le_pow_right (by omega) (by omega)
 rw [Nat.pow_succ]
 omega
theorem de (s : Bool) (m : ByteArray) (w : World) (hm : m.size ≤ 1000000000) :
  Calls Tryz.prog 232 #[.agg #[.bool s, .string m]] w fun e w' => e = .returned (.agg #[.bool (iN (iv s m)), .string (iM (iv s m))]) ∧ Below w.heap.size w w' := by
 have hh := Hp.start w
 have h1 := fm m
 rw [AK, vA]
 cases s with
 | false =>
  refine ak (N := 16) (l := [.agg #[.bool false, .string m]]) Tryz.func232 rfl rfl (by simp) ?_
  refine sr ?_
  refine cK hh [_,_] ?_
  intro b1 w1 hh
  refine cv hh ?_
  intro b2 w2 hh
  refine ae (sr (bC ?_))
  refine bH hh 1 ?_
  refine aV (cU m _ hm) av.out rfl (by decide) ?_
  rintro e_ w6 ⟨A6, c6, rfl, hown_, hb_⟩
  refine ⟨_, rfl, ?_⟩
  replace hh := hh.bk (x := .row _ _ _ _ _ _) hb_ hown_
  refine bG hh (dV _ _ _ (aZ 2 (bN m)) _ (hh.aK (i := 0) rfl) (gE _) (hh.dv (i := 0) rfl) (by omega)) rfl ?_
  intro w7 hh
  rw [fx]
  refine aS (ae (sr (bC ?_)))
  refine bH hh 2 ?_
  refine mB ?_
  first | refine gS ?_ | (refine gT ?_; refine mS ?_) | refine gV ?_
  first | refine gS ?_ | (refine gT ?_; (first | refine gf rfl rfl (by first | rfl | assumption | decide) (by decide) ?_ | refine fV rfl rfl (by first | assumption | decide) (by decide) ?_)) | refine gV ?_
  first | refine cR ?_ | refine cQ ?_
  refine mS ?_
  refine ep [_,_] ?_
  refine bE hh 1 [_,_] ?_
  intro ws hh
  replace hh : Hp _ (_ :: .blk _ _ [_, _] _ :: _) _ := hh
  refine ae (ao ?_)
  refine gI (aG rfl (aH (vs := [_, _]) aC.out (hh.au (i := 1) (n := 2) rfl rfl) rfl) a7) ?_
  exact ⟨rfl, hh.below⟩
 | true =>
  by_cases h0 : sN (bN m) = ByteArray.mk #[]
  ·refine ak (N := 16) (l := [.agg #[.bool true, .string m]]) Tryz.func232 rfl rfl (by simp) ?_
   refine sr ?_
   refine cK hh [_,_] ?_
   intro b1 w1 hh
   refine cv hh ?_
   intro b2 w2 hh
   refine ae (sr (bC ?_))
   refine bH hh 1 ?_
   refine aV (cU m _ hm) av.out rfl (by decide) ?_
   rintro e_ w6 ⟨A6, c6, rfl, hown_, hb_⟩
   refine ⟨_, rfl, ?_⟩
   replace hh := hh.bk (x := .row _ _ _ _ _ _) hb_ hown_
   refine bG hh (dV _ _ _ (aZ 2 (bN m)) _ (hh.aK (i := 0) rfl) (gE _) (hh.dv (i := 0) rfl) (by omega)) rfl ?_
   intro w7 hh
   rw [fx]
   refine aS (ae (sr (bC ?_)))
   refine bH hh 2 ?_
   refine mB ?_
   first | refine gS ?_ | (refine gT ?_; refine mS ?_) | refine gV ?_
   first | refine gS ?_ | (refine gT ?_; (first | refine gf rfl rfl (by first | rfl | assumption | decide) (by decide) ?_ | refine fV rfl rfl (by first | assumption | decide) (by decide) ?_)) | refine gV ?_
   first | refine cR ?_ | refine cQ ?_
   refine mS ?_
   refine ep [_,_] ?_
   refine bE hh 1 [_,_] ?_
   intro ws hh
   replace hh : Hp _ (_ :: .blk _ _ [_, _] _ :: _) _ := hh
   refine ae (ao ?_)
   refine gI (aG rfl (aH (vs := [_, _]) aC.out (hh.au (i := 1) (n := 2) rfl rfl) rfl) a7) ?_
   have h1 : bN m = 0 := by rw [← hZ] at h0; exact u2 h0
   rw [decide_eq_false (by omega)]
   exact ⟨rfl, hh.below⟩
  ·refine ak (N := 16) (l := [.agg #[.bool true, .string m]]) Tryz.func232 rfl rfl (by simp) ?_
   refine sr ?_
   refine cK hh [_,_] ?_
   intro b1 w1 hh
   refine cv hh ?_
   intro b2 w2 hh
   refine ae (sr (bC ?_))
   refine bH hh 1 ?_
   refine aV (cU m _ hm) av.out rfl (by decide) ?_
   rintro e_ w6 ⟨A6, c6, rfl, hown_, hb_⟩
   refine ⟨_, rfl, ?_⟩
   replace hh := hh.bk (x := .row _ _ _ _ _ _) hb_ hown_
   refine bG hh (dV _ _ _ (aZ 2 (bN m)) _ (hh.aK (i := 0) rfl) (gE _) (hh.dv (i := 0) rfl) (by omega)) rfl ?_
   intro w7 hh
   rw [fx]
   refine aS (ae (sr (bC ?_)))
   refine bH hh 2 ?_
   refine mB ?_
   first | refine gS ?_ | (refine gT ?_; refine mS ?_) | refine gV ?_
   first | refine gS ?_ | (refine gT ?_; (first | refine gf rfl rfl (by first | rfl | assumption | decide) (by decide) ?_ | refine fV rfl rfl (by first | assumption | decide) (by decide) ?_)) | refine gV ?_
   first | refine cR ?_ | refine cQ ?_
   refine mS ?_
   refine ep [_,_] ?_
   refine bE hh 1 [_,_] ?_
   intro ws hh
   replace hh : Hp _ (_ :: .blk _ _ [_, _] _ :: _) _ := hh
   refine ae (ao ?_)
   refine gI (aG rfl (aH (vs := [_, _]) aC.out (hh.au (i := 1) (n := 2) rfl rfl) rfl) a7) ?_
   have h1 : bN m ≠ 0 := fun h => h0 (by rw [h, hZ])
   rw [decide_eq_true h1]
   exact ⟨rfl, hh.below⟩
theorem gZ (s : Bool) (m : ByteArray) (w : World) (hm : m.size ≤ 1000000000) :
  Calls Tryz.prog 231 #[.agg #[.bool s, .string m]] w fun e w' => e = .returned (.int .i64 (iv s m).sign) ∧ Below w.heap.size w w' := by
 have hh := Hp.start w
 by_cases h0 : bN m = 0
 ·have hb : bM (bN m) = 0 := kV.2 h0
  refine ak (N := 9) (l := [.agg #[.bool s, .string m]]) Tryz.func231 rfl rfl (by simp) ?_
  refine sr ?_
  refine cK hh [_,_] ?_
  intro b1 w1 hh
  refine aI (ae (ah (sr (bC ?_))))
  refine bH hh 0 ?_
  refine bG hh (la m _ hm) rfl ?_
  intro w5 hh
  refine ck (ae (cT (sr (aI (ae (ao (az ?_)))))))
  refine cA ?_
  have hz : iv s m = 0 := by unfold iv; split <;> omega
  exact ⟨by rw [hz]; rfl, hh.below⟩
 ·have hb : bM (bN m) ≠ 0 := fun h => h0 (kV.1 h)
  cases s with
  | true =>
   refine ak (N := 9) (l := [.agg #[.bool true, .string m]]) Tryz.func231 rfl rfl (by simp) ?_
   refine sr ?_
   refine cK hh [_,_] ?_
   intro b1 w1 hh
   refine aI (ae (ah (sr (bC ?_))))
   refine bH hh 0 ?_
   refine bG hh (la m _ hm) rfl ?_
   intro w5 hh
   refine ck (ae (cF (aj (ai (ah (sr (bC ?_)))))))
   refine bH hh 0 ?_
   refine ae (cT (sr (aI (ae (ao (az ?_))))))
   refine cA ?_
   have hz : iv true m < 0 := by unfold iv; rw [if_pos rfl]; omega
   exact ⟨by rw [Int.sign_eq_neg_one_of_neg hz], hh.below⟩
  | false =>
   refine ak (N := 9) (l := [.agg #[.bool false, .string m]]) Tryz.func231 rfl rfl (by simp) ?_
   refine sr ?_
   refine cK hh [_,_] ?_
   intro b1 w1 hh
   refine aI (ae (ah (sr (bC ?_))))
   refine bH hh 0 ?_
   refine bG hh (la m _ hm) rfl ?_
   intro w5 hh
   refine ck (ae (cF (aj (ai (ah (sr (bC ?_)))))))
   refine bH hh 0 ?_
   refine ae (cF (aj (ai (sr (aI (ae (ao ?_)))))))
   refine cA ?_
   have hz : 0 < iv false m := by unfold iv; rw [if_neg (by simp)]; omega
   exact ⟨by rw [Int.sign_eq_one_of_pos hz], hh.below⟩
theorem mU (n : Int) (w : World) (h1 : -9223372036854775808 ≤ n) (h2 : n ≤ 9223372036854775807) :
  Calls Tryz.prog 189 #[.int .i64 n] w fun e w' => e = .returned (.agg #[.bool (iN n), .string (iM n)]) ∧ Below w.heap.size w w' := by
 have hh := Hp.start w
 by_cases h0 : n < 0
 ·have hn : iN n = true := decide_eq_true h0
  obtain ⟨m, hm⟩ := Int.eq_ofNat_of_zero_le (by omega : 0 ≤ -(n + 1))
  have ha : n.natAbs = m + 1 := by omega
  have hw : (m + 1) % 18446744073709551616 = m + 1 := Nat.mod_eq_of_lt (by omega)
  refine ak (N := 16) (l := [.int .i64 n]) Tryz.func189 rfl rfl (by simp) ?_
  refine sr ?_
  refine cv hh ?_
  intro b2 w2 hh
  refine ae (ah (sr (mI ?_)))
  refine aU (ae (cT (sr (mI ?_))))
  refine bL ?_
  refine mX rfl (by omega) (by omega) (by decide) ?_
  rw [show -(n + 1) = (m : Int) from hm]
  first | refine dq aF.out aF.out rfl (by first | assumption | omega) (by decide) ?_ | refine fp aF.out aF.out rfl (by decide) ?_
  refine gm (b := 1) rfl rfl (by decide) ?_
  rw [hw]
  refine bG hh (qe (m + 1) _ (by omega)) rfl ?_
  intro w10 hh
  rw [← ha]
  refine ep [_,_] ?_
  refine bE hh 0 [_,_] ?_
  intro ws hh
  replace hh : Hp _ (.blk _ _ [_, _] _ :: _) _ := hh
  refine ae (ao (az ?_))
  refine gI (aG rfl (aH (vs := [_, _]) aC.out (hh.au (i := 0) (n := 2) rfl rfl) rfl) a7) ?_
  rw [hn]
  exact ⟨rfl, hh.below⟩
 ·obtain ⟨m, rfl⟩ := Int.eq_ofNat_of_zero_le (by omega : 0 ≤ n)
  have hn : iN (m : Int) = false := decide_eq_false (by omega)
  have hm : m < 18446744073709551616 := by omega
  have e1 : iM (m : Int) = sN m := rfl
  refine ak (N := 16) (l := [.int .i64 (m : Int)]) Tryz.func189 rfl rfl (by simp) ?_
  refine sr ?_
  refine cv hh ?_
  intro b2 w2 hh
  refine ae (ah (sr (mI ?_)))
  refine aU (ae (cF (aj (ai (sr (mI ?_))))))
  first | refine dq aF.out aF.out rfl (by first | assumption | omega) (by decide) ?_ | refine fp aF.out aF.out rfl (by decide) ?_
  refine bG hh (qe m _ hm) rfl ?_
  intro w14 hh
  refine ep [_,_] ?_
  refine bE hh 0 [_,_] ?_
  intro ws hh
  replace hh : Hp _ (.blk _ _ [_, _] _ :: _) _ := hh
  refine ae (ao ?_)
  refine gI (aG rfl (aH (vs := [_, _]) aC.out (hh.au (i := 0) (n := 2) rfl rfl) rfl) a7) ?_
  rw [hn, e1]
  exact ⟨rfl, hh.below⟩
theorem kp (s t : Bool) (a b : ByteArray) (w : World) (ha : a.size ≤ 100000000) (hb : b.size ≤ 100000000) :
  Calls Tryz.prog 185 #[.agg #[.bool s, .string a], .agg #[.bool t, .string b]] w fun e w' => e = .returned (.agg #[.bool (iN (iv s a + iv t b)), .string (iM (iv s a + iv t b))]) ∧ Below w.heap.size w w' := by
 have hh := Hp.start w
 have hba := eJ a
 have hbb := eJ b
 by_cases hst : s = t
 ·subst hst
  have e1 : iv s (sN (bN a + bN b)) = iv s a + iv s b := by unfold iv; rw [eD]; split <;> omega
  have hsz : (sN (bN a + bN b)).size ≤ 1000000000 := by rw [gN]; have := xT (bN a) (bN b); omega
  rw [← e1]
  refine ak (N := 49) (l := [.agg #[.bool s, .string a], .agg #[.bool s, .string b]]) Tryz.func185 rfl rfl (by simp) ?_
  refine sr ?_
  refine cK hh [_,_] ?_
  intro b2 w2 hh
  refine cK hh [_,_] ?_
  intro b3 w3 hh
  refine cv hh ?_
  intro b4 w4 hh
  refine ae (ah (sr (bC ?_)))
  refine bH hh 2 ?_
  refine bC ?_
  refine bH hh 1 ?_
  first | refine kJ aF.out rfl rfl (by first | rfl | assumption) (by decide) ?_ | refine kI aF.out rfl rfl (by first | rfl | assumption | decide) (by decide) ?_ | refine s_eql_bool aF.out rfl rfl (by decide) ?_
  refine ae (cT (ah ?_))
  refine aX 8 [[(2, none)], [(12, some 0)], [(2, none)], [(14, some 2)], [(3, none)], [(16, some 4)], [(15, some 3), (17, some 5)], [(18, some 6)]] [(7, 19), (6, 18), (5, 17), (4, 16), (3, 15), (2, 14), (1, 13), (0, 12)] hh mixed (by kernel_rfl) ?_
  refine cD ?_
  refine dF 2 ?_
  refine cD ?_
  refine dF 2 ?_
  refine cD ?_
  refine dF 1 ?_
  refine pD [_,_] ?_
  refine bj (i := 7) (Is (.string (sN (bN a + bN b)))) Is.ext ?_ ?_
  ·intro ρ1 w1 hj hR
   obtain ⟨A18, c18, h18, s18⟩ := hR.1
   exact bW rfl (a3 av.out (aA h18 a9)) (uk A18 2 c18 [a, b] _ s18 (by omega) (by simp; omega)) (fun _ _ hq => ⟨_, hq.1, hq.2, rfl⟩)
  refine a0 ?_
  intro f W hJ hV
  have hb_2 := hJ.bl
  obtain ⟨v19, v18, v17, v16, v15, v14, v13, v12, _⟩ := hV
  obtain ⟨A18, c18, e18, f18⟩ : Rows _ _ _ (f 6) W := v18
  replace hh := hJ.hp
  refine aN (a4 (aa v19 (aa e18 (aa v17 (aa v16 (aa v15 (aa v14 (aa v13 (aa v12 aM))))))))) ?_
  dsimp only [ca]
  clear e18 hJ
  refine ep [_,_] ?_
  refine bG hh (de s (sN (bN a + bN b)) _ hsz) rfl ?_
  intro w21 hh
  refine bE hh 0 [_,_] ?_
  intro ws hh
  replace hh : Hp _ (.blk _ _ [_, _] _ :: _) _ := hh
  refine ae (ao (az ?_))
  refine gI (aG rfl (aH (vs := [_, _]) aC.out (hh.au (i := 0) (n := 2) rfl rfl) rfl) a7) ?_
  exact ⟨rfl, hh.below⟩
 ·by_cases hle : bN b ≤ bN a
  ·have e1 : iv s (sN (bN a - bN b)) = iv s a + iv t b := by unfold iv; rw [eD]; cases s <;> cases t <;> simp at hst ⊢ <;> omega
   have hsz : (sN (bN a - bN b)).size ≤ 1000000000 := by rw [gN]; have := kt (show bN a - bN b ≤ bN a by omega); omega
   rw [← e1]
   refine ak (N := 49) (l := [.agg #[.bool s, .string a], .agg #[.bool t, .string b]]) Tryz.func185 rfl rfl (by simp) ?_
   refine sr ?_
   refine cK hh [_,_] ?_
   intro b2 w2 hh
   refine cK hh [_,_] ?_
   intro b3 w3 hh
   refine cv hh ?_
   intro b4 w4 hh
   refine ae (ah (sr (bC ?_)))
   refine bH hh 2 ?_
   refine bC ?_
   refine bH hh 1 ?_
   first | refine kJ aF.out rfl rfl (by first | rfl | assumption) (by decide) ?_ | refine kI aF.out rfl rfl (by first | rfl | assumption | decide) (by decide) ?_ | refine s_eql_bool aF.out rfl rfl (by decide) ?_
   refine ae (cF (aj (ai (sr (bC ?_)))))
   refine bH hh 2 ?_
   refine bC ?_
   refine bH hh 1 ?_
   refine bG hh (lj a b _ (by omega) (by omega)) rfl ?_
   intro w27 hh
   rw [decide_eq_true hle]
   refine mT ?_
   refine dp ?_
   refine dp ?_
   refine aS (aB (ae (ah (sr (mB (ae (cT (sr (bC ?_)))))))))
   refine bH hh 2 ?_
   refine mS ?_
   refine ep [_,_] ?_
   refine bG hh (de s (sN (bN a - bN b)) _ hsz) rfl ?_
   intro w35 hh
   refine bE hh 0 [_,_] ?_
   intro ws hh
   replace hh : Hp _ (.blk _ _ [_, _] _ :: _) _ := hh
   refine ae (ao (az ?_))
   refine gI (aG rfl (aH (vs := [_, _]) aC.out (hh.au (i := 0) (n := 2) rfl rfl) rfl) a7) ?_
   exact ⟨rfl, hh.below⟩
  ·have e1 : iv t (sN (bN b - bN a)) = iv s a + iv t b := by unfold iv; rw [eD]; cases s <;> cases t <;> simp at hst ⊢ <;> omega
   have hsz : (sN (bN b - bN a)).size ≤ 1000000000 := by rw [gN]; have := kt (show bN b - bN a ≤ bN b by omega); omega
   rw [← e1]
   refine ak (N := 49) (l := [.agg #[.bool s, .string a], .agg #[.bool t, .string b]]) Tryz.func185 rfl rfl (by simp) ?_
   refine sr ?_
   refine cK hh [_,_] ?_
   intro b2 w2 hh
   refine cK hh [_,_] ?_
   intro b3 w3 hh
   refine cv hh ?_
   intro b4 w4 hh
   refine ae (ah (sr (bC ?_)))
   refine bH hh 2 ?_
   refine bC ?_
   refine bH hh 1 ?_
   first | refine kJ aF.out rfl rfl (by first | rfl | assumption) (by decide) ?_ | refine kI aF.out rfl rfl (by first | rfl | assumption | decide) (by decide) ?_ | refine s_eql_bool aF.out rfl rfl (by decide) ?_
   refine ae (cF (aj (ai (sr (bC ?_)))))
   refine bH hh 2 ?_
   refine bC ?_
   refine bH hh 1 ?_
   refine bG hh (lj a b _ (by omega) (by omega)) rfl ?_
   intro w27 hh
   rw [decide_eq_false hle]
   refine mT ?_
   refine dp ?_
   refine dp ?_
   refine aS (aB (ae (ah (sr (mB (ae (cF (aj (ai (sr (bC ?_)))))))))))
   refine bH hh 1 ?_
   refine bC ?_
   refine bH hh 2 ?_
   refine bG hh (lj b a _ (by omega) (by omega)) rfl ?_
   intro w41 hh
   refine mT ?_
   refine dp ?_
   refine dp ?_
   refine aS (ae (sr (bC ?_)))
   refine bH hh 1 ?_
   refine mS ?_
   refine ep [_,_] ?_
   refine bG hh (de t (sN (bN b - bN a)) _ hsz) rfl ?_
   intro w48 hh
   refine bE hh 0 [_,_] ?_
   intro ws hh
   replace hh : Hp _ (.blk _ _ [_, _] _ :: _) _ := hh
   refine ae (ao ?_)
   refine gI (aG rfl (aH (vs := [_, _]) aC.out (hh.au (i := 0) (n := 2) rfl rfl) rfl) a7) ?_
   exact ⟨rfl, hh.below⟩
theorem qU (s t : Bool) (a b : ByteArray) (w : World) (ha : a.size ≤ 100000000) (hb : b.size ≤ 100000000) :
  Calls Tryz.prog 184 #[.agg #[.bool s, .string a], .agg #[.bool t, .string b]] w fun e w' => e = .returned (.agg #[.bool (iN (iv s a * iv t b)), .string (iM (iv s a * iv t b))]) ∧ Below w.heap.size w w' := by
 have hh := Hp.start w
 have hba := eJ a
 have hbb := eJ b
 have e0 : (iv s a * iv t b).natAbs = bN a * bN b := by rw [Int.natAbs_mul, gJ, gJ]
 have e1 : iM (iv s a * iv t b) = sN (bN a * bN b) := by rw [iM, e0]
 have e2 : iv (s != t) (sN (bN a * bN b)) = iv s a * iv t b := by rw [← e1, tI]
 have hsz : (sN (bN a * bN b)).size ≤ 1000000000 := by rw [gN]; have := sW (bN a) (bN b); omega
 rw [← e2]
 refine ak (N := 17) (l := [.agg #[.bool s, .string a], .agg #[.bool t, .string b]]) Tryz.func184 rfl rfl (by simp) ?_
 refine sr ?_
 refine cK hh [_,_] ?_
 intro b2 w2 hh
 refine cK hh [_,_] ?_
 intro b3 w3 hh
 refine cv hh ?_
 intro b4 w4 hh
 refine ae (ah ?_)
 refine aX 10 [[(2, none)], [(5, some 0)], [(3, none)], [(7, some 2)], [(6, some 1), (8, some 3)], [(2, none)], [(10, some 5)], [(3, none)], [(12, some 7)], [(11, some 6), (13, some 8)]] [(9, 14), (8, 13), (7, 12), (6, 11), (5, 10), (4, 9), (3, 8), (2, 7), (1, 6), (0, 5)] hh mixed (by kernel_rfl) ?_
 refine cD ?_
 refine dF 2 ?_
 refine cD ?_
 refine dF 1 ?_
 first | refine bq (i := 4) (fun ρ1 w1 hj hR => rn aF.out (show ρ1 6 = Value.bool _ from hR.1) (show ρ1 8 = Value.bool _ from hR.2.1) (by first | rfl | assumption)) ?_ | refine bq (i := 4) (fun ρ1 w1 hj hR => rz aF.out (show ρ1 6 = Value.bool _ from hR.1) (show ρ1 8 = Value.bool _ from hR.2.1) (by first | assumption | decide)) ?_ | refine bq (i := 4) (fun ρ1 w1 hj hR => jx aF.out (show ρ1 6 = Value.bool _ from hR.1) (show ρ1 8 = Value.bool _ from hR.2.1)) ?_
 refine cD ?_
 refine dF 2 ?_
 refine cD ?_
 refine dF 1 ?_
 refine dC (fun _ hj => uf a b _ (by omega) (by omega)) ?_
 refine a0 ?_
 intro f W hJ hV
 have hb_1 := hJ.bl
 obtain ⟨v14, v13, v12, v11, v10, v9, v8, v7, v6, v5, _⟩ := hV
 replace hh := hJ.hp
 refine aN (a4 (aa v14 (aa v13 (aa v12 (aa v11 (aa v10 (aa v9 (aa v8 (aa v7 (aa v6 (aa v5 aM))))))))))) ?_
 dsimp only [ca]
 clear hJ
 refine ep [_,_] ?_
 refine bG hh (de (s != t) (sN (bN a * bN b)) _ hsz) rfl ?_
 intro w16 hh
 refine bE hh 0 [_,_] ?_
 intro ws hh
 replace hh : Hp _ (.blk _ _ [_, _] _ :: _) _ := hh
 refine ae (ao ?_)
 refine gI (aG rfl (aH (vs := [_, _]) aC.out (hh.au (i := 0) (n := 2) rfl rfl) rfl) a7) ?_
 exact ⟨rfl, hh.below⟩
theorem uO (s : Bool) (a : ByteArray) (k : Nat) (w : World) (ha : a.size ≤ 100000000) (hk : k ≤ 1000000000) :
  Calls Tryz.prog 186 #[.agg #[.bool s, .string a], .int .i64 (k : Int)] w fun e w' => e = .returned (.agg #[.bool (iN (iv s a * 2 ^ k)), .string (iM (iv s a * 2 ^ k))]) ∧ Below w.heap.size w w' := by
 have hh := Hp.start w
 have hba := eJ a
 have e2 : iv s (sN (bN a * 2 ^ k)) = iv s a * 2 ^ k := by unfold iv; rw [eD]; split <;> simp [Int.neg_mul]
 have hsz : (sN (bN a * 2 ^ k)).size ≤ 1000000000 := by rw [gN]; have := gy (bN a) k; omega
 rw [← e2]
 refine ak (N := 43) (l := [.agg #[.bool s, .string a], .int .i64 (k : Int)]) Tryz.func186 rfl rfl (by simp) ?_
 refine sr ?_
 refine cK hh [_,_] ?_
 intro b2 w2 hh
 refine cv hh ?_
 intro b4 w4 hh
 refine ae (ah (sr (mI ?_)))
 refine dn (ae (cT (ah ?_)))
 refine aX 6 [[(2, none)], [(12, some 0)], [(2, none)], [(14, some 2)], [(1, none)], [(15, some 3), (16, some 4)]] [(5, 17), (4, 16), (3, 15), (2, 14), (1, 13), (0, 12)] hh mixed (by kernel_rfl) ?_
 refine cD ?_
 refine dF 1 ?_
 refine cD ?_
 refine dF 1 ?_
 refine eb ?_
 refine dC (fun _ hj => uE a k _ (by omega) (by omega)) ?_
 refine a0 ?_
 intro f W hJ hV
 have hb_2 := hJ.bl
 obtain ⟨v17, v16, v15, v14, v13, v12, _⟩ := hV
 replace hh := hJ.hp
 refine aN (a4 (aa v17 (aa v16 (aa v15 (aa v14 (aa v13 (aa v12 aM))))))) ?_
 dsimp only [ca]
 clear hJ
 refine ep [_,_] ?_
 refine bG hh (de s (sN (bN a * 2 ^ k)) _ hsz) rfl ?_
 intro w19 hh
 refine bE hh 0 [_,_] ?_
 intro ws hh
 replace hh : Hp _ (.blk _ _ [_, _] _ :: _) _ := hh
 refine ae (ao (az ?_))
 refine gI (aG rfl (aH (vs := [_, _]) aC.out (hh.au (i := 0) (n := 2) rfl rfl) rfl) a7) ?_
 exact ⟨rfl, hh.below⟩
theorem k9 (z : Int) (B : Nat) (q r : Int) (h : r + B * q = z) (h0 : 0 ≤ r) (h1 : r < B) : z / B = q ∧ z % B = r :=
 (Int.ediv_emod_unique (by omega)).2 ⟨h, h0, h1⟩
theorem uW (s : Bool) (a b : ByteArray) (w : World) (ha : a.size ≤ 10000000) (hb : b.size ≤ 10000000) (hb0 : bN b ≠ 0) :
  Calls Tryz.prog 233 #[.agg #[.bool s, .string a], .agg #[.bool false, .string b]] w fun e w' => e = .returned (.tuple #[.agg #[.bool (iN (iv s a / bN b)), .string (iM (iv s a / bN b))], .agg #[.bool (iN (iv s a % bN b)), .string (iM (iv s a % bN b))], .bool true]) ∧ Below w.heap.size w w' := by
 have hh := Hp.start w
 have hba := eJ a
 have hbb := eJ b
 have hmod : bN a % bN b < bN b := Nat.mod_lt _ (by omega)
 have hdm : bN b * (bN a / bN b) + bN a % bN b = bN a := Nat.div_add_mod _ _
 have hdm' : (bN b : Int) * ((bN a / bN b : Nat) : Int) + ((bN a % bN b : Nat) : Int) = (bN a : Int) := by rw [← Int.natCast_mul, ← Int.natCast_add, hdm]
 have hqs : (sN (bN a / bN b)).size ≤ 10000000 := by rw [gN]; have := kt (Nat.div_le_self (bN a) (bN b)); omega
 have hrs : (sN (bN a % bN b)).size ≤ 10000000 := by rw [gN]; have := kt (show bN a % bN b ≤ bN b by omega); omega
 have hqz : ∀ u, (iM (iv u (sN (bN a / bN b)))).size ≤ 10000000 := fun u => by rw [vA, eD]; exact hqs
 have hrz : ∀ u, (iM (iv u (sN (bN a % bN b)))).size ≤ 10000000 := fun u => by rw [vA, eD]; exact hrs
 by_cases hneg : s = true ∧ bN a % bN b ≠ 0
 ·obtain ⟨rfl, hne⟩ := hneg
  have e1 : iv true (sN (bN a / bN b)) = -((bN a / bN b : Nat) : Int) := by unfold iv; rw [eD, if_pos rfl]
  have e2 : iv true (sN (bN a % bN b)) = -((bN a % bN b : Nat) : Int) := by unfold iv; rw [eD, if_pos rfl]
  have hlt : (iv true (sN (bN a % bN b))).sign < 0 := by rw [e2, Int.sign_eq_neg_one_of_neg (by omega)]; omega
  have e3 : iv true a = -(bN a : Int) := by unfold iv; rw [if_pos rfl]
  obtain ⟨q1, q2⟩ := k9 (iv true a) (bN b) (-((bN a / bN b : Nat) : Int) + -1) ((bN b : Int) - ((bN a % bN b : Nat) : Int)) (by rw [e3, ← hdm', Int.mul_add, Int.mul_neg]; omega) (by omega) (by omega)
  have e4 : iv false b = (bN b : Int) := by unfold iv; rw [if_neg (by simp)]
  have hp2 : (bN b : Int).sign = 1 := Int.sign_eq_one_of_pos (by omega)
  refine ak (N := 57) (l := [.agg #[.bool true, .string a], .agg #[.bool false, .string b]]) Tryz.func233 rfl rfl (by simp) ?_
  refine sr ?_
  refine cK hh [_,_] ?_
  intro b2 w2 hh
  refine cK hh [_,_] ?_
  intro b3 w3 hh
  refine cv hh ?_
  intro b4 w4 hh
  refine cv hh ?_
  intro b5 w5 hh
  refine aB (ae (sr (bC ?_)))
  refine bH hh 3 ?_
  refine bC ?_
  refine bH hh 2 ?_
  refine bG hh (lb a b _ (by omega) (by omega) hb0) rfl ?_
  intro w18 hh
  refine mT ?_
  refine dp ?_
  refine dp ?_
  refine dp ?_
  refine aS (aS (aB (ae (ah (sr (mB ?_))))))
  refine fi ?_
  refine ae (cF (aj (ai (sr (bC ?_)))))
  refine bH hh 3 ?_
  refine bC ?_
  refine bH hh 2 ?_
  first | refine qR aF.out rfl rfl (by first | rfl | assumption) (by decide) ?_ | refine rY aF.out rfl rfl (by first | assumption | decide) (by decide) ?_ | refine s_neq_bool aF.out rfl rfl (by decide) ?_
  refine mS ?_
  refine ep [_,_] ?_
  refine bG hh (de true (sN (bN a / bN b)) _ (by omega)) rfl ?_
  intro w33 hh
  refine cv hh ?_
  intro b10 w10 hh
  refine bE hh 0 [_,_] ?_
  intro ws hh
  replace hh : Hp _ (.blk _ _ [_, _] _ :: _) _ := hh
  refine ae (sr (bC ?_))
  refine bH hh 4 ?_
  refine mS ?_
  refine ep [_,_] ?_
  refine bG hh (de true (sN (bN a % bN b)) _ (by omega)) rfl ?_
  intro w38 hh
  refine cv hh ?_
  intro b11 w11 hh
  refine bE hh 0 [_,_] ?_
  intro ws hh
  replace hh : Hp _ (.blk _ _ [_, _] _ :: _) _ := hh
  refine ae (ah (sr ?_))
  refine dh hh 0 [_,_] ?_
  refine bG hh (gZ (iN (iv true (sN (bN a % bN b)))) (iM (iv true (sN (bN a % bN b)))) _ (by have := hrz true; omega)) rfl ?_
  intro w40 hh
  rw [fC]
  refine aU (ae (cT (sr ?_)))
  refine dh hh 0 [_,_] (bC ?_)
  refine bH hh 4 ?_
  refine ep [_,_] ?_
  refine bG hh (kp (iN (iv true (sN (bN a % bN b)))) false (iM (iv true (sN (bN a % bN b)))) b _ (by have := hrz true; omega) (by omega)) rfl ?_
  intro w46 hh
  rw [fC, e2, e4, show -((bN a % bN b : Nat) : Int) + (bN b : Int) = (bN b : Int) - ((bN a % bN b : Nat) : Int) by omega, ← q2]
  refine bE hh 0 [_,_] ?_
  intro ws hh
  replace hh : Hp _ (.blk _ _ [_, _] _ :: _) _ := hh
  refine ae (sr ?_)
  refine bG hh (mU (-1) _ (by omega) (by omega)) rfl ?_
  intro w47 hh
  refine cv hh ?_
  intro b12 w12 hh
  refine bE hh 0 [_,_] ?_
  intro ws hh
  replace hh : Hp _ (.blk _ _ [_, _] _ :: _) _ := hh
  refine ae (ah (sr ?_))
  refine dh hh 5 [_,_] ?_
  refine bG hh (gZ false b _ (by omega)) rfl ?_
  intro w49 hh
  rw [e4, hp2]
  refine aU (ae (cF (aj (ai (aq ?_)))))
  refine dh hh 2 [_,_] ?_
  refine dh hh 0 [_,_] ?_
  refine bG hh (kp (iN (iv true (sN (bN a / bN b)))) (iN (-1)) (iM (iv true (sN (bN a / bN b)))) (iM (-1)) _ (by have := hqz true; omega) (by decide)) rfl ?_
  intro w54 hh
  rw [fC, fC, e1, ← q1]
  refine bE hh 2 [_,_] ?_
  intro ws hh
  replace hh : Hp _ (_ :: _ :: .blk _ _ [_, _] _ :: _) _ := hh
  refine ae (ah ?_)
  refine jA hh mixed fun w_ hj_ => ?_
  replace hh := hj_.hp
  clear hj_
  refine k6 (i := 0) (i2 := 1) (by kernel_rfl) rfl rfl ?_ ?_
  ·refine dh hh 2 [_,_] ?_
   refine cS ?_
   refine k6 (i := 1) (i2 := 2) (by kernel_rfl) rfl rfl ?_ ?_
   ·refine dh hh 1 [_,_] ?_
    refine cS ?_
    refine dA (i := 2) (by kernel_rfl) rfl ?_
    refine bE hh 4 [_,_] ?_
    intro ws hh
    replace hh : Hp _ (_ :: _ :: _ :: _ :: .blk _ _ [_, _] _ :: _) _ := hh
    refine cS ?_
    refine dO 3 (by decide) (by kernel_rfl) (by decide) (by kernel_rfl) (by kernel_rfl) ?_
    refine bE hh 3 [_,_] ?_
    intro ws hh
    replace hh : Hp _ (_ :: _ :: _ :: .blk _ _ [_, _] _ :: _) _ := hh
    refine aB (ae (ao ?_))
    refine ze (aG rfl (aH (vs := [_, _]) aC.out (hh.au (i := 4) (n := 2) rfl rfl) rfl) (aG rfl (aH (vs := [_, _]) aC.out (hh.au (i := 3) (n := 2) rfl rfl) rfl) (bS (fO rfl) a7))) ?_
    exact ⟨rfl, hh.below⟩
   ·refine bE hh 4 [_,_] ?_
    intro ws hh
    replace hh : Hp _ (_ :: _ :: _ :: _ :: .blk _ _ [_, _] _ :: _) _ := hh
    refine cS ?_
    refine dA (i := 1) (by kernel_rfl) rfl ?_
    refine dh hh 1 [_,_] ?_
    refine cS ?_
    refine dO 3 (by decide) (by kernel_rfl) (by decide) (by kernel_rfl) (by kernel_rfl) ?_
    refine bE hh 3 [_,_] ?_
    intro ws hh
    replace hh : Hp _ (_ :: _ :: _ :: .blk _ _ [_, _] _ :: _) _ := hh
    refine aB (ae (ao ?_))
    refine ze (aG rfl (aH (vs := [_, _]) aC.out (hh.au (i := 4) (n := 2) rfl rfl) rfl) (aG rfl (aH (vs := [_, _]) aC.out (hh.au (i := 3) (n := 2) rfl rfl) rfl) (bS (fO rfl) a7))) ?_
    exact ⟨rfl, hh.below⟩
  ·refine dh hh 1 [_,_] ?_
   refine cS ?_
   refine dA (i := 0) (by kernel_rfl) rfl ?_
   refine dh hh 2 [_,_] ?_
   refine cS ?_
   refine dA (i := 2) (by kernel_rfl) rfl ?_
   refine bE hh 4 [_,_] ?_
   intro ws hh
   replace hh : Hp _ (_ :: _ :: _ :: _ :: .blk _ _ [_, _] _ :: _) _ := hh
   refine cS ?_
   refine dO 3 (by decide) (by kernel_rfl) (by decide) (by kernel_rfl) (by kernel_rfl) ?_
   refine bE hh 3 [_,_] ?_
   intro ws hh
   replace hh : Hp _ (_ :: _ :: _ :: .blk _ _ [_, _] _ :: _) _ := hh
   refine aB (ae (ao ?_))
   refine ze (aG rfl (aH (vs := [_, _]) aC.out (hh.au (i := 4) (n := 2) rfl rfl) rfl) (aG rfl (aH (vs := [_, _]) aC.out (hh.au (i := 3) (n := 2) rfl rfl) rfl) (bS (fO rfl) a7))) ?_
   exact ⟨rfl, hh.below⟩
 ·have e4 : iv s a / bN b = iv s (sN (bN a / bN b)) ∧ iv s a % bN b = iv s (sN (bN a % bN b)) := by
   cases s with
   | false =>
    have f0 : ∀ x, iv false x = (bN x : Int) := fun x => by unfold iv; rw [if_neg (by simp)]
    rw [f0, f0, f0, eD, eD]
    exact k9 _ _ _ _ (by omega) (by omega) (by omega)
   | true =>
    have r0 : bN a % bN b = 0 := by
     rcases Nat.eq_zero_or_pos (bN a % bN b) with h | h
     ·exact h
     ·exact absurd ⟨rfl, by omega⟩ hneg
    have f0 : ∀ x, iv true x = -(bN x : Int) := fun x => by unfold iv; rw [if_pos rfl]
    rw [f0, f0, f0, eD, eD, r0]
    rw [r0] at hdm'
    exact k9 _ _ _ _ (by rw [Int.mul_neg]; omega) (by omega) (by omega)
  have h5 : ¬ (iv s (sN (bN a % bN b))).sign < 0 := by
   have h6 : 0 ≤ iv s (sN (bN a % bN b)) := by rw [← e4.2]; exact Int.emod_nonneg _ (by omega)
   have := Int.sign_nonneg_iff.2 h6
   omega
  rw [e4.1, e4.2]
  cases s with
  | false =>
   refine ak (N := 57) (l := [.agg #[.bool false, .string a], .agg #[.bool false, .string b]]) Tryz.func233 rfl rfl (by simp) ?_
   refine sr ?_
   refine cK hh [_,_] ?_
   intro b2 w2 hh
   refine cK hh [_,_] ?_
   intro b3 w3 hh
   refine cv hh ?_
   intro b4 w4 hh
   refine cv hh ?_
   intro b5 w5 hh
   refine aB (ae (sr (bC ?_)))
   refine bH hh 3 ?_
   refine bC ?_
   refine bH hh 2 ?_
   refine bG hh (lb a b _ (by omega) (by omega) hb0) rfl ?_
   intro w18 hh
   refine mT ?_
   refine dp ?_
   refine dp ?_
   refine dp ?_
   refine aS (aS (aB (ae (ah (sr (mB ?_))))))
   refine fi ?_
   refine ae (cF (aj (ai (sr (bC ?_)))))
   refine bH hh 3 ?_
   refine bC ?_
   refine bH hh 2 ?_
   first | refine qR aF.out rfl rfl (by first | rfl | assumption) (by decide) ?_ | refine rY aF.out rfl rfl (by first | assumption | decide) (by decide) ?_ | refine s_neq_bool aF.out rfl rfl (by decide) ?_
   refine mS ?_
   refine ep [_,_] ?_
   refine bG hh (de false (sN (bN a / bN b)) _ (by omega)) rfl ?_
   intro w33 hh
   refine cv hh ?_
   intro b10 w10 hh
   refine bE hh 0 [_,_] ?_
   intro ws hh
   replace hh : Hp _ (.blk _ _ [_, _] _ :: _) _ := hh
   refine ae (sr (bC ?_))
   refine bH hh 4 ?_
   refine mS ?_
   refine ep [_,_] ?_
   refine bG hh (de false (sN (bN a % bN b)) _ (by omega)) rfl ?_
   intro w38 hh
   refine cv hh ?_
   intro b11 w11 hh
   refine bE hh 0 [_,_] ?_
   intro ws hh
   replace hh : Hp _ (.blk _ _ [_, _] _ :: _) _ := hh
   refine ae (ah (sr ?_))
   refine dh hh 0 [_,_] ?_
   refine bG hh (gZ (iN (iv false (sN (bN a % bN b)))) (iM (iv false (sN (bN a % bN b)))) _ (by have := hrz false; omega)) rfl ?_
   intro w40 hh
   rw [fC]
   refine aU (ae (cF (aj (ai (ah ?_)))))
   refine jA hh mixed fun w_ hj_ => ?_
   replace hh := hj_.hp
   clear hj_
   refine k6 (i := 0) (i2 := 1) (by kernel_rfl) rfl rfl ?_ ?_
   ·refine dh hh 1 [_,_] ?_
    refine cS ?_
    refine k6 (i := 1) (i2 := 2) (by kernel_rfl) rfl rfl ?_ ?_
    ·refine dh hh 0 [_,_] ?_
     refine cS ?_
     refine dA (i := 2) (by kernel_rfl) rfl ?_
     refine bE hh 3 [_,_] ?_
     intro ws hh
     replace hh : Hp _ (_ :: _ :: _ :: .blk _ _ [_, _] _ :: _) _ := hh
     refine cS ?_
     refine dO 3 (by decide) (by kernel_rfl) (by decide) (by kernel_rfl) (by kernel_rfl) ?_
     refine bE hh 2 [_,_] ?_
     intro ws hh
     replace hh : Hp _ (_ :: _ :: .blk _ _ [_, _] _ :: _) _ := hh
     refine aB (ae (ao ?_))
     refine ze (aG rfl (aH (vs := [_, _]) aC.out (hh.au (i := 3) (n := 2) rfl rfl) rfl) (aG rfl (aH (vs := [_, _]) aC.out (hh.au (i := 2) (n := 2) rfl rfl) rfl) (bS (fO rfl) a7))) ?_
     exact ⟨rfl, hh.below⟩
    ·refine bE hh 3 [_,_] ?_
     intro ws hh
     replace hh : Hp _ (_ :: _ :: _ :: .blk _ _ [_, _] _ :: _) _ := hh
     refine cS ?_
     refine dA (i := 1) (by kernel_rfl) rfl ?_
     refine dh hh 0 [_,_] ?_
     refine cS ?_
     refine dO 3 (by decide) (by kernel_rfl) (by decide) (by kernel_rfl) (by kernel_rfl) ?_
     refine bE hh 2 [_,_] ?_
     intro ws hh
     replace hh : Hp _ (_ :: _ :: .blk _ _ [_, _] _ :: _) _ := hh
     refine aB (ae (ao ?_))
     refine ze (aG rfl (aH (vs := [_, _]) aC.out (hh.au (i := 3) (n := 2) rfl rfl) rfl) (aG rfl (aH (vs := [_, _]) aC.out (hh.au (i := 2) (n := 2) rfl rfl) rfl) (bS (fO rfl) a7))) ?_
     exact ⟨rfl, hh.below⟩
   ·refine dh hh 0 [_,_] ?_
    refine cS ?_
    refine dA (i := 0) (by kernel_rfl) rfl ?_
    refine dh hh 1 [_,_] ?_
    refine cS ?_
    refine dA (i := 2) (by kernel_rfl) rfl ?_
    refine bE hh 3 [_,_] ?_
    intro ws hh
    replace hh : Hp _ (_ :: _ :: _ :: .blk _ _ [_, _] _ :: _) _ := hh
    refine cS ?_
    refine dO 3 (by decide) (by kernel_rfl) (by decide) (by kernel_rfl) (by kernel_rfl) ?_
    refine bE hh 2 [_,_] ?_
    intro ws hh
    replace hh : Hp _ (_ :: _ :: .blk _ _ [_, _] _ :: _) _ := hh
    refine aB (ae (ao ?_))
    refine ze (aG rfl (aH (vs := [_, _]) aC.out (hh.au (i := 3) (n := 2) rfl rfl) rfl) (aG rfl (aH (vs := [_, _]) aC.out (hh.au (i := 2) (n := 2) rfl rfl) rfl) (bS (fO rfl) a7))) ?_
    exact ⟨rfl, hh.below⟩
  | true =>
   refine ak (N := 57) (l := [.agg #[.bool true, .string a], .agg #[.bool false, .string b]]) Tryz.func233 rfl rfl (by simp) ?_
   refine sr ?_
   refine cK hh [_,_] ?_
   intro b2 w2 hh
   refine cK hh [_,_] ?_
   intro b3 w3 hh
   refine cv hh ?_
   intro b4 w4 hh
   refine cv hh ?_
   intro b5 w5 hh
   refine aB (ae (sr (bC ?_)))
   refine bH hh 3 ?_
   refine bC ?_
   refine bH hh 2 ?_
   refine bG hh (lb a b _ (by omega) (by omega) hb0) rfl ?_
   intro w18 hh
   refine mT ?_
   refine dp ?_
   refine dp ?_
   refine dp ?_
   refine aS (aS (aB (ae (ah (sr (mB ?_))))))
   refine fi ?_
   refine ae (cF (aj (ai (sr (bC ?_)))))
   refine bH hh 3 ?_
   refine bC ?_
   refine bH hh 2 ?_
   first | refine qR aF.out rfl rfl (by first | rfl | assumption) (by decide) ?_ | refine rY aF.out rfl rfl (by first | assumption | decide) (by decide) ?_ | refine s_neq_bool aF.out rfl rfl (by decide) ?_
   refine mS ?_
   refine ep [_,_] ?_
   refine bG hh (de true (sN (bN a / bN b)) _ (by omega)) rfl ?_
   intro w33 hh
   refine cv hh ?_
   intro b10 w10 hh
   refine bE hh 0 [_,_] ?_
   intro ws hh
   replace hh : Hp _ (.blk _ _ [_, _] _ :: _) _ := hh
   refine ae (sr (bC ?_))
   refine bH hh 4 ?_
   refine mS ?_
   refine ep [_,_] ?_
   refine bG hh (de true (sN (bN a % bN b)) _ (by omega)) rfl ?_
   intro w38 hh
   refine cv hh ?_
   intro b11 w11 hh
   refine bE hh 0 [_,_] ?_
   intro ws hh
   replace hh : Hp _ (.blk _ _ [_, _] _ :: _) _ := hh
   refine ae (ah (sr ?_))
   refine dh hh 0 [_,_] ?_
   refine bG hh (gZ (iN (iv true (sN (bN a % bN b)))) (iM (iv true (sN (bN a % bN b)))) _ (by have := hrz true; omega)) rfl ?_
   intro w40 hh
   rw [fC]
   refine aU (ae (cF (aj (ai (ah ?_)))))
   refine jA hh mixed fun w_ hj_ => ?_
   replace hh := hj_.hp
   clear hj_
   refine k6 (i := 0) (i2 := 1) (by kernel_rfl) rfl rfl ?_ ?_
   ·refine dh hh 1 [_,_] ?_
    refine cS ?_
    refine k6 (i := 1) (i2 := 2) (by kernel_rfl) rfl rfl ?_ ?_
    ·refine dh hh 0 [_,_] ?_
     refine cS ?_
     refine dA (i := 2) (by kernel_rfl) rfl ?_
     refine bE hh 3 [_,_] ?_
     intro ws hh
     replace hh : Hp _ (_ :: _ :: _ :: .blk _ _ [_, _] _ :: _) _ := hh
     refine cS ?_
     refine dO 3 (by decide) (by kernel_rfl) (by decide) (by kernel_rfl) (by kernel_rfl) ?_
     refine bE hh 2 [_,_] ?_
     intro ws hh
     replace hh : Hp _ (_ :: _ :: .blk _ _ [_, _] _ :: _) _ := hh
     refine aB (ae (ao ?_))
     refine ze (aG rfl (aH (vs := [_, _]) aC.out (hh.au (i := 3) (n := 2) rfl rfl) rfl) (aG rfl (aH (vs := [_, _]) aC.out (hh.au (i := 2) (n := 2) rfl rfl) rfl) (bS (fO rfl) a7))) ?_
     exact ⟨rfl, hh.below⟩
    ·refine bE hh 3 [_,_] ?_
     intro ws hh
     replace hh : Hp _ (_ :: _ :: _ :: .blk _ _ [_, _] _ :: _) _ := hh
     refine cS ?_
     refine dA (i := 1) (by kernel_rfl) rfl ?_
     refine dh hh 0 [_,_] ?_
     refine cS ?_
     refine dO 3 (by decide) (by kernel_rfl) (by decide) (by kernel_rfl) (by kernel_rfl) ?_
     refine bE hh 2 [_,_] ?_
     intro ws hh
     replace hh : Hp _ (_ :: _ :: .blk _ _ [_, _] _ :: _) _ := hh
     refine aB (ae (ao ?_))
     refine ze (aG rfl (aH (vs := [_, _]) aC.out (hh.au (i := 3) (n := 2) rfl rfl) rfl) (aG rfl (aH (vs := [_, _]) aC.out (hh.au (i := 2) (n := 2) rfl rfl) rfl) (bS (fO rfl) a7))) ?_
     exact ⟨rfl, hh.below⟩
   ·refine dh hh 0 [_,_] ?_
    refine cS ?_
    refine dA (i := 0) (by kernel_rfl) rfl ?_
    refine dh hh 1 [_,_] ?_
    refine cS ?_
    refine dA (i := 2) (by kernel_rfl) rfl ?_
    refine bE hh 3 [_,_] ?_
    intro ws hh
    replace hh : Hp _ (_ :: _ :: _ :: .blk _ _ [_, _] _ :: _) _ := hh
    refine cS ?_
    refine dO 3 (by decide) (by kernel_rfl) (by decide) (by kernel_rfl) (by kernel_rfl) ?_
    refine bE hh 2 [_,_] ?_
    intro ws hh
    replace hh : Hp _ (_ :: _ :: .blk _ _ [_, _] _ :: _) _ := hh
    refine aB (ae (ao ?_))
    refine ze (aG rfl (aH (vs := [_, _]) aC.out (hh.au (i := 3) (n := 2) rfl rfl) rfl) (aG rfl (aH (vs := [_, _]) aC.out (hh.au (i := 2) (n := 2) rfl rfl) rfl) (bS (fO rfl) a7))) ?_
    exact ⟨rfl, hh.below⟩
end Go.Proofs.YtaapkaefelhfcaaGreatDoor
/- Several texts in one: RDyA, RDyB, RDyC. -/
namespace Go.Proofs.YtaapkaefelhfcaaGreatDoor
open Go.RowKit
theorem wv {n : Nat} (h : n ≠ 0) : sb n = sb (n / 256) ++ [UInt8.ofNat (n % 256)] := by
 rw [sb, xo (by omega) h, List.map_cons, List.reverse_cons]
 rfl
theorem vL {n : Nat} (h : n ≠ 0) : 1 ≤ (sN n).size ∧ ∃ c : UInt8, (sN n).data.toList[(((sN n).size : Int) - 1).toNat]? = some c ∧ c.toNat = n % 256 := by
 have hl : (sN n).data.toList = sb (n / 256) ++ [UInt8.ofNat (n % 256)] := by rw [sN, dm, wv h]
 have hs : (sN n).size = (sb (n / 256)).length + 1 := by rw [cw, hl, List.length_append]; rfl
 refine ⟨by omega, UInt8.ofNat (n % 256), ?_, ?_⟩
 ·rw [hl, hs, List.getElem?_append_right (by omega)]
  have : (((sb (n / 256)).length + 1 : Nat) - 1 : Int).toNat - (sb (n / 256)).length = 0 := by omega
  rw [this]
  rfl
 ·simp
theorem Bc {n : Nat} (h : n ≠ 0) : (sN n).extract 0 ((sN n).size - 1) = sN (n / 256) := by
 have hl : (sN n).data = (sb (n / 256) ++ [UInt8.ofNat (n % 256)]).toArray := by rw [sN, ← wv h]; rfl
 have hs : (sN n).size = (sb (n / 256)).length + 1 := by rw [cw, hl, List.length_append]; rfl
 apply ByteArray.ext
 rw [ByteArray.data_extract, hl, hs]
 show _ = (sb (n / 256)).toArray
 simp
theorem Bh {k : Int} (h : 0 < k) (y : Int) : iN (y * k) = iN y := by
 unfold iN
 rw [decide_eq_decide]
 constructor
 ·intro h1
  rcases Int.lt_trichotomy y 0 with h2 | h2 | h2
  ·exact h2
  ·rw [h2] at h1; simp at h1
  ·have := Int.mul_pos h2 h; omega
 ·intro h1
  exact Int.mul_neg_of_neg_of_pos h1 h
theorem Bg {n : Nat} (h : n % 2 = 1) : tz n = 0 := by
 have := vn 0 (n / 2)
 rwa [show 2 ^ 0 * (2 * (n / 2) + 1) = n by omega] at this
theorem yB {y z e : Int} {j : Nat} (hy : y.natAbs % 2 = 1) (hz : y * 2 ^ j = z) : nR (Dyadic.ofIntWithPrec z (-e)) = ⟨iN y, iM y, e + j⟩ := by
 have h1 := mJ (s := iN y) (a := iM y) (e := e + j) (by rw [fC]; omega)
 rw [fC, iM, eD, Bg hy] at h1
 have h2 := mv y (-(e + j)) j
 rw [hz, show -(e + (j : Int)) + j = -e by omega] at h2
 rw [h2, h1]
 simp
theorem nN {y z : Int} {j m : Nat} (hy : y ≠ 0) (hz : y * 2 ^ j = z) (hm : z.natAbs < 2 ^ m) : j < m := by
 have h1 : z.natAbs = y.natAbs * 2 ^ j := by rw [← hz, Int.natAbs_mul, Int.natAbs_pow]; rfl
 have h2 : 1 * 2 ^ j ≤ y.natAbs * 2 ^ j := Nat.mul_le_mul_right _ (by omega)
 have h3 : 2 ^ j < 2 ^ m := by omega
 exact (Nat.pow_lt_pow_iff_right (by omega)).1 h3
theorem m8 (s : Bool) (a : ByteArray) (e : Int) (w : World) (ha : a.size ≤ 10000000) (h1 : -1000000000000 ≤ e) (h2 : e ≤ 1000000000000) :
  Calls Tryz.prog 183 #[.agg #[.bool s, .string a], .int .i64 e] w fun r w' => r = .returned (.agg #[.bool (nR (Dyadic.ofIntWithPrec (iv s a) (-e))).neg, .string (nR (Dyadic.ofIntWithPrec (iv s a) (-e))).bJ, .int .i64 (nR (Dyadic.ofIntWithPrec (iv s a) (-e))).e]) ∧ Below w.heap.size w w' := by
 have hh := Hp.start w
 by_cases h0 : iv s a = 0
 ·have hm := nE.2 h0
  rw [h0] at hm
  refine ak (N := 50) (l := [.agg #[.bool s, .string a], .int .i64 e]) Tryz.func183 rfl rfl (by simp) ?_
  refine sr ?_
  refine cK hh [_,_] ?_
  intro b2 w2 hh
  refine cv hh ?_
  intro b4 w4 hh
  refine ae (sr ?_)
  refine dh hh 1 [_,_] ?_
  refine bG hh (de s a _ (by omega)) rfl ?_
  intro w6 hh
  rw [h0]
  refine bE hh 1 [_,_] ?_
  intro ws hh
  replace hh : Hp _ (_ :: .blk _ _ [_, _] _ :: _) _ := hh
  refine ae (ah (sr (bC ?_)))
  refine bH hh 1 ?_
  first | refine dD rfl rfl (by first | rfl | assumption | decide) (by decide) ?_ | refine dy rfl rfl (by first | assumption | decide) (by decide) ?_
  refine ae (cT (sr ?_))
  refine ep [_,_,_] ?_
  refine bE hh 0 [_,_,_] ?_
  intro ws hh
  replace hh : Hp _ (.blk _ _ [_, _, _] _ :: _) _ := hh
  refine ae (ao (az ?_))
  refine gI (aG rfl (aH (vs := [_, _, _]) aC.out (hh.au (i := 0) (n := 3) rfl rfl) rfl) a7) ?_
  rw [ke, l3]
  exact ⟨rfl, hh.below⟩
 ·have hm : ¬ iM (iv s a) = ByteArray.mk #[] := fun h => h0 (nE.1 h)
  have hzb : (iv s a).natAbs < 2 ^ (8 * a.size) := by
   rw [gJ, Nat.pow_mul]
   exact qt a
  refine ak (N := 50) (l := [.agg #[.bool s, .string a], .int .i64 e]) Tryz.func183 rfl rfl (by simp) ?_
  refine sr ?_
  refine cK hh [_,_] ?_
  intro b2 w2 hh
  refine cv hh ?_
  intro b4 w4 hh
  refine ae (sr ?_)
  refine dh hh 1 [_,_] ?_
  refine bG hh (de s a _ (by omega)) rfl ?_
  intro w6 hh
  refine bE hh 1 [_,_] ?_
  intro ws hh
  replace hh : Hp _ (_ :: .blk _ _ [_, _] _ :: _) _ := hh
  refine ae (ah (sr (bC ?_)))
  refine bH hh 1 ?_
  first | refine dD rfl rfl (by first | rfl | assumption | decide) (by decide) ?_ | refine dy rfl rfl (by first | assumption | decide) (by decide) ?_
  refine ae (cF (aj (ai (ah (al ?_)))))
  generalize hz : iv s a = z at *
  refine bs [1, 11, 12, 13, 14, 15, 16, 17, 18, 19, 20, 21, 22, 23, 24, 25, 26, 27, 28] 1
   (fun v w' => ∃ (y : Int) (j : Nat), y ≠ 0 ∧ y * 2 ^ j = z ∧ v = .int .i64 (e + j) ∧ Hp w [.blk b4 29 [.bool false, .string (ByteArray.mk #[]), .int .i64 0] (0, 0), .blk b2 27 [.bool (iN y), .string (iM y)] (0, 0)] w')
   (fun v _ => (e + 8 * a.size + 1 - intOf v).toNat) ?_ ?_
  ·exact ⟨z, 0, h0, by simp, by show Value.int _ _ = Value.int _ _; congr 1; omega, hh⟩
  ·clear hh
   rintro ρ' v w' ⟨y, j, hy, hyz, rfl, hh⟩
   have hj := nN hy hyz hzb
   obtain ⟨hs1, c, hc, hcn⟩ := vL (n := y.natAbs) (by omega)
   have hcut := Bc (n := y.natAbs) (by omega)
   have hsz : (sN y.natAbs).size ≤ 10000000 := by
    have h1 : z.natAbs = y.natAbs * 2 ^ j := by rw [← hyz, Int.natAbs_mul, Int.natAbs_pow]; rfl
    have h2 : y.natAbs * 1 ≤ y.natAbs * 2 ^ j := Nat.mul_le_mul_left _ (Nat.pow_pos (by omega))
    have h3 : bM y.natAbs ≤ 8 * a.size := du (by omega)
    rw [gN]
    omega
   change (iM y).data.toList[(((iM y).size : Int) - 1).toNat]? = some c at hc
   change 1 ≤ (iM y).size at hs1
   change (iM y).extract 0 ((iM y).size - 1) = _ at hcut
   change (iM y).size ≤ _ at hsz
   by_cases hb : y.natAbs % 256 = 0
   ·obtain ⟨x, rfl⟩ : ∃ x, y = x * 256 := ⟨y / 256, by omega⟩
    have hx : x ≠ 0 := fun h => hy (by rw [h]; rfl)
    have e1 : iN (x * 256) = iN x := Bh (by omega) x
    have e2 : sN ((x * 256).natAbs / 256) = iM x := by rw [iM]; congr 1; omega
    have hxz : x * 2 ^ (j + 8) = z := by rw [← hyz, Int.pow_add, Int.mul_assoc, Int.mul_comm (2 ^ j)]; rfl
    have hj2 := nN hx hxz hzb
    refine ah (sr (bC ?_))
    refine bH hh 1 ?_
    refine bC ?_
    refine bH hh 1 ?_
    refine bg aF.out rfl (by decide) ?_
    refine eB ?_
    refine bo aF.out rfl rfl (by omega) (by assumption) (by decide) ?_
    refine ck (ae (cT (aj (ai (al (sr (bC ?_)))))))
    refine bH hh 1 ?_
    refine bC ?_
    refine bH hh 1 ?_
    refine bg aF.out rfl (by decide) ?_
    refine eB ?_
    refine nu (l := 0) (h := ((iM (x * 256)).size - 1)) aF.out rfl rfl ⟨_, _, rfl, by omega⟩ (by omega) (by omega) (by decide) ?_
    refine bC ?_
    refine bE hh 1 [_] ?_
    intro ws hh
    replace hh : Hp _ (_ :: .blk _ _ [_, _] _ :: _) _ := hh
    refine ae (aq (mI ?_))
    refine bL (aI (aE (aW (ai ?_))))
    rw [hcut, e2, e1] at hh
    refine ⟨⟨x, j + 8, hx, hxz, by show Value.int _ _ = Value.int _ _; congr 1; omega, hh⟩, by show (e + 8 * a.size + 1 - (e + j + 8)).toNat < (e + 8 * a.size + 1 - (e + j)).toNat; omega, ?_⟩
    (repeat (first | exact aw _ _ _ | refine ax rfl ?_ | refine ar rfl ?_))
   ·refine ah (sr (bC ?_))
    refine bH hh 1 ?_
    refine bC ?_
    refine bH hh 1 ?_
    refine bg aF.out rfl (by decide) ?_
    refine eB ?_
    refine bo aF.out rfl rfl (by omega) (by assumption) (by decide) ?_
    refine ck (ae (cF ?_))
    refine aP ?_
    refine ay (ay (a6 (ai (ah (al ?_)))))
    refine bs [1, 29, 30, 31, 32, 33, 34, 35, 36, 37, 38, 39, 40, 41, 42, 43, 44, 45, 46] 1
     (fun v w' => ∃ (y : Int) (j : Nat), y ≠ 0 ∧ y * 2 ^ j = z ∧ v = .int .i64 (e + j) ∧ Hp w [.blk b4 29 [.bool false, .string (ByteArray.mk #[]), .int .i64 0] (0, 0), .blk b2 27 [.bool (iN y), .string (iM y)] (0, 0)] w')
     (fun v _ => (e + 8 * a.size + 1 - intOf v).toNat) ?_ ?_
    ·exact ⟨y, j, hy, hyz, rfl, hh⟩
    ·clear hh hb hcut hcn hc hs1 hsz hj hy hyz
     rintro ρ2 v w2 ⟨y, j, hy, hyz, rfl, hh⟩
     have hj := nN hy hyz hzb
     obtain ⟨hs1, c, hc, hcn⟩ := vL (n := y.natAbs) (by omega)
     have hsz : (sN y.natAbs).size ≤ 10000000 := by
      have h1 : z.natAbs = y.natAbs * 2 ^ j := by rw [← hyz, Int.natAbs_mul, Int.natAbs_pow]; rfl
      have h2 : y.natAbs * 1 ≤ y.natAbs * 2 ^ j := Nat.mul_le_mul_left _ (Nat.pow_pos (by omega))
      have h3 : bM y.natAbs ≤ 8 * a.size := du (by omega)
      rw [gN]
      omega
     change (iM y).data.toList[(((iM y).size : Int) - 1).toNat]? = some c at hc
     change 1 ≤ (iM y).size at hs1
     change (iM y).size ≤ _ at hsz
     by_cases hb : y.natAbs % 2 = 0
     ·obtain ⟨x, rfl⟩ : ∃ x, y = x * 2 := ⟨y / 2, by omega⟩
      have hx : x ≠ 0 := fun h => hy (by rw [h]; rfl)
      have hxz : x * 2 ^ (j + 1) = z := by rw [← hyz, Int.pow_add, Int.mul_assoc, Int.mul_comm (2 ^ j)]; rfl
      have hj2 := nN hx hxz hzb
      have hof : ∀ w1, Calls Tryz.prog 189 #[.int .i64 2] w1 fun e w' => e = .returned (.agg #[.bool false, .string (iM 2)]) ∧ Below w1.heap.size w1 w' := fun w1 => mU 2 w1 (by omega) (by omega)
      have hdv : ∀ w1, Calls Tryz.prog 233 #[.agg #[.bool (iN (x * 2)), .string (iM (x * 2))], .agg #[.bool false, .string (iM 2)]] w1 fun e w' => e = .returned (.tuple #[.agg #[.bool (iN x), .string (iM x)], .agg #[.bool (iN 0), .string (iM 0)], .bool true]) ∧ Below w1.heap.size w1 w' := fun w1 => by
       have h2 : bN (iM 2) = 2 := eD 2
       have h3 : (iM 2).size ≤ 10000000 := by rw [dP]; decide
       have := uW (iN (x * 2)) (iM (x * 2)) (iM 2) w1 hsz h3 (by omega)
       rw [fC, h2, show x * 2 / ((2 : Nat) : Int) = x by omega, show x * 2 % ((2 : Nat) : Int) = 0 by omega] at this
       exact this
      refine ah (sr (bC ?_))
      refine bH hh 1 ?_
      refine bC ?_
      refine bH hh 1 ?_
      refine bg aF.out rfl (by decide) ?_
      refine eB ?_
      refine bo aF.out rfl rfl (by omega) (by assumption) (by decide) ?_
      refine uv (b := 2) rfl rfl (by omega) (by decide) ?_
      refine ck (ae (cT (aj (ai (al (ah ?_))))))
      refine cq [] [5, 6] [0, 0, 3, 7, 15, 15, 15, 31] 7 [[(2, none)], [], [(39, some 0), (40, some 1)], [(41, some 2)], [(38, some 3)], [(38, some 3)], [(38, some 3)]] [(6, 44), (5, 43), (4, 42), (3, 38), (2, 41), (1, 40), (0, 39)] hh mixed (by kernel_rfl) cG rfl (by repeat (first | exact bX | refine bA ?_ | refine bV ?_)) ?_
      refine ef 1 [_,_] ?_
      refine dC (fun _ hj => hof _) ?_
      refine dC (fun _ hj => hdv _) ?_
      refine B0 ?_
      refine yj ?_
      refine yj ?_
      refine yj ?_
      refine a0 ?_
      intro f W hJ hV _
      have hb_8 := hJ.bl
      obtain ⟨v44, v43, v42, v38, v41, v40, v39, _⟩ := hV
      replace hh := hJ.hp
      refine aN (a4 (aa v44 (aa v43 (aa v42 (aa v38 (aa v41 (aa v40 (aa v39 aM)))))))) ?_
      dsimp only [ca]
      clear hJ
      refine bE hh 1 [_,_] ?_
      intro ws hh
      replace hh : Hp _ (_ :: .blk _ _ [_, _] _ :: _) _ := hh
      refine ae (aq (mI ?_))
      refine bL (aI (aE (aW (ai ?_))))
      refine ⟨⟨x, j + 1, hx, hxz, by show Value.int _ _ = Value.int _ _; congr 1; omega, hh⟩, by show (e + 8 * a.size + 1 - (e + j + 1)).toNat < (e + 8 * a.size + 1 - (e + j)).toNat; omega, ?_⟩
      (repeat (first | exact aw _ _ _ | refine ax rfl ?_ | refine ar rfl ?_))
     ·have hfin := yB (e := e) (show y.natAbs % 2 = 1 by omega) hyz
      refine ah (sr (bC ?_))
      refine bH hh 1 ?_
      refine bC ?_
      refine bH hh 1 ?_
      refine bg aF.out rfl (by decide) ?_
      refine eB ?_
      refine bo aF.out rfl rfl (by omega) (by assumption) (by decide) ?_
      refine uv (b := 2) rfl rfl (by omega) (by decide) ?_
      refine ck (ae (cF ?_))
      refine aP ?_
      refine ay (ay (a6 (ai (sr ?_))))
      refine dh hh 1 [_,_] (mI ?_)
      refine ep [_,_,_] ?_
      refine bE hh 0 [_,_,_] ?_
      intro ws hh
      replace hh : Hp _ (.blk _ _ [_, _, _] _ :: _) _ := hh
      refine ae (ao ?_)
      refine gI (aG rfl (aH (vs := [_, _, _]) aC.out (hh.au (i := 0) (n := 3) rfl rfl) rfl) a7) ?_
      rw [hfin]
      exact ⟨rfl, hh.below⟩
theorem om {z e : Int} {x : Dyadic} (w : World) (hx : Dyadic.ofIntWithPrec z (-e) = x) (hz : (iM z).size ≤ 10000000) (h1 : -1000000000000 ≤ e) (h2 : e ≤ 1000000000000) :
  Calls Tryz.prog 183 #[.agg #[.bool (iN z), .string (iM z)], .int .i64 e] w fun r w' => r = .returned (.agg #[.bool (nR x).neg, .string (nR x).bJ, .int .i64 (nR x).e]) ∧ Below w.heap.size w w' := by
 have := m8 (iN z) (iM z) e w hz h1 h2
 rw [fC, hx] at this
 exact this
theorem xl (n : Int) (w : World) (h1 : -9223372036854775808 ≤ n) (h2 : n ≤ 9223372036854775807) :
  Calls Tryz.prog 93 #[.int .i64 n] w fun r w' => r = .returned (.agg #[.bool (nR (n : Dyadic)).neg, .string (nR (n : Dyadic)).bJ, .int .i64 (nR (n : Dyadic)).e]) ∧ Below w.heap.size w w' := by
 have hh := Hp.start w
 have hsz : (iM n).size ≤ 10000000 := by
  rw [dP]
  have : bM n.natAbs ≤ 64 := du (by omega)
  omega
 have hc := fun w1 => om (z := n) (e := 0) (x := (n : Dyadic)) w1 rfl hsz (by omega) (by omega)
 refine ak (N := 6) (l := [.int .i64 n]) Tryz.func93 rfl rfl (by simp) ?_
 refine sr ?_
 refine cv hh ?_
 intro b2 w2 hh
 refine ae (sr (mI ?_))
 refine bG hh (mU n _ h1 h2) rfl ?_
 intro w4 hh
 refine bG hh (hc _) rfl ?_
 intro w5 hh
 refine bE hh 0 [_,_,_] ?_
 intro ws hh
 replace hh : Hp _ (.blk _ _ [_, _, _] _ :: _) _ := hh
 refine ae (ao ?_)
 refine gI (aG rfl (aH (vs := [_, _, _]) aC.out (hh.au (i := 0) (n := 3) rfl rfl) rfl) a7) ?_
 exact ⟨rfl, hh.below⟩
theorem dR (a : NR) (w : World) (ha : a.bJ.size ≤ 10000000) (h1 : -1000000000000 ≤ a.e) (h2 : a.e ≤ 1000000000000) :
  Calls Tryz.prog 160 #[.agg #[.bool a.neg, .string a.bJ, .int .i64 a.e]] w fun r w' => r = .returned (.agg #[.bool (nR a.d).neg, .string (nR a.d).bJ, .int .i64 (nR a.d).e]) ∧ Below w.heap.size w w' := by
 have hh := Hp.start w
 refine ak (N := 8) (l := [.agg #[.bool a.neg, .string a.bJ, .int .i64 a.e]]) Tryz.func160 rfl rfl (by simp) ?_
 refine sr ?_
 refine cK hh [_,_,_] ?_
 intro b1 w1 hh
 refine cv hh ?_
 intro b2 w2 hh
 refine ae (sr (bC ?_))
 refine dh hh 1 [_,_] (bC ?_)
 refine bH hh 1 ?_
 refine bG hh (m8 a.neg a.bJ a.e _ ha h1 h2) rfl ?_
 intro w7 hh
 refine bE hh 0 [_,_,_] ?_
 intro ws hh
 replace hh : Hp _ (.blk _ _ [_, _, _] _ :: _) _ := hh
 refine ae (ao ?_)
 refine gI (aG rfl (aH (vs := [_, _, _]) aC.out (hh.au (i := 0) (n := 3) rfl rfl) rfl) a7) ?_
 exact ⟨rfl, hh.below⟩
theorem ej (a : NR) (w : World) (ha : a.bJ.size ≤ 10000000) :
  Calls Tryz.prog 182 #[.agg #[.bool a.neg, .string a.bJ, .int .i64 a.e]] w fun r w' => r = .returned (.int .i64 a.i.sign) ∧ Below w.heap.size w w' := by
 have hh := Hp.start w
 refine ak (N := 6) (l := [.agg #[.bool a.neg, .string a.bJ, .int .i64 a.e]]) Tryz.func182 rfl rfl (by simp) ?_
 refine sr ?_
 refine cK hh [_,_,_] ?_
 intro b1 w1 hh
 refine aI (ae (sr (bC ?_)))
 refine dh hh 0 [_,_] ?_
 refine bG hh (gZ a.neg a.bJ _ (by omega)) rfl ?_
 intro w5 hh
 refine aI (ae (ao ?_))
 refine cA ?_
 exact ⟨rfl, hh.below⟩
theorem CH (x : Dyadic) : Dyadic.ofIntWithPrec (nR x).i (-(nR x).e) = x := dX x
theorem rF (a b : NR) (w : World) (ha : a.bJ.size ≤ 4000000) (hb : b.bJ.size ≤ 4000000) (h1 : -100000000000 ≤ a.e) (h2 : a.e ≤ 100000000000) (h3 : -100000000000 ≤ b.e) (h4 : b.e ≤ 100000000000) :
  Calls Tryz.prog 88 #[.agg #[.bool a.neg, .string a.bJ, .int .i64 a.e], .agg #[.bool b.neg, .string b.bJ, .int .i64 b.e]] w fun r w' => r = .returned (.agg #[.bool (nR (a.d * b.d)).neg, .string (nR (a.d * b.d)).bJ, .int .i64 (nR (a.d * b.d)).e]) ∧ Below w.heap.size w w' := by
 have hh := Hp.start w
 have e2 : Dyadic.ofIntWithPrec (iv a.neg a.bJ * iv b.neg b.bJ) (-(a.e + b.e)) = a.d * b.d := by
  rw [Int.neg_add]
  exact (q9 _ _ _ _).symm
 have hb1 := ig a.neg a.bJ
 have hb2 := ig b.neg b.bJ
 have hb3 := jw (iv a.neg a.bJ) (iv b.neg b.bJ)
 have hc := fun w1 => om (z := iv a.neg a.bJ * iv b.neg b.bJ) (e := a.e + b.e) w1 e2 (by rw [dP]; omega) (by omega) (by omega)
 refine ak (N := 16) (l := [.agg #[.bool a.neg, .string a.bJ, .int .i64 a.e], .agg #[.bool b.neg, .string b.bJ, .int .i64 b.e]]) Tryz.func88 rfl rfl (by simp) ?_
 refine sr ?_
 refine cK hh [_,_,_] ?_
 intro b2 w2 hh
 refine cK hh [_,_,_] ?_
 intro b3 w3 hh
 refine cv hh ?_
 intro b4 w4 hh
 refine ae (ah ?_)
 refine aX 10 [[(2, none)], [(5, some 0)], [(3, none)], [(7, some 2)], [(6, some 1), (8, some 3)], [(2, none)], [(10, some 5)], [(3, none)], [(12, some 7)], [(11, some 6), (13, some 8)]] [(9, 14), (8, 13), (7, 12), (6, 11), (5, 10), (4, 9), (3, 8), (2, 7), (1, 6), (0, 5)] hh mixed (by kernel_rfl) ?_
 refine cD ?_
 refine ef 2 [_,_] ?_
 refine cD ?_
 refine ef 1 [_,_] ?_
 refine dC (fun _ hj => qU a.neg b.neg a.bJ b.bJ _ (by omega) (by omega)) ?_
 refine cD ?_
 refine dF 2 ?_
 refine cD ?_
 refine dF 1 ?_
 refine uB ?_
 refine a0 ?_
 intro f W hJ hV
 have hb_1 := hJ.bl
 obtain ⟨v14, v13, v12, v11, v10, v9, v8, v7, v6, v5, _⟩ := hV
 replace hh := hJ.hp
 refine aN (a4 (aa v14 (aa v13 (aa v12 (aa v11 (aa v10 (aa v9 (aa v8 (aa v7 (aa v6 (aa v5 aM))))))))))) ?_
 dsimp only [ca]
 clear hJ
 refine bG hh (hc _) rfl ?_
 intro w15 hh
 refine bE hh 0 [_,_,_] ?_
 intro ws hh
 replace hh : Hp _ (.blk _ _ [_, _, _] _ :: _) _ := hh
 refine ae (ao ?_)
 refine gI (aG rfl (aH (vs := [_, _, _]) aC.out (hh.au (i := 0) (n := 3) rfl rfl) rfl) a7) ?_
 exact ⟨rfl, hh.below⟩
end Go.Proofs.YtaapkaefelhfcaaGreatDoor
namespace Go.Proofs.YtaapkaefelhfcaaGreatDoor
open Go.RowKit
theorem zm {u v : NR} {k : Nat} (h : u.e = v.e + k) : Dyadic.ofIntWithPrec (u.i * 2 ^ k + v.i) (-v.e) = u.d + v.d := by
 rw [← rf]
 congr 1
 have := mv u.i (-u.e) k
 rw [show -u.e + (k : Int) = -v.e by omega] at this
 exact this
theorem oJ {u v : NR} {k : Nat} (hk : u.e = v.e + k) (hu : u.bJ.size ≤ 1000000) (hv : v.bJ.size ≤ 1000000) (hk2 : k ≤ 40000000) (h1 : -100000000000 ≤ v.e) (h2 : v.e ≤ 100000000000) :
  (∀ w, Calls Tryz.prog 186 #[.agg #[.bool u.neg, .string u.bJ], .int .i64 (u.e - v.e)] w fun e w' => e = .returned (.agg #[.bool (iN (u.i * 2 ^ k)), .string (iM (u.i * 2 ^ k))]) ∧ Below w.heap.size w w') ∧
  (∀ w, Calls Tryz.prog 185 #[.agg #[.bool (iN (u.i * 2 ^ k)), .string (iM (u.i * 2 ^ k))], .agg #[.bool v.neg, .string v.bJ]] w fun e w' => e = .returned (.agg #[.bool (iN (u.i * 2 ^ k + v.i)), .string (iM (u.i * 2 ^ k + v.i))]) ∧ Below w.heap.size w w') ∧
  ∀ w, Calls Tryz.prog 183 #[.agg #[.bool (iN (u.i * 2 ^ k + v.i)), .string (iM (u.i * 2 ^ k + v.i))], .int .i64 v.e] w fun r w' => r = .returned (.agg #[.bool (nR (u.d + v.d)).neg, .string (nR (u.d + v.d)).bJ, .int .i64 (nR (u.d + v.d)).e]) ∧ Below w.heap.size w w' := by
 have hb1 : bM (u.i * 2 ^ k).natAbs ≤ 8000000 + k := by
  rw [Int.natAbs_mul, Int.natAbs_pow]
  have := gy u.i.natAbs k
  have h3 := ig u.neg u.bJ
  unfold NR.i at this ⊢
  exact Nat.le_trans this (by omega)
 have hb2 := ig v.neg v.bJ
 have hb3 := jz (u.i * 2 ^ k) v.i
 refine ⟨fun w => ?_, fun w => ?_, fun w => ?_⟩
 ·rw [show u.e - v.e = k by omega]
  exact uO u.neg u.bJ k w (by omega) (by omega)
 ·have := kp (iN (u.i * 2 ^ k)) v.neg (iM (u.i * 2 ^ k)) v.bJ w (by rw [dP]; omega) (by omega)
  rw [fC] at this
  exact this
 ·exact om w (zm hk) (by rw [dP]; unfold NR.i at hb1 hb3 ⊢; omega) (by omega) (by omega)
theorem ta (a b : NR) (w : World) (ha : a.ok) (hb : b.ok) :
  Calls Tryz.prog 89 #[.agg #[.bool a.neg, .string a.bJ, .int .i64 a.e], .agg #[.bool b.neg, .string b.bJ, .int .i64 b.e]] w fun r w' => r = .returned (.agg #[.bool (nR (a.d + b.d)).neg, .string (nR (a.d + b.d)).bJ, .int .i64 (nR (a.d + b.d)).e]) ∧ Below w.heap.size w w' := by
 have hh := Hp.start w
 obtain ⟨ha1, ha2, ha3⟩ := ha
 obtain ⟨hb1, hb2, hb3⟩ := hb
 obtain ⟨_, fa1, fa2, fa3⟩ := js (a := a) ⟨ha1, ha2, ha3⟩
 obtain ⟨_, fb1, fb2, fb3⟩ := js (a := b) ⟨hb1, hb2, hb3⟩
 have hsg : ∀ x : Dyadic, (nR x).i.sign = 0 ↔ x = 0 := fun x => by
  rw [Int.sign_eq_zero_iff_zero]
  constructor
  ·intro h; rw [← CH x, h, ke]
  ·intro h; rw [h]; rfl
 by_cases h0 : a.d = 0
 ·have hs0 := (hsg a.d).2 h0
  refine ak (N := 38) (l := [.agg #[.bool a.neg, .string a.bJ, .int .i64 a.e], .agg #[.bool b.neg, .string b.bJ, .int .i64 b.e]]) Tryz.func89 rfl rfl (by simp) ?_
  refine sr ?_
  refine cK hh [_,_,_] ?_
  intro b2 w2 hh
  refine cK hh [_,_,_] ?_
  intro b3 w3 hh
  refine cv hh ?_
  intro b4 w4 hh
  refine ae (ah ?_)
  refine aX 3 [[(2, none)], [(5, some 0)], [(3, none)]] [(2, 7), (1, 6), (0, 5)] hh mixed (by kernel_rfl) ?_
  refine ef 2 [_,_,_] ?_
  refine dC (fun _ hj => dR a _ (by omega) (by omega) (by omega)) ?_
  refine ef 1 [_,_,_] ?_
  refine a0 ?_
  intro f W hJ hV
  have hb_1 := hJ.bl
  obtain ⟨v7, v6, v5, _⟩ := hV
  replace hh := hJ.hp
  refine aN (a4 (aa v7 (aa v6 (aa v5 aM)))) ?_
  dsimp only [ca]
  clear hJ
  refine bG hh (dR b _ (by omega) (by omega) (by omega)) rfl ?_
  intro w8 hh
  refine bE hh 2 [_,_,_] ?_
  intro ws hh
  replace hh : Hp _ (_ :: _ :: .blk _ _ [_, _, _] _ :: _) _ := hh
  refine bE hh 1 [_,_,_] ?_
  intro ws hh
  replace hh : Hp _ (_ :: .blk _ _ [_, _, _] _ :: _) _ := hh
  refine ae (ah (sr ?_))
  refine dh hh 2 [_,_,_] ?_
  refine bG hh (ej (nR a.d) _ (by omega)) rfl ?_
  intro w10 hh
  refine ck (ae (cT (sr ?_)))
  refine dh hh 1 [_,_,_] ?_
  refine bE hh 0 [_,_,_] ?_
  intro ws hh
  replace hh : Hp _ (.blk _ _ [_, _, _] _ :: _) _ := hh
  refine ae (ao (az ?_))
  refine gI (aG rfl (aH (vs := [_, _, _]) aC.out (hh.au (i := 0) (n := 3) rfl rfl) rfl) a7) ?_
  rw [h0, Dyadic.zero_add]
  exact ⟨rfl, hh.below⟩
 ·have hs0 : ¬ (nR a.d).i.sign = 0 := fun h => h0 ((hsg a.d).1 h)
  by_cases h1 : b.d = 0
  ·have hs1 := (hsg b.d).2 h1
   refine ak (N := 38) (l := [.agg #[.bool a.neg, .string a.bJ, .int .i64 a.e], .agg #[.bool b.neg, .string b.bJ, .int .i64 b.e]]) Tryz.func89 rfl rfl (by simp) ?_
   refine sr ?_
   refine cK hh [_,_,_] ?_
   intro b2 w2 hh
   refine cK hh [_,_,_] ?_
   intro b3 w3 hh
   refine cv hh ?_
   intro b4 w4 hh
   refine ae (ah ?_)
   refine aX 3 [[(2, none)], [(5, some 0)], [(3, none)]] [(2, 7), (1, 6), (0, 5)] hh mixed (by kernel_rfl) ?_
   refine ef 2 [_,_,_] ?_
   refine dC (fun _ hj => dR a _ (by omega) (by omega) (by omega)) ?_
   refine ef 1 [_,_,_] ?_
   refine a0 ?_
   intro f W hJ hV
   have hb_1 := hJ.bl
   obtain ⟨v7, v6, v5, _⟩ := hV
   replace hh := hJ.hp
   refine aN (a4 (aa v7 (aa v6 (aa v5 aM)))) ?_
   dsimp only [ca]
   clear hJ
   refine bG hh (dR b _ (by omega) (by omega) (by omega)) rfl ?_
   intro w8 hh
   refine bE hh 2 [_,_,_] ?_
   intro ws hh
   replace hh : Hp _ (_ :: _ :: .blk _ _ [_, _, _] _ :: _) _ := hh
   refine bE hh 1 [_,_,_] ?_
   intro ws hh
   replace hh : Hp _ (_ :: .blk _ _ [_, _, _] _ :: _) _ := hh
   refine ae (ah (sr ?_))
   refine dh hh 2 [_,_,_] ?_
   refine bG hh (ej (nR a.d) _ (by omega)) rfl ?_
   intro w10 hh
   refine ck (ae (cF (aj (ai (ah (sr ?_))))))
   refine dh hh 1 [_,_,_] ?_
   refine bG hh (ej (nR b.d) _ (by omega)) rfl ?_
   intro w14 hh
   refine ck (ae (cT (sr ?_)))
   refine dh hh 2 [_,_,_] ?_
   refine bE hh 0 [_,_,_] ?_
   intro ws hh
   replace hh : Hp _ (.blk _ _ [_, _, _] _ :: _) _ := hh
   refine ae (ao (az ?_))
   refine gI (aG rfl (aH (vs := [_, _, _]) aC.out (hh.au (i := 0) (n := 3) rfl rfl) rfl) a7) ?_
   rw [h1, Dyadic.add_zero]
   exact ⟨rfl, hh.below⟩
  ·have hs1 : ¬ (nR b.d).i.sign = 0 := fun h => h1 ((hsg b.d).1 h)
   by_cases hlt : (nR a.d).e < (nR b.d).e
   ·obtain ⟨k, hk⟩ : ∃ k : Nat, (nR b.d).e = (nR a.d).e + k := ⟨((nR b.d).e - (nR a.d).e).toNat, by omega⟩
    obtain ⟨hshl, hpl, hmk⟩ := oJ hk fb1 fa1 (by omega) (by omega) (by omega)
    rw [dX, dX, Dyadic.add_comm] at hmk
    refine ak (N := 38) (l := [.agg #[.bool a.neg, .string a.bJ, .int .i64 a.e], .agg #[.bool b.neg, .string b.bJ, .int .i64 b.e]]) Tryz.func89 rfl rfl (by simp) ?_
    refine sr ?_
    refine cK hh [_,_,_] ?_
    intro b2 w2 hh
    refine cK hh [_,_,_] ?_
    intro b3 w3 hh
    refine cv hh ?_
    intro b4 w4 hh
    refine ae (ah ?_)
    refine aX 3 [[(2, none)], [(5, some 0)], [(3, none)]] [(2, 7), (1, 6), (0, 5)] hh mixed (by kernel_rfl) ?_
    refine ef 2 [_,_,_] ?_
    refine dC (fun _ hj => dR a _ (by omega) (by omega) (by omega)) ?_
    refine ef 1 [_,_,_] ?_
    refine a0 ?_
    intro f W hJ hV
    have hb_1 := hJ.bl
    obtain ⟨v7, v6, v5, _⟩ := hV
    replace hh := hJ.hp
    refine aN (a4 (aa v7 (aa v6 (aa v5 aM)))) ?_
    dsimp only [ca]
    clear hJ
    refine bG hh (dR b _ (by omega) (by omega) (by omega)) rfl ?_
    intro w8 hh
    refine bE hh 2 [_,_,_] ?_
    intro ws hh
    replace hh : Hp _ (_ :: _ :: .blk _ _ [_, _, _] _ :: _) _ := hh
    refine bE hh 1 [_,_,_] ?_
    intro ws hh
    replace hh : Hp _ (_ :: .blk _ _ [_, _, _] _ :: _) _ := hh
    refine ae (ah (sr ?_))
    refine dh hh 2 [_,_,_] ?_
    refine bG hh (ej (nR a.d) _ (by omega)) rfl ?_
    intro w10 hh
    refine ck (ae (cF (aj (ai (ah (sr ?_))))))
    refine dh hh 1 [_,_,_] ?_
    refine bG hh (ej (nR b.d) _ (by omega)) rfl ?_
    intro w14 hh
    refine ck (ae (cF (aj (ai (ah (sr (bC ?_)))))))
    refine bH hh 2 ?_
    refine bC ?_
    refine bH hh 1 ?_
    refine aU (ae (cT (aq ?_)))
    refine dh hh 1 [_,_,_] ?_
    refine dh hh 2 [_,_,_] ?_
    refine bE hh 2 [_,_,_] ?_
    intro ws hh
    replace hh : Hp _ (_ :: _ :: .blk _ _ [_, _, _] _ :: _) _ := hh
    refine bE hh 1 [_,_,_] ?_
    intro ws hh
    replace hh : Hp _ (_ :: .blk _ _ [_, _, _] _ :: _) _ := hh
    refine ae (ah ?_)
    refine aX 13 [[(2, none)], [(24, some 0)], [(2, none)], [(26, some 2)], [(3, none)], [(28, some 4)], [(27, some 3), (29, some 5)], [(25, some 1), (30, some 6)], [(3, none)], [(32, some 8)], [(31, some 7), (33, some 9)], [(3, none)], [(35, some 11)]] [(12, 36), (11, 35), (10, 34), (9, 33), (8, 32), (7, 31), (6, 30), (5, 29), (4, 28), (3, 27), (2, 26), (1, 25), (0, 24)] hh mixed (by kernel_rfl) ?_
    refine cD ?_
    refine ef 2 [_,_] ?_
    refine cD ?_
    refine dF 2 ?_
    refine cD ?_
    refine dF 1 ?_
    refine jU ?_
    refine dC (fun _ hj => hshl _) ?_
    refine cD ?_
    refine ef 1 [_,_] ?_
    refine dC (fun _ hj => hpl _) ?_
    refine cD ?_
    refine dF 1 ?_
    refine a0 ?_
    intro f W hJ hV
    have hb_8 := hJ.bl
    obtain ⟨v36, v35, v34, v33, v32, v31, v30, v29, v28, v27, v26, v25, v24, _⟩ := hV
    replace hh := hJ.hp
    refine aN (a4 (aa v36 (aa v35 (aa v34 (aa v33 (aa v32 (aa v31 (aa v30 (aa v29 (aa v28 (aa v27 (aa v26 (aa v25 (aa v24 aM)))))))))))))) ?_
    dsimp only [ca]
    clear hJ
    refine bG hh (hmk _) rfl ?_
    intro w37 hh
    refine bE hh 0 [_,_,_] ?_
    intro ws hh
    replace hh : Hp _ (.blk _ _ [_, _, _] _ :: _) _ := hh
    refine ae (ao ?_)
    refine gI (aG rfl (aH (vs := [_, _, _]) aC.out (hh.au (i := 0) (n := 3) rfl rfl) rfl) a7) ?_
    exact ⟨rfl, hh.below⟩
   ·obtain ⟨k, hk⟩ : ∃ k : Nat, (nR a.d).e = (nR b.d).e + k := ⟨((nR a.d).e - (nR b.d).e).toNat, by omega⟩
    obtain ⟨hshl, hpl, hmk⟩ := oJ hk fa1 fb1 (by omega) (by omega) (by omega)
    rw [dX, dX] at hmk
    refine ak (N := 38) (l := [.agg #[.bool a.neg, .string a.bJ, .int .i64 a.e], .agg #[.bool b.neg, .string b.bJ, .int .i64 b.e]]) Tryz.func89 rfl rfl (by simp) ?_
    refine sr ?_
    refine cK hh [_,_,_] ?_
    intro b2 w2 hh
    refine cK hh [_,_,_] ?_
    intro b3 w3 hh
    refine cv hh ?_
    intro b4 w4 hh
    refine ae (ah ?_)
    refine aX 3 [[(2, none)], [(5, some 0)], [(3, none)]] [(2, 7), (1, 6), (0, 5)] hh mixed (by kernel_rfl) ?_
    refine ef 2 [_,_,_] ?_
    refine dC (fun _ hj => dR a _ (by omega) (by omega) (by omega)) ?_
    refine ef 1 [_,_,_] ?_
    refine a0 ?_
    intro f W hJ hV
    have hb_1 := hJ.bl
    obtain ⟨v7, v6, v5, _⟩ := hV
    replace hh := hJ.hp
    refine aN (a4 (aa v7 (aa v6 (aa v5 aM)))) ?_
    dsimp only [ca]
    clear hJ
    refine bG hh (dR b _ (by omega) (by omega) (by omega)) rfl ?_
    intro w8 hh
    refine bE hh 2 [_,_,_] ?_
    intro ws hh
    replace hh : Hp _ (_ :: _ :: .blk _ _ [_, _, _] _ :: _) _ := hh
    refine bE hh 1 [_,_,_] ?_
    intro ws hh
    replace hh : Hp _ (_ :: .blk _ _ [_, _, _] _ :: _) _ := hh
    refine ae (ah (sr ?_))
    refine dh hh 2 [_,_,_] ?_
    refine bG hh (ej (nR a.d) _ (by omega)) rfl ?_
    intro w10 hh
    refine ck (ae (cF (aj (ai (ah (sr ?_))))))
    refine dh hh 1 [_,_,_] ?_
    refine bG hh (ej (nR b.d) _ (by omega)) rfl ?_
    intro w14 hh
    refine ck (ae (cF (aj (ai (ah (sr (bC ?_)))))))
    refine bH hh 2 ?_
    refine bC ?_
    refine bH hh 1 ?_
    refine aU (ae (cF (aj (ai (ah ?_)))))
    refine aX 13 [[(2, none)], [(24, some 0)], [(2, none)], [(26, some 2)], [(3, none)], [(28, some 4)], [(27, some 3), (29, some 5)], [(25, some 1), (30, some 6)], [(3, none)], [(32, some 8)], [(31, some 7), (33, some 9)], [(3, none)], [(35, some 11)]] [(12, 36), (11, 35), (10, 34), (9, 33), (8, 32), (7, 31), (6, 30), (5, 29), (4, 28), (3, 27), (2, 26), (1, 25), (0, 24)] hh mixed (by kernel_rfl) ?_
    refine cD ?_
    refine ef 2 [_,_] ?_
    refine cD ?_
    refine dF 2 ?_
    refine cD ?_
    refine dF 1 ?_
    refine jU ?_
    refine dC (fun _ hj => hshl _) ?_
    refine cD ?_
    refine ef 1 [_,_] ?_
    refine dC (fun _ hj => hpl _) ?_
    refine cD ?_
    refine dF 1 ?_
    refine a0 ?_
    intro f W hJ hV
    have hb_8 := hJ.bl
    obtain ⟨v36, v35, v34, v33, v32, v31, v30, v29, v28, v27, v26, v25, v24, _⟩ := hV
    replace hh := hJ.hp
    refine aN (a4 (aa v36 (aa v35 (aa v34 (aa v33 (aa v32 (aa v31 (aa v30 (aa v29 (aa v28 (aa v27 (aa v26 (aa v25 (aa v24 aM)))))))))))))) ?_
    dsimp only [ca]
    clear hJ
    refine bG hh (hmk _) rfl ?_
    intro w37 hh
    refine bE hh 0 [_,_,_] ?_
    intro ws hh
    replace hh : Hp _ (.blk _ _ [_, _, _] _ :: _) _ := hh
    refine ae (ao ?_)
    refine gI (aG rfl (aH (vs := [_, _, _]) aC.out (hh.au (i := 0) (n := 3) rfl rfl) rfl) a7) ?_
    exact ⟨rfl, hh.below⟩
end Go.Proofs.YtaapkaefelhfcaaGreatDoor
namespace Go.Proofs.YtaapkaefelhfcaaGreatDoor
open Go.RowKit
theorem Sz.pow {k : Nat} {x : Dyadic} (h : Sz k x) (n : Nat) : Sz (1 + k * n) (x ^ n) := by
 induction n with
 | zero => rw [Dyadic.pow_zero]; exact Sz.one
 | succ n ih => rw [Dyadic.pow_succ]; exact (ih.mul h).mono (by rw [Nat.mul_succ]; omega)
end Go.Proofs.YtaapkaefelhfcaaGreatDoor
/- The walks through layer 4's laws (ogeelaw04): the package's own helpers. -/
namespace Go.Proofs.YtaapkaefelhfcaaGreatDoor
open Go.RowKit
def D (m e : Int) : Dyadic := Dyadic.ofIntWithPrec m (-e)
theorem z3 {m e : Int} (hm : m.natAbs < 256) (h1 : -16 ≤ e) (h2 : e ≤ 16) : Sz 24 (D m e) := by
 have := Sz.raw (a := ⟨iN m, iM m, e⟩) (m := 8) (E := 16) (by show 8 * (iM m).size ≤ 8; rw [dP]; have : bM m.natAbs ≤ 8 := du hm; omega) h1 h2
 rw [NR.d, NR.i, fC] at this
 exact this
def CV (most far : Int) (l : List NR) : Bool := l.any fun a => decide (most < a.bJ.size ∨ a.e < -far ∨ far < a.e)
end Go.Proofs.YtaapkaefelhfcaaGreatDoor
/- Arguments opened: dyadic numbers, rows of them; and what the listed table tells. -/
namespace Go.Proofs.YtaapkaefelhfcaaGreatDoor
open Go.ChangeShapes Go.WideShapes Go.ChangeAt Go.RowKit Go.ChangeMaps
set_option maxRecDepth 100000 in
theorem xJ {H : Type} {enc : TypeId × Value → H} {W : World} {base fuel : Nat} {sp : Nat → Bool} {held : Bool} {cs : List Value} {x : DataW H × List MemPlace} (h : DataW.trod enc Tryz.prog W base sp held fuel 29 cs = some x) :
  ∃ a : NR, cs = a.cells ∧ (Lit.int .i64 a.e).wf = true := by
 have c1 : Tryz.prog.cellsOf 29 = 3 := by kernel_rfl
 have c2 : Tryz.prog.cellsOf 27 = 2 := by kernel_rfl
 have c3 : Tryz.prog.cellsOf 4 = 1 := by kernel_rfl
 have c4 : Tryz.prog.cellsOf 9 = 1 := by kernel_rfl
 have c5 : Tryz.prog.cellsOf 3 = 1 := by kernel_rfl
 obtain ⟨y0, y1, n, _, hl, h0, h1⟩ := trod_struct2 Tryz.underlying29 h
 obtain ⟨z0, z1, n2, _, hl2, h00, h01⟩ := trod_struct2 Tryz.underlying27 h0
 obtain ⟨b, e0, _⟩ := DataW.trod_bool Tryz.underlying4 h00
 obtain ⟨s, e1, _, hs⟩ := DataW.trod_string Tryz.underlying9 h01
 obtain ⟨z, e2, _, hz⟩ := DataW.trod_int Tryz.underlying3 h1
 rw [c1] at hl
 match cs, hl with
 | [x0, x1, x2], _ =>
  simp only [c2, c3, c4, c5] at e0 e1 e2
  simp at e0 e1 e2
  subst e0 e1 e2
  exact ⟨⟨b, s, z⟩, rfl, hz⟩
theorem tu {W : World} (h : laidMetH Tryz.prog Rows.calcEvalsRow.laid W) : hG W := by
 rw [MakeChecks.laidMetH_plain _ _ _ (by kernel_rfl)] at h
 obtain ⟨ps, ⟨g, t, cs, fuel, p, q, hg, ht, hv, hd, _, _⟩, _, _⟩ := h
 obtain rfl := Option.some.inj ((show Tryz.prog.globalNamed "math/bits.deBruijn64tab" = some 0 by kernel_rfl).symm.trans hg)
 obtain rfl := Option.some.inj ((show (Tryz.prog.globals[0]?).map (·.type) = some 259 by kernel_rfl).symm.trans ht)
 obtain ⟨xs, m, _, ex, _, hl, hel⟩ := DataW.trod_array Tryz.underlying259 hd
 have c5 : Tryz.prog.cellsOf 5 = 1 := by kernel_rfl
 have e3 : (xs.map (·.1)) = u5.map fun n => .lit (.int .u8 n) := (DataW.agg.inj (Prod.mk.inj ex).1).symm
 have hlen : u5.length = 64 := by decide
 intro r u hu
 have hr : r < 64 := by
  have := (List.getElem?_eq_some_iff.1 hu).1
  rw [cH] at this
  omega
 have hE := hel r hr
 rw [c5, Nat.mul_one, List.getElem?_eq_getElem (by omega)] at hE
 obtain ⟨z, e1, e2, _⟩ := DataW.trod_int Tryz.underlying5 hE
 have e4 : (xs.map (·.1))[r]? = (u5.map fun (n : Nat) => (DataW.lit (.int .u8 n) : DataW Unit))[r]? := by rw [e3]
 rw [List.getElem?_map, List.getElem?_map, List.getElem?_eq_getElem (by omega : r < xs.length), List.getElem?_eq_getElem (by omega : r < u5.length), e2] at e4
 have hz : u = .int .u8 z := by
  rw [fy, List.getElem?_map, List.getElem?_eq_getElem (by omega : r < u5.length)] at hu
  simp only [Option.map_some, Option.some.injEq, DataW.lit.injEq, Lit.int.injEq, true_and] at e4 hu
  rw [← hu, e4]
 rw [eP, Nat.zero_add, World.var?_cell hg hv r, hz]
 have : cs.toList[r]? = some (.int .u8 z) := by
  have h0 : ((cs.toList.drop r).take 1)[0]? = some (.int .u8 z) := by rw [e1]; rfl
  simpa using h0
 simpa using this
end Go.Proofs.YtaapkaefelhfcaaGreatDoor
/- Arguments opened: slices of records. -/
namespace Go.Proofs.YtaapkaefelhfcaaGreatDoor
open Go.ChangeShapes Go.WideShapes Go.ChangeAt Go.RowKit Go.ChangeMaps
theorem oq {α : Type} {p : Nat → α → Prop} : ∀ (n : Nat), (∀ i, i < n → ∃ a, p i a) → ∃ l : List α, l.length = n ∧ ∀ i a, l[i]? = some a → p i a
 | 0, _ => ⟨[], rfl, fun i a h => by simp at h⟩
 | n + 1, h => by
  obtain ⟨l, h1, h2⟩ := oq n fun i hi => h i (by omega)
  obtain ⟨a, ha⟩ := h n (by omega)
  refine ⟨l ++ [a], by simp [h1], fun i b hb => ?_⟩
  rcases Nat.lt_or_ge i l.length with hi | hi
  ·rw [List.getElem?_append_left hi] at hb
   exact h2 i b hb
  ·rw [List.getElem?_append_right hi] at hb
   have h3 : i - l.length = 0 := by
    rcases Nat.eq_zero_or_pos (i - l.length) with h | h
    ·exact h
    ·rw [List.getElem?_eq_none (by simp; omega)] at hb; cases hb
   rw [h3] at hb
   simp only [List.getElem?_cons_zero, Option.some.injEq] at hb
   subst hb
   rw [show i = n by omega]
   exact ha
theorem xt {α : Type} {f : α → List Value} {p : α → Prop} {sz : Nat} {P : Program} {t e : TypeId} {H : Type} {enc : TypeId × Value → H} {W : World} {r : Reach} {base b0 : Nat} {sp : Nat → Bool} {held : Bool} {v : Value} {d : DataW H} {ps : List MemPlace}
  (hf : ∀ x, (f x).length = sz) (h0 : 0 < sz) (ht : P.underlying t = some (.slice e)) (hc : P.cellsOf e = sz) (one : ∀ fuel cs x, DataW.trod enc P W base sp held fuel e cs = some x → ∃ a, cs = f a ∧ p a)
  (hval : Value.okWide P W r b0 t v) (hd : DataW.Trod enc P W base sp held t v d ps) : ∃ (A : Option Addr) (n c : Nat) (l : List α), v = .slice A n c ∧ Sl W A n sz (aQ f l) ∧ ∀ a ∈ l, p a := by
 obtain ⟨a, len, cap, rfl⟩ := okWide_slice ht hval
 obtain ⟨fuel, hfu⟩ := hd
 rcases Go.Deep.open_slice ht hfu with ⟨h1, _⟩ | ⟨ad, n, cp, m, k, D, Pl, h1, _, h2, h3, hm, _, h5⟩
 ·have h1' : [Value.slice a len cap] = [.slice none 0 0] := h1
  simp only [List.cons.injEq, Value.slice.injEq, and_true] at h1'
  obtain ⟨rfl, rfl, rfl⟩ := h1'
  exact ⟨none, 0, 0, [], rfl, Sl.nil W none sz, fun _ h => by simp at h⟩
 ·have h1' : [Value.slice a len cap] = [.slice (some ad) n cp] := h1
  simp only [List.cons.injEq, Value.slice.injEq, and_true] at h1'
  obtain ⟨rfl, rfl, rfl⟩ := h1'
  have hnm : len ≤ m := by rw [hm]; split <;> omega
  obtain ⟨l, hl, hp⟩ := oq (p := fun i a => W.cells? base (ad.add (i * sz)) sz = some (f a) ∧ p a) len fun i hi => by
   obtain ⟨cs, h6, h7⟩ := h5 i (by omega)
   rw [hc] at h6
   obtain ⟨a, rfl, h8⟩ := one _ _ _ h7
   exact ⟨a, h6, h8⟩
  refine ⟨some ad, len, cap, l, rfl, ⟨by rw [iI hf, hl], fun _ => ⟨ad, rfl, fun j u hu => ?_⟩⟩, fun a ha => ?_⟩
  ·have hdm : j / sz * sz + j % sz = j := by rw [Nat.mul_comm]; exact Nat.div_add_mod j sz
   have hmod : j % sz < sz := Nat.mod_lt _ h0
   have hj : j / sz < l.length := by
    have := (List.getElem?_eq_some_iff.1 hu).1
    rw [iI hf] at this
    exact Nat.div_lt_of_lt_mul (by rw [Nat.mul_comm]; exact this)
   obtain ⟨x, hx⟩ := aD hj
   have h6 := mn hf hx
   have h7 : (f x)[j % sz]? = some u := by
    rw [← h6, List.getElem?_take, if_pos hmod, List.getElem?_drop, hdm]
    exact hu
   have h8 := (World.cells?_some (hp _ _ hx).1).2.2 (j % sz) hmod
   rw [h7, jH, hdm] at h8
   exact h8
  ·obtain ⟨i, hi⟩ := List.mem_iff_getElem?.1 ha
   exact (hp i a hi).2
end Go.Proofs.YtaapkaefelhfcaaGreatDoor
/- Arguments opened: rows of ints. -/
namespace Go.Proofs.YtaapkaefelhfcaaGreatDoor
open Go.ChangeShapes Go.WideShapes Go.ChangeAt Go.RowKit Go.ChangeMaps
def IC (z : Int) : List Value := [.int .i64 z]
theorem u3 {α : Type} {f : α → List Value} {p : α → Prop} {sz : Nat} {P : Program} {t e : TypeId} {H : Type} {enc : TypeId × Value → H} {W : World} {base fuel : Nat} {sp : Nat → Bool} {held : Bool} {cs : List Value} {x : DataW H × List MemPlace}
  (hf : ∀ x, (f x).length = sz) (h0 : 0 < sz) (ht : P.underlying t = some (.slice e)) (hc : P.cellsOf e = sz) (one : ∀ fuel cs x, DataW.trod enc P W base sp held fuel e cs = some x → ∃ a, cs = f a ∧ p a)
  (hfu : DataW.trod enc P W base sp held fuel t cs = some x) : ∃ (A : Option Addr) (n c : Nat) (l : List α), cs = [.slice A n c] ∧ Sl W A n sz (aQ f l) ∧ ∀ a ∈ l, p a := by
 rcases Go.Deep.open_slice ht hfu with ⟨h1, _⟩ | ⟨ad, n, cp, m, k, D, Pl, h1, _, h2, h3, hm, _, h5⟩
 ·exact ⟨none, 0, 0, [], h1, Sl.nil W none sz, fun _ h => by simp at h⟩
 ·have hnm : n ≤ m := by rw [hm]; split <;> omega
  obtain ⟨l, hl, hp⟩ := oq (p := fun i a => W.cells? base (ad.add (i * sz)) sz = some (f a) ∧ p a) n fun i hi => by
   obtain ⟨cs, h6, h7⟩ := h5 i (by omega)
   rw [hc] at h6
   obtain ⟨a, rfl, h8⟩ := one _ _ _ h7
   exact ⟨a, h6, h8⟩
  refine ⟨some ad, n, cp, l, h1, ⟨by rw [iI hf, hl], fun _ => ⟨ad, rfl, fun j u hu => ?_⟩⟩, fun a ha => ?_⟩
  ·have hdm : j / sz * sz + j % sz = j := by rw [Nat.mul_comm]; exact Nat.div_add_mod j sz
   have hmod : j % sz < sz := Nat.mod_lt _ h0
   have hj : j / sz < l.length := by
    have := (List.getElem?_eq_some_iff.1 hu).1
    rw [iI hf] at this
    exact Nat.div_lt_of_lt_mul (by rw [Nat.mul_comm]; exact this)
   obtain ⟨x, hx⟩ := aD hj
   have h6 := mn hf hx
   have h7 : (f x)[j % sz]? = some u := by
    rw [← h6, List.getElem?_take, if_pos hmod, List.getElem?_drop, hdm]
    exact hu
   have h8 := (World.cells?_some (hp _ _ hx).1).2.2 (j % sz) hmod
   rw [h7, jH, hdm] at h8
   exact h8
  ·obtain ⟨i, hi⟩ := List.mem_iff_getElem?.1 ha
   exact (hp i a hi).2
theorem wR {P : Program} {t e : TypeId} {H : Type} {enc : TypeId × Value → H} {W : World} {base fuel : Nat} {sp : Nat → Bool} {held : Bool} {A : Option Addr} {n c : Nat} {x : DataW H × List MemPlace}
  (ht : P.underlying t = some (.slice e)) (hfu : DataW.trod enc P W base sp held fuel t [.slice A n c] = some x) : n ≤ c := by
 rcases Go.Deep.open_slice ht hfu with ⟨h1, _⟩ | ⟨ad, n', cp, m, k, D, Pl, h1, _, h2, _⟩
 ·injection h1 with h1
  injection h1 with _ e2 e3
  omega
 ·injection h1 with h1
  injection h1 with _ e2 e3
  omega
end Go.Proofs.YtaapkaefelhfcaaGreatDoor
/- What was multiplied is divided back. Plain lemmas, no program in sight. -/
namespace Go.Proofs.YtaapkaefelhfcaaGreatDoor
open Go.RowKit
theorem xW {l : List Int} (h : l.all fj = true) : ints (l.map sP) = l := by
 induction l with
 | nil => rfl
 | cons x l ih =>
  simp only [List.all_cons, Bool.and_eq_true] at h
  have h1 : ((sP x).toNat : Int) = x := by
   have := nF h.1
   injection this with _ this
   exact this.symm
  have := ih h.2
  simp only [ints, List.map_cons, h1]
  congr 1
theorem yr {l : List Int} (h : l.all fj = true) : dN (l.map sP) = true := by
 rw [dN, List.all_eq_true]
 intro c hc
 obtain ⟨x, hx, rfl⟩ := List.mem_map.1 hc
 have h1 := List.all_eq_true.1 h x hx
 have := nF h1
 injection this with _ this
 simp only [fj, Bool.and_eq_true, decide_eq_true_eq] at h1
 simp only [decide_eq_true_eq]
 omega
theorem p6 {f : Int → Int → Int} {a b : List UInt8} {l : List Int} (h : fD f a b = some l) : dN a = true ∧ dN b = true ∧ b.length = a.length ∧ l = List.zipWith f (ints a) (ints b) := by
 unfold fD at h
 split at h
 ·rename_i hc
  simp only [Bool.and_eq_true, decide_eq_true_eq] at hc
  injection h with h
  exact ⟨hc.1, hc.2.1, by omega, h.symm⟩
 ·cases h
theorem zy {a c : List UInt8} (h : (mulL a c).2 = 0) : dN a = true ∧ dN c = true ∧ c.length = a.length ∧ dN (mulL a c).1 = true ∧ ints (mulL a c).1 = List.zipWith (· + ·) (ints a) (ints c) := by
 unfold mulL at h ⊢
 split
 ·rename_i l hl
  rw [hl] at h
  simp only at h ⊢
  obtain ⟨h1, h2, h3, h4⟩ := p6 hl
  by_cases hc : l.all fj = true
  ·rw [(rI hc).1]
   exact ⟨h1, h2, h3, yr hc, by rw [xW hc, h4]⟩
  ·simp [zN, hc] at h
 ·rename_i hl
  rw [hl] at h
  simp at h
end Go.Proofs.YtaapkaefelhfcaaGreatDoor
/- Plain laws of terms: rows that rise, what stands with each product, the one form. No program in sight. -/
namespace Go.Proofs.YtaapkaefelhfcaaGreatDoor
open Go.RowKit
structure TR where
 m : ByteArray
 c : NR
def TR.cells (t : TR) : List Value := [.string t.m, .bool t.c.neg, .string t.c.bJ, .int .i64 t.c.e]
theorem TR.len (t : TR) : t.cells.length = 4 := rfl
theorem TR.one (t : TR) : t.cells.all Value.oneCell' = true := rfl
def fM (a b : ByteArray) : Bool := Op.bytesLess a.data.toList b.data.toList
theorem mh : ∀ a : List UInt8, Op.bytesLess a a = false
 | [] => rfl
 | c :: a => by simp [Op.bytesLess, mh a]
theorem nc : ∀ a b c : List UInt8, Op.bytesLess a b = true → Op.bytesLess b c = true → Op.bytesLess a c = true
 | _, [], [], _, h => by simp [Op.bytesLess] at h
 | _, _ :: _, [], _, h => by simp [Op.bytesLess] at h
 | [], [], _ :: _, h, _ => by simp [Op.bytesLess] at h
 | _ :: _, [], _ :: _, h, _ => by simp [Op.bytesLess] at h
 | [], _ :: _, _ :: _, _, _ => rfl
 | x :: a, y :: b, z :: c, h1, h2 => by
  simp only [Op.bytesLess, Bool.or_eq_true, Bool.and_eq_true, decide_eq_true_eq, beq_iff_eq] at h1 h2 ⊢
  rcases h1 with h1 | ⟨rfl, h1⟩
  ·rcases h2 with h2 | ⟨rfl, h2⟩
   ·exact .inl (UInt8.lt_trans h1 h2)
   ·exact .inl h1
  ·rcases h2 with h2 | ⟨rfl, h2⟩
   ·exact .inl h2
   ·exact .inr ⟨rfl, nc a b c h1 h2⟩
theorem pZ : ∀ a b : List UInt8, Op.bytesLess a b = false → Op.bytesLess b a = false → a = b
 | [], [], _, _ => rfl
 | [], _ :: _, h, _ => by simp [Op.bytesLess] at h
 | _ :: _, [], _, h => by simp [Op.bytesLess] at h
 | x :: a, y :: b, h1, h2 => by
  simp only [Op.bytesLess, Bool.or_eq_false_iff, Bool.and_eq_false_iff, decide_eq_false_iff_not, beq_eq_false_iff_ne] at h1 h2
  have e : x = y := by
   have a1 := h1.1
   have a2 := h2.1
   rw [UInt8.lt_iff_toNat_lt] at a1 a2
   exact UInt8.toNat_inj.1 (by omega)
  subst e
  rw [pZ a b (h1.2.resolve_left (fun h => h rfl)) (h2.2.resolve_left (fun h => h rfl))]
theorem iJ (a : ByteArray) : fM a a = false := mh _
theorem iu {a b c : ByteArray} (h1 : fM a b = true) (h2 : fM b c = true) : fM a c = true := nc _ _ _ h1 h2
theorem kx {a b : ByteArray} (h1 : fM a b = false) (h2 : fM b a = false) : a = b := mC (pZ _ _ h1 h2)
theorem yW {a b : ByteArray} (h : fM a b = true) : a ≠ b := fun e => by rw [e, iJ] at h; cases h
theorem xH {a b : ByteArray} (h : fM a b = true) : fM b a = false := by
 cases h2 : fM b a with
 | false => rfl
 | true => have := iu h h2; rw [iJ] at this; cases this
def pN (l : List TR) : Prop := l.Pairwise fun a b => fM a.m b.m = true
def wS (f : ByteArray → Dyadic) : List TR → Dyadic
 | [] => 0
 | t :: l => t.c.d * f t.m + wS f l
theorem qk (f : ByteArray → Dyadic) (l k : List TR) : wS f (l ++ k) = wS f l + wS f k := by
 induction l with
 | nil => exact (Dyadic.zero_add _).symm
 | cons t l ih => rw [List.cons_append, wS, wS, ih, Dyadic.add_assoc]
theorem AB (f : ByteArray → Dyadic) (l : List TR) (t : TR) : wS f (l ++ [t]) = wS f l + t.c.d * f t.m := by
 rw [qk, wS, wS, Dyadic.add_zero]
def gu (l : List TR) (m : ByteArray) : Dyadic := wS (fun k => if k = m then 1 else 0) l
theorem eU (t : TR) (l : List TR) (m : ByteArray) : gu (t :: l) m = (if t.m = m then t.c.d else 0) + gu l m := by
 show t.c.d * (if t.m = m then 1 else 0) + gu l m = _
 split
 ·rw [Dyadic.mul_one]
 ·rw [Dyadic.mul_zero]
theorem pC (m : ByteArray) : gu [] m = 0 := rfl
theorem eF (l k : List TR) (m : ByteArray) : gu (l ++ k) m = gu l m + gu k m := qk _ _ _
theorem qp {l : List TR} {m : ByteArray} (h : ∀ t ∈ l, t.m ≠ m) : gu l m = 0 := by
 induction l with
 | nil => rfl
 | cons t l ih => rw [eU, if_neg (h t List.mem_cons_self), ih fun s hs => h s (List.mem_cons_of_mem _ hs), Dyadic.zero_add]
structure Canon (l : List TR) : Prop where
 nZ : pN l
 nz : ∀ t ∈ l, t.c.d ≠ 0
 nf : ∀ t ∈ l, t.c = nR t.c.d
theorem px {t : TR} {l : List TR} (h : Canon (t :: l)) : Canon l := ⟨(List.pairwise_cons.1 h.nZ).2, fun s hs => h.nz s (List.mem_cons_of_mem _ hs), fun s hs => h.nf s (List.mem_cons_of_mem _ hs)⟩
theorem qi {t : TR} {l : List TR} {m : ByteArray} (h : pN (t :: l)) (hm : m = t.m ∨ fM m t.m = true) : ∀ s ∈ l, s.m ≠ m := fun s hs e => by
 have h1 := (List.pairwise_cons.1 h).1 s hs
 rcases hm with rfl | hm
 ·rw [e, iJ] at h1; cases h1
 ·have := iu hm h1
  rw [e, iJ] at this; cases this
theorem im {t : TR} {l : List TR} (h : pN (t :: l)) : gu (t :: l) t.m = t.c.d := by
 rw [eU, if_pos rfl, qp (qi h (.inl rfl)), Dyadic.add_zero]
theorem qh {t : TR} {l : List TR} {m : ByteArray} (h : pN (t :: l)) (hm : fM m t.m = true) : gu (t :: l) m = 0 := by
 rw [eU, if_neg (fun e => yW hm e.symm), qp (qi h (.inr hm)), Dyadic.zero_add]
theorem sc : ∀ {l k : List TR}, Canon l → Canon k → (∀ m, gu l m = gu k m) → l = k
 | [], [], _, _, _ => rfl
 | [], t :: k, _, hk, h => by
  have := h t.m
  rw [im hk.nZ, pC] at this
  exact absurd this.symm (hk.nz t List.mem_cons_self)
 | t :: l, [], hl, _, h => by
  have := h t.m
  rw [im hl.nZ, pC] at this
  exact absurd this (hl.nz t List.mem_cons_self)
 | t :: l, s :: k, hl, hk, h => by
  have h1 : fM t.m s.m = false := by
   cases hb : fM t.m s.m with
   | false => rfl
   | true =>
    have := h t.m
    rw [im hl.nZ, qh hk.nZ hb] at this
    exact absurd this (hl.nz t List.mem_cons_self)
  have h2 : fM s.m t.m = false := by
   cases hb : fM s.m t.m with
   | false => rfl
   | true =>
    have := h s.m
    rw [im hk.nZ, qh hl.nZ hb] at this
    exact absurd this.symm (hk.nz s List.mem_cons_self)
  have em := kx h1 h2
  have ed : t.c.d = s.c.d := by
   have := h t.m
   rw [im hl.nZ, em, im hk.nZ] at this
   exact this
  have et : t = s := by
   have a := hl.nf t List.mem_cons_self
   have b := hk.nf s List.mem_cons_self
   obtain ⟨m1, c1⟩ := t
   obtain ⟨m2, c2⟩ := s
   simp only at em ed a b
   rw [em, a, b, ed]
  subst et
  rw [sc (px hl) (px hk) fun m => by
   have := h m
   rw [eU, eU] at this
   grind]
def fK : List TR → TR → List TR
 | [], x => [⟨x.m, nR x.c.d⟩]
 | t :: l, x => if fM t.m x.m = true then t :: fK l x else if fM x.m t.m = true then ⟨x.m, nR x.c.d⟩ :: t :: l else ⟨x.m, nR (t.c.d + x.c.d)⟩ :: l
theorem vO (f : ByteArray → Dyadic) : ∀ (l : List TR) (x : TR), wS f (fK l x) = wS f l + x.c.d * f x.m
 | [], x => by
  show (nR x.c.d).d * f x.m + 0 = 0 + _
  rw [dX, Dyadic.add_zero, Dyadic.zero_add]
 | t :: l, x => by
  unfold fK
  split
  ·rw [wS, vO f l x, wS, Dyadic.add_assoc]
  ·split
   ·rw [wS, wS, dX, Dyadic.add_comm]
   ·rename_i h1 h2
    have e : t.m = x.m := kx (by simpa using h1) (by simpa using h2)
    rw [wS, wS, dX, e]
    grind
theorem o7 : ∀ {l : List TR} {x t : TR}, t ∈ fK l x → t ∈ l ∨ t.m = x.m
 | [], x, t, h => .inr (by rw [List.mem_singleton.1 h])
 | s :: l, x, t, h => by
  unfold fK at h
  split at h
  ·rcases List.mem_cons.1 h with rfl | h
   ·exact .inl List.mem_cons_self
   ·rcases o7 h with h | h
    ·exact .inl (List.mem_cons_of_mem _ h)
    ·exact .inr h
  ·split at h
   ·rcases List.mem_cons.1 h with rfl | h
    ·exact .inr rfl
    ·exact .inl h
   ·rcases List.mem_cons.1 h with rfl | h
    ·exact .inr rfl
    ·exact .inl (List.mem_cons_of_mem _ h)
theorem sB : ∀ {l : List TR} {x : TR}, pN l → pN (fK l x)
 | [], x, _ => List.pairwise_singleton _ _
 | s :: l, x, h => by
  have h1 := List.pairwise_cons.1 h
  unfold fK
  split
  ·rename_i hs
   refine List.pairwise_cons.2 ⟨fun t ht => ?_, sB h1.2⟩
   rcases o7 ht with ht | ht
   ·exact h1.1 t ht
   ·rw [ht]; exact hs
  ·split
   ·rename_i hs
    refine List.pairwise_cons.2 ⟨fun t ht => ?_, h⟩
    rcases List.mem_cons.1 ht with rfl | ht
    ·exact hs
    ·exact iu hs (h1.1 t ht)
   ·rename_i a b
    have e : s.m = x.m := kx (by simpa using a) (by simpa using b)
    refine List.pairwise_cons.2 ⟨fun t ht => ?_, h1.2⟩
    show fM x.m t.m = true
    rw [← e]
    exact h1.1 t ht
theorem vG : ∀ {l : List TR} {x : TR}, (∀ t ∈ l, t.c = nR t.c.d) → ∀ t ∈ fK l x, t.c = nR t.c.d
 | [], x, _, t, ht => by rw [List.mem_singleton.1 ht]; show nR _ = nR (nR _).d; rw [dX]
 | s :: l, x, h, t, ht => by
  unfold fK at ht
  split at ht
  ·rcases List.mem_cons.1 ht with rfl | ht
   ·exact h t List.mem_cons_self
   ·exact vG (fun t ht => h t (List.mem_cons_of_mem _ ht)) t ht
  ·split at ht
   ·rcases List.mem_cons.1 ht with rfl | ht
    ·show nR _ = nR (nR _).d; rw [dX]
    ·exact h t ht
   ·rcases List.mem_cons.1 ht with rfl | ht
    ·show nR _ = nR (nR _).d; rw [dX]
    ·exact h t (List.mem_cons_of_mem _ ht)
theorem sM : ∀ (l : List TR) (x : TR), (fK l x).length ≤ l.length + 1
 | [], x => Nat.le_refl _
 | s :: l, x => by
  have := sM l x
  unfold fK
  split
  ·rw [List.length_cons, List.length_cons]; omega
  ·split <;> simp
theorem vp {k : Nat} : ∀ {l : List TR} {x : TR}, (∀ t ∈ l, Sz k t.c.d) → Sz k x.c.d → ∀ t ∈ fK l x, Sz (k + 1) t.c.d
 | [], x, _, hx, t, ht => by rw [List.mem_singleton.1 ht]; show Sz _ (nR _).d; rw [dX]; exact hx.mono (by omega)
 | s :: l, x, h, hx, t, ht => by
  unfold fK at ht
  split at ht
  ·rcases List.mem_cons.1 ht with rfl | ht
   ·exact (h t List.mem_cons_self).mono (by omega)
   ·exact vp (fun t ht => h t (List.mem_cons_of_mem _ ht)) hx t ht
  ·split at ht
   ·rcases List.mem_cons.1 ht with rfl | ht
    ·show Sz _ (nR _).d; rw [dX]; exact hx.mono (by omega)
    ·exact (h t ht).mono (by omega)
   ·rcases List.mem_cons.1 ht with rfl | ht
    ·show Sz _ (nR _).d; rw [dX]; exact (h s List.mem_cons_self).add hx
    ·exact (h t (List.mem_cons_of_mem _ ht)).mono (by omega)
def gg (l : List TR) : List TR := l.foldl fK []
def kM (t : TR) : Bool := !decide (t.c.d = 0)
def aT (l : List TR) : List TR := (gg l).filter kM
theorem fR (l : List TR) (x : TR) : gg (l ++ [x]) = fK (gg l) x := by unfold gg; rw [List.foldl_append]; rfl
theorem ji {α : Type} {P : List α → Prop} (h0 : P []) (hs : ∀ l x, P l → P (l ++ [x])) (l : List α) : P l := by
 have : ∀ k : List α, P k.reverse := fun k => by
  induction k with
  | nil => exact h0
  | cons x k ih => rw [List.reverse_cons]; exact hs _ _ ih
 have h := this l.reverse
 rwa [List.reverse_reverse] at h
theorem x8 (f : ByteArray → Dyadic) (l : List TR) : wS f (gg l) = wS f l := by
 induction l using ji with
 | h0 => rfl
 | hs l x ih => rw [fR, vO, ih, AB]
theorem xx (l : List TR) : pN (gg l) := by
 induction l using ji with
 | h0 => exact List.Pairwise.nil
 | hs l x ih => rw [fR]; exact sB ih
theorem tg (l : List TR) : ∀ t ∈ gg l, t.c = nR t.c.d := by
 induction l using ji with
 | h0 => intro t ht; cases ht
 | hs l x ih => rw [fR]; exact vG ih
theorem qL (l : List TR) : (gg l).length ≤ l.length := by
 induction l using ji with
 | h0 => exact Nat.le_refl _
 | hs l x ih => rw [fR, List.length_append]; have := sM (gg l) x; simp; omega
theorem tH {k : Nat} (l : List TR) (h : ∀ t ∈ l, Sz k t.c.d) : ∀ t ∈ gg l, Sz (k + l.length) t.c.d := by
 induction l using ji with
 | h0 => intro t ht; cases ht
 | hs l x ih =>
  rw [fR, List.length_append]
  exact vp (k := k + l.length) (ih fun t ht => h t (List.mem_append_left _ ht)) ((h x (by simp)).mono (by omega))
theorem xw (l : List TR) : ∀ t ∈ gg l, ∃ s ∈ l, s.m = t.m := by
 induction l using ji with
 | h0 => intro t ht; cases ht
 | hs l x ih =>
  rw [fR]
  intro t ht
  rcases o7 ht with ht | ht
  ·obtain ⟨s, hs, e⟩ := ih t ht
   exact ⟨s, List.mem_append_left _ hs, e⟩
  ·exact ⟨x, by simp, ht.symm⟩
theorem qb (f : ByteArray → Dyadic) (l : List TR) : wS f (l.filter kM) = wS f l := by
 induction l with
 | nil => rfl
 | cons t l ih =>
  rw [List.filter_cons]
  by_cases h : t.c.d = 0
  ·rw [if_neg (by unfold kM; rw [decide_eq_true h]; decide), ih, wS, h, Dyadic.zero_mul, Dyadic.zero_add]
  ·rw [if_pos (by unfold kM; rw [decide_eq_false h]; rfl), wS, wS, ih]
theorem wF (f : ByteArray → Dyadic) (l : List TR) : wS f (aT l) = wS f l := (qb f _).trans (x8 f l)
theorem m6 (l : List TR) (m : ByteArray) : gu (aT l) m = gu l m := wF _ _
theorem uH {t : TR} (h : kM t = true) : t.c.d ≠ 0 := fun e => by
 unfold kM at h
 rw [decide_eq_true e] at h
 cases h
theorem eL (l : List TR) : Canon (aT l) :=
 ⟨List.Pairwise.filter _ (xx l), fun t ht => uH (List.mem_filter.1 ht).2, fun t ht => tg l t (List.mem_filter.1 ht).1⟩
theorem iz (l : List TR) : (aT l).length ≤ l.length := Nat.le_trans (List.length_filter_le _ _) (qL l)
theorem ku {k : Nat} {l : List TR} (h : ∀ t ∈ l, Sz k t.c.d) : ∀ t ∈ aT l, Sz (k + l.length) t.c.d := fun t ht => tH l h t (List.mem_filter.1 ht).1
theorem jy {l : List TR} : ∀ t ∈ aT l, ∃ s ∈ l, s.m = t.m := fun t ht => xw l t (List.mem_filter.1 ht).1
theorem mH {l k : List TR} (h : Canon k) (hc : ∀ m, gu k m = gu l m) : k = aT l := sc h (eL l) fun m => by rw [hc, m6]
theorem rO {l k : List TR} (hc : ∀ m, gu k m = gu l m) : aT k = aT l := mH (eL k) fun m => by rw [m6, hc]
theorem nn {l : List TR} (h : Canon l) : aT l = l := (mH h fun _ => rfl).symm
end Go.Proofs.YtaapkaefelhfcaaGreatDoor
/- Plain: two rows that rise put into one. No program in sight. -/
namespace Go.Proofs.YtaapkaefelhfcaaGreatDoor
open Go.RowKit
def gi (k : Nat) (l : List TR) : Prop := ∀ t ∈ l, t.c.ok ∧ Sz k t.c.d
theorem gi.mono {k j : Nat} {l : List TR} (h : gi k l) (hk : k ≤ j) : gi j l := fun t ht => ⟨(h t ht).1, (h t ht).2.mono hk⟩
structure MD (k : Nat) (l L : List TR) : Prop where
 nZ : pN L
 co : ∀ m, gu L m = gu l m
 len : L.length ≤ l.length
 ok : gi k L
 mem : ∀ t ∈ L, ∃ s ∈ l, s.m = t.m
theorem MD.mono {k j : Nat} {l L : List TR} (h : MD k l L) (hk : k ≤ j) : MD j l L := ⟨h.nZ, h.co, h.len, h.ok.mono hk, h.mem⟩
theorem MD.self {k : Nat} {l : List TR} (h : pN l) (hk : gi k l) : MD k l l := ⟨h, fun _ => rfl, Nat.le_refl _, hk, fun t ht => ⟨t, ht, rfl⟩⟩
structure Mg (k : Nat) (xs ys O X Y : List TR) : Prop where
 ro : pN O
 rx : pN X
 ry : pN Y
 co : ∀ m, gu O m + (gu X m + gu Y m) = gu xs m + gu ys m
 bx : ∀ t ∈ O, ∀ s ∈ X, fM t.m s.m = true
 hy : ∀ t ∈ O, ∀ s ∈ Y, fM t.m s.m = true
 len : O.length + (X.length + Y.length) ≤ xs.length + ys.length
 oo : gi (k + 1) O
 ox : gi k X
 oy : gi k Y
 mo : ∀ t ∈ O, ∃ s ∈ xs ++ ys, s.m = t.m
 mx : ∀ t ∈ X, t ∈ xs ++ ys
 my : ∀ t ∈ Y, t ∈ xs ++ ys
theorem Mg.start {k : Nat} {xs ys : List TR} (hx : pN xs) (hy : pN ys) (ox : gi k xs) (oy : gi k ys) : Mg k xs ys [] xs ys :=
 ⟨List.Pairwise.nil, hx, hy, fun m => Dyadic.zero_add _, fun t ht => (by cases ht), fun t ht => (by cases ht), by simp, fun t ht => (by cases ht), ox, oy, fun t ht => (by cases ht), fun t ht => List.mem_append_left _ ht, fun t ht => List.mem_append_right _ ht⟩
theorem oT {O : List TR} {x : TR} (h : pN O) (hx : ∀ t ∈ O, fM t.m x.m = true) : pN (O ++ [x]) :=
 List.pairwise_append.2 ⟨h, List.pairwise_singleton _ _, fun t ht s hs => by rw [List.mem_singleton.1 hs]; exact hx t ht⟩
theorem nV (x : TR) (m : ByteArray) : gu [x] m = if x.m = m then x.c.d else 0 := by rw [eU, pC, Dyadic.add_zero]
theorem eR {α : Type} {P : α → Prop} {O : List α} {x : α} (h : ∀ t ∈ O, P t) (hx : P x) : ∀ t ∈ O ++ [x], P t := fun t ht => by
 rcases List.mem_append.1 ht with ht | ht
 ·exact h t ht
 ·rw [List.mem_singleton.1 ht]; exact hx
theorem Mg.left {k : Nat} {xs ys O X Y : List TR} {x y : TR} (h : Mg k xs ys O (x :: X) (y :: Y)) (hl : fM x.m y.m = true) : Mg k xs ys (O ++ [x]) X (y :: Y) := by
 obtain ⟨ro, rx, ry, co, bx, hby, len, oo, ox, oy, mo, mx, my⟩ := h
 have r1 := List.pairwise_cons.1 rx
 have r2 := List.pairwise_cons.1 ry
 refine ⟨oT ro fun t ht => bx t ht x List.mem_cons_self, r1.2, ry, fun m => ?_, eR (fun t ht s hs => bx t ht s (List.mem_cons_of_mem _ hs)) fun s hs => r1.1 s hs, eR hby fun s hs => ?_, by simp at len ⊢; omega, eR oo ⟨(ox x List.mem_cons_self).1, (ox x List.mem_cons_self).2.mono (by omega)⟩, fun t ht => ox t (List.mem_cons_of_mem _ ht), oy, eR mo ⟨x, mx x List.mem_cons_self, rfl⟩, fun t ht => mx t (List.mem_cons_of_mem _ ht), my⟩
 ·have := co m
  rw [eU x X] at this
  rw [eF, nV]
  grind
 ·rcases List.mem_cons.1 hs with rfl | hs
  ·exact hl
  ·exact iu hl (r2.1 s hs)
theorem Mg.right {k : Nat} {xs ys O X Y : List TR} {x y : TR} (h : Mg k xs ys O (x :: X) (y :: Y)) (hl : fM y.m x.m = true) : Mg k xs ys (O ++ [y]) (x :: X) Y := by
 obtain ⟨ro, rx, ry, co, bx, hby, len, oo, ox, oy, mo, mx, my⟩ := h
 have r1 := List.pairwise_cons.1 rx
 have r2 := List.pairwise_cons.1 ry
 refine ⟨oT ro fun t ht => hby t ht y List.mem_cons_self, rx, r2.2, fun m => ?_, eR bx fun s hs => ?_, eR (fun t ht s hs => hby t ht s (List.mem_cons_of_mem _ hs)) fun s hs => r2.1 s hs, by simp at len ⊢; omega, eR oo ⟨(oy y List.mem_cons_self).1, (oy y List.mem_cons_self).2.mono (by omega)⟩, ox, fun t ht => oy t (List.mem_cons_of_mem _ ht), eR mo ⟨y, my y List.mem_cons_self, rfl⟩, mx, fun t ht => my t (List.mem_cons_of_mem _ ht)⟩
 ·have := co m
  rw [eU y Y] at this
  rw [eF, nV]
  grind
 ·rcases List.mem_cons.1 hs with rfl | hs
  ·exact hl
  ·exact iu hl (r1.1 s hs)
theorem Mg.both {k : Nat} {xs ys O X Y : List TR} {x y : TR} (h : Mg k xs ys O (x :: X) (y :: Y)) (h1 : fM x.m y.m = false) (h2 : fM y.m x.m = false) (hk : k ≤ 3999980) : Mg k xs ys (O ++ [⟨x.m, nR (x.c.d + y.c.d)⟩]) X Y := by
 obtain ⟨ro, rx, ry, co, bx, hby, len, oo, ox, oy, mo, mx, my⟩ := h
 have r1 := List.pairwise_cons.1 rx
 have r2 := List.pairwise_cons.1 ry
 have e := kx h1 h2
 have hz := (ox x List.mem_cons_self).2.add (oy y List.mem_cons_self).2
 refine ⟨oT ro fun t ht => bx t ht x List.mem_cons_self, r1.2, r2.2, fun m => ?_, eR (fun t ht s hs => bx t ht s (List.mem_cons_of_mem _ hs)) fun s hs => r1.1 s hs, eR (fun t ht s hs => hby t ht s (List.mem_cons_of_mem _ hs)) fun s hs => ?_, by simp at len ⊢; omega, eR oo ⟨hz.ok (by omega), ?_⟩, fun t ht => ox t (List.mem_cons_of_mem _ ht), fun t ht => oy t (List.mem_cons_of_mem _ ht), eR mo ⟨x, mx x List.mem_cons_self, rfl⟩, fun t ht => mx t (List.mem_cons_of_mem _ ht), fun t ht => my t (List.mem_cons_of_mem _ ht)⟩
 ·have := co m
  rw [eU y Y, eU x X, ← e] at this
  rw [eF, nV]
  show gu O m + (if x.m = m then (nR (x.c.d + y.c.d)).d else 0) + (gu X m + gu Y m) = _
  rw [dX]
  grind
 ·show fM x.m s.m = true
  rw [e]
  exact r2.1 s hs
 ·show Sz _ (nR _).d
  rw [dX]
  exact hz
theorem Mg.done {k : Nat} {xs ys O X Y : List TR} (h : Mg k xs ys O X Y) (hd : X = [] ∨ Y = []) : MD (k + 1) (xs ++ ys) (O ++ X ++ Y) := by
 obtain ⟨ro, rx, ry, co, bx, hby, len, oo, ox, oy, mo, mx, my⟩ := h
 refine ⟨?_, fun m => ?_, by simp at len ⊢; omega, fun t ht => ?_, fun t ht => ?_⟩
 ·rw [List.append_assoc]
  refine List.pairwise_append.2 ⟨ro, ?_, fun t ht s hs => ?_⟩
  ·rcases hd with rfl | rfl
   ·exact ry
   ·rw [List.append_nil]; exact rx
  ·rcases List.mem_append.1 hs with hs | hs
   ·exact bx t ht s hs
   ·exact hby t ht s hs
 ·rw [eF, eF, eF, Dyadic.add_assoc]
  exact co m
 ·rcases List.mem_append.1 ht with ht | ht
  ·rcases List.mem_append.1 ht with ht | ht
   ·exact oo t ht
   ·exact ⟨(ox t ht).1, (ox t ht).2.mono (by omega)⟩
  ·exact ⟨(oy t ht).1, (oy t ht).2.mono (by omega)⟩
 ·rcases List.mem_append.1 ht with ht | ht
  ·rcases List.mem_append.1 ht with ht | ht
   ·exact mo t ht
   ·exact ⟨t, mx t ht, rfl⟩
  ·exact ⟨t, my t ht, rfl⟩
theorem MD.aT {k : Nat} {l L : List TR} (h : MD k l L) : ((L.filter kM).map fun t => (⟨t.m, nR t.c.d⟩ : TR)) = aT l := by
 refine mH ⟨?_, fun t ht => ?_, fun t ht => ?_⟩ fun m => ?_
 ·exact List.Pairwise.map _ (fun a b hab => hab) (List.Pairwise.filter _ h.nZ)
 ·obtain ⟨s, hs, rfl⟩ := List.mem_map.1 ht
  show (nR s.c.d).d ≠ 0
  rw [dX]
  exact uH (List.mem_filter.1 hs).2
 ·obtain ⟨s, hs, rfl⟩ := List.mem_map.1 ht
  show nR s.c.d = nR (nR s.c.d).d
  rw [dX]
 ·have e : ∀ (f : ByteArray → Dyadic) (k : List TR), wS f (k.map fun t => (⟨t.m, nR t.c.d⟩ : TR)) = wS f k := fun f k => by
   induction k with
   | nil => rfl
   | cons t k ih => rw [List.map_cons, wS, wS, ih]; show (nR t.c.d).d * f t.m + _ = _; rw [dX]
  show wS _ _ = _
  rw [e, qb]
  exact h.co m
theorem p7 {l : List TR} (h : l.length < 2) : pN l := by
 match l, h with
 | [], _ => exact List.Pairwise.nil
 | [x], _ => exact List.pairwise_singleton _ _
end Go.Proofs.YtaapkaefelhfcaaGreatDoor
/- A new row with room and nothing in it; a call of a function that a variable holds, in a drawn region. Plain lemmas, no program in sight. -/
namespace Go.Proofs.YtaapkaefelhfcaaGreatDoor
open Go.RowKit
variable {ro : Mode}
section
variable {P : Program} {N : Nat} {ops : Array Oper} {Q : Kq} {ρ : Rf} {w w0 : World} {rest : List Oper} {H : List HE} {d : Nat} {ty : TypeId} {pos : String} {af : Array Edge}
theorem zF (hh : Hp w0 H w) {t e : TypeId} {l cp : Operand} {kl kc : IntKind} {L C : Int} {n sz by' : Nat} {ag : Bool} {zc : List Value} (hl : ev ρ l = .int kl L) (hc : ev ρ cp = .int kc C) (hL : L = 0) (hC : C = (n : Int))
  (ht : P.underlying t = some (.slice e)) (hte : db P e = some (sz, ag, by', zc)) (hb : by' * n ≤ 281474976710656) (h63 : n ≤ 9223372036854775807) (hN : d < N)
  (k : ∀ b w', Hp w0 (.row (some ⟨b, 0, none⟩) 0 n e sz [] :: H) w' → WL ro P N ops Q rest (cL ρ d (.slice (some ⟨b, 0, none⟩) 0 n)) w') :
  WL ro P N ops Q (⟨some d, .makeSlice t l cp, ty, pos, af, none⟩ :: rest) ρ w := by
 obtain ⟨i, z, dd, hi, hd, hz, hs, hby, hzc, _⟩ := ew hte
 subst hL; subst hC; subst hs
 have hr := run_make (P := P) w t e i z ht hi hz kl kc 0 n (Int.le_refl _) (by omega) (by rw [hby, ← Int.natCast_mul]; omega) (by omega)
 simp only [Int.toNat_natCast, Int.toNat_zero] at hr
 refine a8 rfl rfl hN (w' := w.alloc (.cells (madeCells z.cells (n * i.size)) e)) (v := .slice (some ⟨w.heap.size, 0, none⟩) 0 n) ?_ (k _ _ (hh.bk (show Below w.heap.size w (w.alloc (.cells (madeCells z.cells (n * i.size)) e)) from ⟨rfl, rfl, rfl, (World.grownBy_alloc w _ none).size, fun j hj => (World.grownBy_alloc w _ none).block j hj (by simp)⟩) ?_))
 ·simp [execOp, hl, hc, hr]
 ·exact ⟨by simp, .inr ⟨w.heap.size, n, madeCells z.cells (n * i.size), rfl, Nat.le_refl _, heap_alloc_new w _, Nat.zero_le _, by unfold maxLen; omega, size_madeCells _ _, by simp⟩⟩
end
def eM (n sz : Nat) (cs : List Value) : VP := fun v W => ∃ g : Nat, v = .slice (some ⟨g, 0, none⟩) n n ∧ Sl W (some ⟨g, 0, none⟩) n sz cs
theorem eM.ext {n sz : Nat} {cs : List Value} (v : Value) (w w' : World) (h : eM n sz cs v w) (hb : Below w.heap.size w w') : eM n sz cs v w' := let ⟨g, h1, h2⟩ := h; ⟨g, h1, h2.ext hb⟩
section
variable {P : Program} {ρ : Rf} {w : World}
theorem vK {ops : Array Oper} {d : Option Nat} {ty : TypeId} {pos : String} {af : Array Edge} {t e : TypeId} {l cp : Operand} {kl kc : IntKind} {L C : Int} {n sz by' : Nat} {ag : Bool} {zc : List Value} {K : Value → World → Prop} (hl : ev ρ l = .int kl L) (hc : ev ρ cp = .int kc C) (hL : L = (n : Int)) (hC : C = (n : Int))
  (ht : P.underlying t = some (.slice e)) (hte : db P e = some (sz, ag, by', zc)) (hzl : zc.length = sz) (hb : by' * n ≤ 281474976710656) (h63 : n ≤ 9223372036854775807)
  (hk : ∀ v w2, eM n sz (fe n zc) v w2 → Below w.heap.size w w2 → K v w2) : OG P ops ⟨d, .makeSlice t l cp, ty, pos, af, none⟩ ρ w K := by
 obtain ⟨i, z, dd, hi, hd, hz, hs, hby, hzc, _⟩ := ew hte
 subst hL; subst hC
 obtain ⟨w', hr, hown, hg⟩ := run_make_full (P := P) w w.heap.size t e i z sz ht hi hz hs kl kc n (by rw [hby]; exact hb) (by unfold maxLen; omega) (Nat.le_refl _)
 have hzz : (madeCells z.cells (n * sz)).toList = fe n zc := by
  have := iE n zc
  rw [hzl] at this
  unfold madeCells
  rw [hzc]
  have e2 : zc.toArray.size = sz := by simpa using hzl
  rw [e2, this]
 rw [hzz] at hown
 exact bZ rfl (w' := w') (v := .slice (some ⟨w.heap.size, 0, none⟩) n n) (by simp [execOp, hl, hc, hr]) (hk _ _ ⟨w.heap.size, rfl, qY hown⟩ ⟨hg.os, hg.tape, hg.output, hg.size, fun j hj => hg.block j hj (by simp)⟩)
theorem oI (n : Nat) : fe n [.int .u8 0] = je (List.replicate n 0) := by
 induction n with
 | zero => rfl
 | succ n ih => rw [fe, ih, List.replicate_succ]; rfl
end
end Go.Proofs.YtaapkaefelhfcaaGreatDoor
/- The walks through poly.side, sum, merged. -/
namespace Go.Proofs.YtaapkaefelhfcaaGreatDoor
open Go.RowKit
theorem vW (a : ByteArray) : a.toList = a.data.toList := by
 have key : ∀ s : ByteArray, s.toList = s.data.toList := fun s => by
  unfold ByteArray.toList
  have : ∀ (n i : Nat) (r : List UInt8), s.size - i = n → ByteArray.toList.loop s i r = r.reverse ++ s.data.toList.drop i := by
   intro n
   induction n with
   | zero =>
    intro i r h
    rw [ByteArray.toList.loop, if_neg (by omega), List.drop_of_length_le (by rw [Array.length_toList]; show s.size ≤ i; omega)]
    simp
   | succ n ih =>
    intro i r h
    have hi : i < s.size := by omega
    rw [ByteArray.toList.loop, if_pos hi, ih (i + 1) _ (by omega)]
    have hi2 : i < s.data.toList.length := by rw [Array.length_toList]; exact hi
    rw [List.drop_eq_getElem_cons hi2]
    have : s.get! i = s.data.toList[i] := by
     show s.data[i]! = _
     rw [getElem!_pos s.data i (by simpa using hi2)]
     simp
    simp [this]
  simpa using this (s.size - 0) 0 [] rfl
 exact key a
theorem gR (a b : ByteArray) : Op.bytesLess a.toList b.toList = fM a b := by rw [vW, vW]; rfl
theorem zj (a b : ByteArray) : (!(Op.bytesLess a.toList b.toList || a.toList == b.toList)) = fM b a := by
 rw [gR, yd]
 cases h1 : fM a b with
 | true => rw [xH h1]; rfl
 | false =>
  cases h2 : fM b a with
  | true => rw [decide_eq_false (fun e => yW h2 e.symm)]; rfl
  | false => rw [decide_eq_true (kx h1 h2)]; rfl
def yT (x y : TR) : Int := if fM x.m y.m = true then -1 else if fM y.m x.m = true then 1 else 0
theorem uJ (x y : TR) (w : World) : Calls Tryz.prog 104 #[.agg #[.string x.m, .bool x.c.neg, .string x.c.bJ, .int .i64 x.c.e], .agg #[.string y.m, .bool y.c.neg, .string y.c.bJ, .int .i64 y.c.e]] w fun r w' => r = .returned (.int .i64 (yT x y)) ∧ Below w.heap.size w w' := by
 have hh := Hp.start w
 refine ak (N := 17) (l := [.agg #[.string x.m, .bool x.c.neg, .string x.c.bJ, .int .i64 x.c.e], .agg #[.string y.m, .bool y.c.neg, .string y.c.bJ, .int .i64 y.c.e]]) Tryz.func104 rfl rfl (by simp) ?_
 refine sr ?_
 refine cK hh [_,_,_,_] ?_
 intro b2 w2 hh
 refine cK hh [_,_,_,_] ?_
 intro b3 w3 hh
 refine aI (ae (ah (al (sr (bC ?_)))))
 refine bH hh 1 ?_
 refine bC ?_
 refine bH hh 0 ?_
 refine kK rfl rfl (by decide) ?_
 refine aB (ae ?_)
 rw [gR]
 unfold yT
 cases h1 : fM x.m y.m with
 | true =>
  refine cT (sr (aI (ae (ao (br (az ?_))))))
  refine cA ?_
  exact ⟨rfl, hh.below⟩
 | false =>
  refine cF (sr (bC ?_))
  refine bH hh 1 ?_
  refine bC ?_
  refine bH hh 0 ?_
  refine wG rfl rfl (by decide) ?_
  refine aB (ae ?_)
  rw [zj]
  cases h2 : fM y.m x.m with
  | true =>
   refine cT (sr (aI (ae (ao (br (az ?_))))))
   refine cA ?_
   exact ⟨rfl, hh.below⟩
  | false =>
   refine cF (aj (aW (ai (sr (aI (ae (ao ?_)))))))
   refine cA ?_
   exact ⟨rfl, hh.below⟩
theorem xk (x y : TR) (k : Nat) (w : World) (hT : hG w) (hx : x.c.ok ∧ Sz k x.c.d) (hy : y.c.ok ∧ Sz k y.c.d) (hk : k ≤ 3999980) : Calls Tryz.prog 105 #[.agg #[.string x.m, .bool x.c.neg, .string x.c.bJ, .int .i64 x.c.e], .agg #[.string y.m, .bool y.c.neg, .string y.c.bJ, .int .i64 y.c.e]] w fun r w' => r = .returned (.agg #[.string x.m, .bool (nR (x.c.d + y.c.d)).neg, .string (nR (x.c.d + y.c.d)).bJ, .int .i64 (nR (x.c.d + y.c.d)).e]) ∧ Below w.heap.size w w' := by
 have hh := Hp.start w
 have hsum := fun A cc w1 hT1 hS1 => n5 A 2 cc [x.c, y.c] w1 hT1 hS1 (by simpa using ⟨hx.1, hy.1⟩) k (by simpa using ⟨hx.2, hy.2⟩) (by omega)
 rw [show mW ([x.c, y.c].map NR.d) = x.c.d + y.c.d by simp only [List.map_cons, List.map_nil, se]] at hsum
 refine ak (N := 14) (l := [.agg #[.string x.m, .bool x.c.neg, .string x.c.bJ, .int .i64 x.c.e], .agg #[.string y.m, .bool y.c.neg, .string y.c.bJ, .int .i64 y.c.e]]) Tryz.func105 rfl rfl (by simp) ?_
 refine sr ?_
 refine cK hh [_,_,_,_] ?_
 intro b2 w2 hh
 refine cK hh [_,_,_,_] ?_
 intro b3 w3 hh
 refine cv hh ?_
 intro b4 w4 hh
 refine ae (ah ?_)
 refine aX 8 [[(2, none)], [(5, some 0)], [(2, none)], [(7, some 2)], [(3, none)], [(9, some 4)], [(8, some 3), (10, some 5)], [(11, some 6)]] [(7, 12), (6, 11), (5, 10), (4, 9), (3, 8), (2, 7), (1, 6), (0, 5)] hh mixed (by kernel_rfl) ?_
 refine cD ?_
 refine dF 2 ?_
 refine cD ?_
 refine ef 2 [_,_,_] ?_
 refine cD ?_
 refine ef 1 [_,_,_] ?_
 refine pD [_,_,_,_,_,_] ?_
 refine bj (i := 7) (Is (.agg #[.bool (nR (x.c.d + y.c.d)).neg, .string (nR (x.c.d + y.c.d)).bJ, .int .i64 (nR (x.c.d + y.c.d)).e])) Is.ext ?_ ?_
 ·intro ρ1 w1 hj hR
  obtain ⟨A11, c11, h11, s11⟩ := hR.1
  exact bW rfl (a3 av.out (aA h11 a9)) (hsum A11 c11 _ (hT.hp hj.hp) s11) (fun _ _ hq => ⟨_, hq.1, hq.2, rfl⟩)
 refine a0 ?_
 intro f W hJ hV
 have hb_1 := hJ.bl
 obtain ⟨v12, v11, v10, v9, v8, v7, v6, v5, _⟩ := hV
 obtain ⟨A11, c11, e11, f11⟩ : Rows _ _ _ (f 6) W := v11
 replace hh := hJ.hp
 refine aN (a4 (aa v12 (aa e11 (aa v10 (aa v9 (aa v8 (aa v7 (aa v6 (aa v5 aM))))))))) ?_
 dsimp only [ca]
 clear e11 hJ
 refine ep [_,_,_,_] ?_
 refine bE hh 0 [_,_,_,_] ?_
 intro ws hh
 replace hh : Hp _ (.blk _ _ [_, _, _, _] _ :: _) _ := hh
 refine ae (ao ?_)
 refine gI (aG rfl (aH (vs := [_, _, _, _]) aC.out (hh.au (i := 0) (n := 4) rfl rfl) rfl) a7) ?_
 exact ⟨rfl, hh.below⟩
end Go.Proofs.YtaapkaefelhfcaaGreatDoor
/- A pure operation, of several that are ready, may as well come first. Plain lemma, no program in sight. -/
namespace Go.Proofs.YtaapkaefelhfcaaGreatDoor
open Go.RowKit
theorem cV {P : Program} {N : Nat} {Q : Kq} {ops : Array Oper} {fuel : Nat} {L : Array Bool} {i d : Nat} {op : Op} {ty : TypeId} {pos : String} {af : Array Edge} {v : Value} {ρ : Rf} {w : World} (hq : NP Q) (hi : ops[i]? = some ⟨some d, op, ty, pos, af, none⟩) (hs : Region.noSelect ops = true) (hf : Region.free .any ops L i = true) (hr : (Region.ready .any ops L).contains i = true)
  (hv : ∀ w, (execOp (ev ρ) ⟨some d, op, ty, pos, af, none⟩).run P w = .ok (.value v) w) (hN : d < N) (h : WA P N ops Q fuel (L.setIfInBounds i true) (cL ρ d v) w) : WA P N ops Q (fuel + 1) L ρ w :=
 ⟨fun a hfit => wpAny_first hi (Region.noSelect_spec hs) (fun c a w ⟨ρ', _, hq'⟩ => (hq c ρ' w hq').elim) fuel L a w (Region.free_spec hi hf) (by simpa using hr) (.inl ⟨by simp [Region.wanted], fun w => by rw [hfit.eval]; exact hv w⟩) (h.out _ (hfit.put hN v))⟩
end Go.Proofs.YtaapkaefelhfcaaGreatDoor
/- The walk through poly.merged. -/
namespace Go.Proofs.YtaapkaefelhfcaaGreatDoor
open Go.RowKit
theorem Sl.tail {w : World} {A : Option Addr} {n c : Nat} {x : TR} {X : List TR} (h : Sl w A n 4 (aQ TR.cells (x :: X))) (h0 : 0 < n) (hc : n ≤ c) : Sl w (if c = 1 then A else A.map (·.add (1 * 4))) (n - 1) 4 (aQ TR.cells X) := by
 have := h.back (l := 1) (by omega) hc
 rw [show (aQ TR.cells (x :: X)).drop (1 * 4) = aQ TR.cells X from fY TR.len (x :: X) 1] at this
 exact this
theorem md (A : Option Addr) (n c : Nat) (xs : List TR) (B : Option Addr) (m c2 : Nat) (ys : List TR) (k : Nat) (w : World) (hT : hG w) (hS : Sl w A n 4 (aQ TR.cells xs)) (hS2 : Sl w B m 4 (aQ TR.cells ys)) (hc : n ≤ c) (hc2 : m ≤ c2) (hn : n ≤ 1000000) (hm : m ≤ 1000000) (hk : k ≤ 3999980)
  (rx : pN xs) (ry : pN ys) (ox : gi k xs) (oy : gi k ys) :
  Calls Tryz.prog 103 #[.slice A n c, .slice B m c2, .func (.func 104) #[] #[], .func (.func 105) #[] #[]] w fun r w' => ∃ (L : List TR) (A' : Option Addr) (c' : Nat), MD (k + 1) (xs ++ ys) L ∧ r = .returned (.slice A' L.length c') ∧ Hp w [.row A' L.length c' 55 4 (aQ TR.cells L)] w' := by
 have hh := Hp.start w
 have hlx := hS.cg TR.len (by decide)
 have hly := hS2.cg TR.len (by decide)
 have hnx : xs.length ≤ 1000000 := by omega
 have hny : ys.length ≤ 1000000 := by omega
 refine ak (N := 75) (l := [.slice A n c, .slice B m c2, .func (.func 104) #[] #[], .func (.func 105) #[] #[]]) Tryz.func103 rfl rfl (by simp) ?_
 refine sr (aL (ae (sr (mL (aO (mL (aO ?_)))))))
 refine bL ?_
 refine zF (n := (n + m)) hh rfl rfl (by omega) (by omega) aF.out aC.out (by omega) (by omega) (by decide) ?_
 intro b16 w16 hh
 refine aL (ae (ah (al ?_)))
 refine tr [0, 1, 9, 10, 17, 18, 19, 20, 21, 22, 23, 24, 25, 26, 27, 28, 29, 30, 31, 32, 33, 34, 35, 36, 37, 38, 39, 40, 41, 42, 43, 44, 45, 46, 47, 48, 49, 50, 51, 52, 53, 54, 55, 56, 57, 58, 59, 60, 61, 62, 63, 64, 65, 66, 67, 68, 69] 0 1 9
  (fun va vb vo w' => ∃ (A : Option Addr) (n c : Nat) (X : List TR) (B : Option Addr) (m c2 : Nat) (Y : List TR) (O : List TR) (C : Option Addr) (co : Nat), va = .slice A n c ∧ vb = .slice B m c2 ∧ vo = .slice C O.length co ∧ n ≤ c ∧ m ≤ c2 ∧ Sl w A n 4 (aQ TR.cells X) ∧ Sl w B m 4 (aQ TR.cells Y) ∧ Mg k xs ys O X Y ∧ Hp w [.row C O.length co 55 4 (aQ TR.cells O)] w')
  (fun va vb _ _ => lenOf va + lenOf vb) ?_ ?_
 ·exact ⟨A, n, c, xs, B, m, c2, ys, [], some ⟨b16, 0, none⟩, n + m, rfl, rfl, rfl, hc, hc2, hS, hS2, Mg.start rx ry ox oy, hh⟩
 ·clear hh hS hS2 hlx hly hc hc2 hn hm
  rintro ρ' va vb vo w' ⟨A, n, c, X, B, m, c2, Y, O, C, co, rfl, rfl, rfl, hc, hc2, hS, hS2, hmg, hh⟩
  have hX := hS.cg TR.len (by decide)
  have hY := hS2.cg TR.len (by decide)
  have hlen := hmg.len
  have oX := bf TR.one X
  have oY := bf TR.one Y
  by_cases hn : n = 0
  ·refine ah (sr (mL (aO ?_)))
   refine bY (mB ?_)
   first | refine gS ?_ | (refine gT ?_; refine mL ?_) | refine gV ?_
   first | refine gS ?_ | (refine gT ?_; refine aO ?_) | refine gV ?_
   first | refine gS ?_ | (refine gT ?_; refine bY ?_) | refine gV ?_
   first | refine cR ?_ | refine cQ ?_
   refine ae (cF ?_)
   refine aP ?_
   refine ay (ay (a6 (ai (sr (mL (mL ?_))))))
   refine bF hh (i := 0) rfl rfl rfl (hS.ext hh.below) aF.out aC.out rfl (by decide) ?one4 (by omega) (by omega) (by decide) ?kk4
   case one4 => first | rfl | assumption | exact oneCells_i64s _ | exact oneCells_u8s _
   intro A72 c72 w72 hh
   simp only [List.set_cons_zero] at hh
   refine mL ?_
   refine bF hh (i := 0) rfl rfl rfl (hS2.ext hh.below) aF.out aC.out rfl (by decide) ?one5 (by omega) (by omega) (by decide) ?kk5
   case one5 => first | rfl | assumption | exact oneCells_i64s _ | exact oneCells_u8s _
   intro A74 c74 w74 hh
   simp only [List.set_cons_zero] at hh
   refine aL (ae (ao ?_))
   refine cA ?_
   have hd := hmg.done (.inl (List.eq_nil_of_length_eq_zero (by omega)))
   have e1 : (O ++ X ++ Y).length = O.length + n + m := by rw [List.length_append, List.length_append]; omega
   exact ⟨O ++ X ++ Y, A74, c74, hd, by rw [e1], by rw [e1, bR, bR]; exact hh⟩
  ·by_cases hm : m = 0
   ·refine ah (sr (mL (aO ?_)))
    refine bY (mB ?_)
    first | refine gS ?_ | (refine gT ?_; refine mL ?_) | refine gV ?_
    first | refine gS ?_ | (refine gT ?_; refine aO ?_) | refine gV ?_
    first | refine gS ?_ | (refine gT ?_; refine bY ?_) | refine gV ?_
    first | refine cR ?_ | refine cQ ?_
    refine ae (cF ?_)
    refine aP ?_
    refine ay (ay (a6 (ai (sr (mL (mL ?_))))))
    refine bF hh (i := 0) rfl rfl rfl (hS.ext hh.below) aF.out aC.out rfl (by decide) ?one6 (by omega) (by omega) (by decide) ?kk6
    case one6 => first | rfl | assumption | exact oneCells_i64s _ | exact oneCells_u8s _
    intro A72 c72 w72 hh
    simp only [List.set_cons_zero] at hh
    refine mL ?_
    refine bF hh (i := 0) rfl rfl rfl (hS2.ext hh.below) aF.out aC.out rfl (by decide) ?one7 (by omega) (by omega) (by decide) ?kk7
    case one7 => first | rfl | assumption | exact oneCells_i64s _ | exact oneCells_u8s _
    intro A74 c74 w74 hh
    simp only [List.set_cons_zero] at hh
    refine aL (ae (ao ?_))
    refine cA ?_
    have hd := hmg.done (.inr (List.eq_nil_of_length_eq_zero (by omega)))
    have e1 : (O ++ X ++ Y).length = O.length + n + m := by rw [List.length_append, List.length_append]; omega
    exact ⟨O ++ X ++ Y, A74, c74, hd, by rw [e1], by rw [e1, bR, bR]; exact hh⟩
   ·obtain ⟨x, X, rfl⟩ : ∃ x X', X = x :: X' := by cases X with
     | nil => exact absurd hX.symm hn
     | cons x X' => exact ⟨x, X', rfl⟩
    obtain ⟨y, Y, rfl⟩ : ∃ y Y', Y = y :: Y' := by cases Y with
     | nil => exact absurd hY.symm hm
     | cons y Y' => exact ⟨y, Y', rfl⟩
    obtain ⟨ad, rfl, hr⟩ := hS.at_ (by omega)
    obtain ⟨ad2, rfl, hr2⟩ := hS2.at_ (by omega)
    have hxx : (x :: X)[0]? = some x := rfl
    have hyy : (y :: Y)[0]? = some y := rfl
    have hSt := hS.tail (by omega) hc
    have hSt2 := hS2.tail (by omega) hc2
    have hsd := fun w1 => uJ x y w1
    unfold yT at hsd
    cases h1 : fM x.m y.m with
    | true =>
     rw [h1, if_pos rfl] at hsd
     refine ah (sr (mL (aO ?_)))
     refine bY (mB ?_)
     first | refine gS ?_ | (refine gT ?_; refine mL ?_) | refine gV ?_
     first | refine gS ?_ | (refine gT ?_; refine aO ?_) | refine gV ?_
     first | refine gS ?_ | (refine gT ?_; refine bY ?_) | refine gV ?_
     first | refine cR ?_ | refine cQ ?_
     refine ae (cT (aj (ai (al (ah ?_)))))
     refine aX 7 [[(2, none)], [(0, none)], [(26, some 1)], [(27, some 2)], [(1, none)], [(29, some 4)], [(30, some 5)]] [(6, 31), (5, 30), (4, 29), (3, 28), (2, 27), (1, 26), (0, 25)] hh mixed (by kernel_rfl) ?_
     refine z9 ?_
     refine fN ?_
     refine iA (0) ?_
     refine rh [_,_,_,_] (fun _ hj => (hr.ext hj.hp.below).recAt TR.len hxx) ?_
     refine fN ?_
     refine iA (0) ?_
     refine rh [_,_,_,_] (fun _ hj => (hr2.ext hj.hp.below).recAt TR.len hyy) ?_
     refine a0 ?_
     intro f W hJ hV
     have hb_3 := hJ.bl
     obtain ⟨v31, v30, v29, v28, v27, v26, v25, _⟩ := hV
     replace hh := hJ.hp
     refine aN (a4 (aa v31 (aa v30 (aa v29 (aa v28 (aa v27 (aa v26 (aa v25 aM)))))))) ?_
     dsimp only [ca]
     clear hJ
     refine fL (hsd _) av.out rfl rfl (by decide) ?_
     rintro e_ w32 ⟨rfl, hb_⟩
     refine ⟨_, rfl, ?_⟩
     replace hh := hh.ext hb_
     refine aI (ae (al (sr (mI ?_))))
     refine aU (aB (ae (cT ?_)))
     refine jA hh mixed fun w_ hj_ => ?_
     replace hh := hj_.hp
     clear hj_
     refine cV (i := 6) (by repeat (first | exact bX | refine bA ?_ | refine bV ?_ | refine np_scope ?_)) rfl (by kernel_rfl) (by kernel_rfl) (by kernel_rfl) (fun _ => dg rfl) (by decide) ?_
     refine cV (i := 7) (by repeat (first | exact bX | refine bA ?_ | refine bV ?_ | refine np_scope ?_)) rfl (by kernel_rfl) (by kernel_rfl) (by kernel_rfl) (fun _ => gw (l := 1) aF.out aC.size rfl rfl (by omega) (by omega) (by omega)) (by decide) ?_
     refine cV (i := 0) (by repeat (first | exact bX | refine bA ?_ | refine bV ?_ | refine np_scope ?_)) rfl (by kernel_rfl) (by kernel_rfl) (by kernel_rfl) (fun _ => dg rfl) (by decide) ?_
     refine cV (i := 1) (by repeat (first | exact bX | refine bA ?_ | refine bV ?_ | refine np_scope ?_)) rfl (by kernel_rfl) (by kernel_rfl) (by kernel_rfl) (fun _ => dg rfl) (by decide) ?_
     refine cV (i := 2) (by repeat (first | exact bX | refine bA ?_ | refine bV ?_ | refine np_scope ?_)) rfl (by kernel_rfl) (by kernel_rfl) (by kernel_rfl) (fun _ => eg (k := 0) aF.out aC.size rfl rfl (by omega) (by omega)) (by decide) ?_
     refine dA (i := 3) (by kernel_rfl) rfl ?_
     refine bQ (vs := [_, _, _, _]) aC.out rfl ((hr.ext hh.below).recAt TR.len hxx) rfl (by decide) ?_
     refine cS ?_
     refine dA (i := 4) (by kernel_rfl) rfl ?_
     refine bB hh (cs := [_, _, _, _]) aF.out aC.out (bm (dM rfl) cn) rfl rfl (by decide) (by decide) (by decide) rfl (by decide) ?_
     intro b55 w55 hh
     refine cS ?_
     refine dA (i := 5) (by kernel_rfl) rfl ?_
     refine bF hh (i := 1) rfl rfl rfl (hh.aK (i := 0) rfl) aF.out aC.out rfl (by decide) (by first | rfl | exact bU _ | exact bI _ | exact oneCells_i64s _ | exact bf NR.one _) (by omega) (by omega) (by decide) ?_
     intro A56 c56 w56 hh
     simp only [List.set_cons_zero, List.set_cons_succ] at hh
     replace hh := hh.sub (List.sublist_cons_self _ _)
     refine cS ?_
     refine dO 8 (by decide) (by kernel_rfl) (by decide) (by kernel_rfl) (by kernel_rfl) ?_
     refine aL (aL (aE (aW (aW (ai ?_)))))
     replace hh := hh.sub (List.Sublist.cons_cons _ List.Sublist.slnil)
     refine ⟨⟨_, n - 1, c - 1, X, some ad2, m, c2, y :: Y, O ++ [x], A56, c56, rfl, rfl, ?_, by omega, hc2, hSt, hS2, hmg.left h1, ?_⟩, by show (n - 1) + m < n + m; omega, ?_⟩
     ·show Value.slice _ (O.length + 1) _ = Value.slice _ (O ++ [x]).length _
      rw [List.length_append]
      rfl
     ·rw [List.length_append, bR]
      exact hh
     ·(repeat (first | exact aw _ _ _ | refine ax rfl ?_ | refine ar rfl ?_))
    | false =>
     cases h2 : fM y.m x.m with
     | true =>
      rw [h1, h2, if_neg (by decide), if_pos rfl] at hsd
      refine ah (sr (mL (aO ?_)))
      refine bY (mB ?_)
      first | refine gS ?_ | (refine gT ?_; refine mL ?_) | refine gV ?_
      first | refine gS ?_ | (refine gT ?_; refine aO ?_) | refine gV ?_
      first | refine gS ?_ | (refine gT ?_; refine bY ?_) | refine gV ?_
      first | refine cR ?_ | refine cQ ?_
      refine ae (cT (aj (ai (al (ah ?_)))))
      refine aX 7 [[(2, none)], [(0, none)], [(26, some 1)], [(27, some 2)], [(1, none)], [(29, some 4)], [(30, some 5)]] [(6, 31), (5, 30), (4, 29), (3, 28), (2, 27), (1, 26), (0, 25)] hh mixed (by kernel_rfl) ?_
      refine z9 ?_
      refine fN ?_
      refine iA (0) ?_
      refine rh [_,_,_,_] (fun _ hj => (hr.ext hj.hp.below).recAt TR.len hxx) ?_
      refine fN ?_
      refine iA (0) ?_
      refine rh [_,_,_,_] (fun _ hj => (hr2.ext hj.hp.below).recAt TR.len hyy) ?_
      refine a0 ?_
      intro f W hJ hV
      have hb_3 := hJ.bl
      obtain ⟨v31, v30, v29, v28, v27, v26, v25, _⟩ := hV
      replace hh := hJ.hp
      refine aN (a4 (aa v31 (aa v30 (aa v29 (aa v28 (aa v27 (aa v26 (aa v25 aM)))))))) ?_
      dsimp only [ca]
      clear hJ
      refine fL (hsd _) av.out rfl rfl (by decide) ?_
      rintro e_ w32 ⟨rfl, hb_⟩
      refine ⟨_, rfl, ?_⟩
      replace hh := hh.ext hb_
      refine aI (ae (al (sr (mI ?_))))
      refine aU (aB (ae (cF (sr (mI ?_)))))
      refine bY (aB (ae (cT ?_)))
      refine jA hh mixed fun w_ hj_ => ?_
      replace hh := hj_.hp
      clear hj_
      refine cV (i := 6) (by repeat (first | exact bX | refine bA ?_ | refine bV ?_ | refine np_scope ?_)) rfl (by kernel_rfl) (by kernel_rfl) (by kernel_rfl) (fun _ => dg rfl) (by decide) ?_
      refine cV (i := 7) (by repeat (first | exact bX | refine bA ?_ | refine bV ?_ | refine np_scope ?_)) rfl (by kernel_rfl) (by kernel_rfl) (by kernel_rfl) (fun _ => gw (l := 1) aF.out aC.size rfl rfl (by omega) (by omega) (by omega)) (by decide) ?_
      refine cV (i := 0) (by repeat (first | exact bX | refine bA ?_ | refine bV ?_ | refine np_scope ?_)) rfl (by kernel_rfl) (by kernel_rfl) (by kernel_rfl) (fun _ => dg rfl) (by decide) ?_
      refine cV (i := 1) (by repeat (first | exact bX | refine bA ?_ | refine bV ?_ | refine np_scope ?_)) rfl (by kernel_rfl) (by kernel_rfl) (by kernel_rfl) (fun _ => dg rfl) (by decide) ?_
      refine cV (i := 2) (by repeat (first | exact bX | refine bA ?_ | refine bV ?_ | refine np_scope ?_)) rfl (by kernel_rfl) (by kernel_rfl) (by kernel_rfl) (fun _ => eg (k := 0) aF.out aC.size rfl rfl (by omega) (by omega)) (by decide) ?_
      refine dA (i := 3) (by kernel_rfl) rfl ?_
      refine bQ (vs := [_, _, _, _]) aC.out rfl ((hr2.ext hh.below).recAt TR.len hyy) rfl (by decide) ?_
      refine cS ?_
      refine dA (i := 4) (by kernel_rfl) rfl ?_
      refine bB hh (cs := [_, _, _, _]) aF.out aC.out (bm (dM rfl) cn) rfl rfl (by decide) (by decide) (by decide) rfl (by decide) ?_
      intro b66 w66 hh
      refine cS ?_
      refine dA (i := 5) (by kernel_rfl) rfl ?_
      refine bF hh (i := 1) rfl rfl rfl (hh.aK (i := 0) rfl) aF.out aC.out rfl (by decide) (by first | rfl | exact bU _ | exact bI _ | exact oneCells_i64s _ | exact bf NR.one _) (by omega) (by omega) (by decide) ?_
      intro A67 c67 w67 hh
      simp only [List.set_cons_zero, List.set_cons_succ] at hh
      replace hh := hh.sub (List.sublist_cons_self _ _)
      refine cS ?_
      refine dO 8 (by decide) (by kernel_rfl) (by decide) (by kernel_rfl) (by kernel_rfl) ?_
      refine aL (aL (aE (aW (aW (ai ?_)))))
      replace hh := hh.sub (List.Sublist.cons_cons _ List.Sublist.slnil)
      refine ⟨⟨some ad, n, c, x :: X, _, m - 1, c2 - 1, Y, O ++ [y], A67, c67, rfl, rfl, ?_, hc, by omega, hS, hSt2, hmg.right h2, ?_⟩, by show n + (m - 1) < n + m; omega, ?_⟩
      ·show Value.slice _ (O.length + 1) _ = Value.slice _ (O ++ [y]).length _
       rw [List.length_append]
       rfl
      ·rw [List.length_append, bR]
       exact hh
      ·(repeat (first | exact aw _ _ _ | refine ax rfl ?_ | refine ar rfl ?_))
     | false =>
      rw [h1, h2, if_neg (by decide), if_neg (by decide)] at hsd
      have hsm := fun w1 hT1 => xk x y k w1 hT1 (hmg.ox x List.mem_cons_self) (hmg.oy y List.mem_cons_self) hk
      refine ah (sr (mL (aO ?_)))
      refine bY (mB ?_)
      first | refine gS ?_ | (refine gT ?_; refine mL ?_) | refine gV ?_
      first | refine gS ?_ | (refine gT ?_; refine aO ?_) | refine gV ?_
      first | refine gS ?_ | (refine gT ?_; refine bY ?_) | refine gV ?_
      first | refine cR ?_ | refine cQ ?_
      refine ae (cT (aj (ai (al (ah ?_)))))
      refine aX 7 [[(2, none)], [(0, none)], [(26, some 1)], [(27, some 2)], [(1, none)], [(29, some 4)], [(30, some 5)]] [(6, 31), (5, 30), (4, 29), (3, 28), (2, 27), (1, 26), (0, 25)] hh mixed (by kernel_rfl) ?_
      refine z9 ?_
      refine fN ?_
      refine iA (0) ?_
      refine rh [_,_,_,_] (fun _ hj => (hr.ext hj.hp.below).recAt TR.len hxx) ?_
      refine fN ?_
      refine iA (0) ?_
      refine rh [_,_,_,_] (fun _ hj => (hr2.ext hj.hp.below).recAt TR.len hyy) ?_
      refine a0 ?_
      intro f W hJ hV
      have hb_3 := hJ.bl
      obtain ⟨v31, v30, v29, v28, v27, v26, v25, _⟩ := hV
      replace hh := hJ.hp
      refine aN (a4 (aa v31 (aa v30 (aa v29 (aa v28 (aa v27 (aa v26 (aa v25 aM)))))))) ?_
      dsimp only [ca]
      clear hJ
      refine fL (hsd _) av.out rfl rfl (by decide) ?_
      rintro e_ w32 ⟨rfl, hb_⟩
      refine ⟨_, rfl, ?_⟩
      replace hh := hh.ext hb_
      refine aI (ae (al (sr (mI ?_))))
      refine aU (aB (ae (cF (sr (mI ?_)))))
      refine bY (aB (ae (cF ?_)))
      refine jA hh mixed fun w_ hj_ => ?_
      replace hh := hj_.hp
      clear hj_
      refine cV (i := 11) (by repeat (first | exact bX | refine bA ?_ | refine bV ?_ | refine np_scope ?_)) rfl (by kernel_rfl) (by kernel_rfl) (by kernel_rfl) (fun _ => dg rfl) (by decide) ?_
      refine cV (i := 12) (by repeat (first | exact bX | refine bA ?_ | refine bV ?_ | refine np_scope ?_)) rfl (by kernel_rfl) (by kernel_rfl) (by kernel_rfl) (fun _ => gw (l := 1) aF.out aC.size rfl rfl (by omega) (by omega) (by omega)) (by decide) ?_
      refine cV (i := 13) (by repeat (first | exact bX | refine bA ?_ | refine bV ?_ | refine np_scope ?_)) rfl (by kernel_rfl) (by kernel_rfl) (by kernel_rfl) (fun _ => dg rfl) (by decide) ?_
      refine cV (i := 14) (by repeat (first | exact bX | refine bA ?_ | refine bV ?_ | refine np_scope ?_)) rfl (by kernel_rfl) (by kernel_rfl) (by kernel_rfl) (fun _ => gw (l := 1) aF.out aC.size rfl rfl (by omega) (by omega) (by omega)) (by decide) ?_
      refine cV (i := 0) (by repeat (first | exact bX | refine bA ?_ | refine bV ?_ | refine np_scope ?_)) rfl (by kernel_rfl) (by kernel_rfl) (by kernel_rfl) (fun _ => dg rfl) (by decide) ?_
      refine cV (i := 1) (by repeat (first | exact bX | refine bA ?_ | refine bV ?_ | refine np_scope ?_)) rfl (by kernel_rfl) (by kernel_rfl) (by kernel_rfl) (fun _ => dg rfl) (by decide) ?_
      refine cV (i := 2) (by repeat (first | exact bX | refine bA ?_ | refine bV ?_ | refine np_scope ?_)) rfl (by kernel_rfl) (by kernel_rfl) (by kernel_rfl) (fun _ => dg rfl) (by decide) ?_
      refine cV (i := 3) (by repeat (first | exact bX | refine bA ?_ | refine bV ?_ | refine np_scope ?_)) rfl (by kernel_rfl) (by kernel_rfl) (by kernel_rfl) (fun _ => eg (k := 0) aF.out aC.size rfl rfl (by omega) (by omega)) (by decide) ?_
      refine cV (i := 5) (by repeat (first | exact bX | refine bA ?_ | refine bV ?_ | refine np_scope ?_)) rfl (by kernel_rfl) (by kernel_rfl) (by kernel_rfl) (fun _ => dg rfl) (by decide) ?_
      refine cV (i := 6) (by repeat (first | exact bX | refine bA ?_ | refine bV ?_ | refine np_scope ?_)) rfl (by kernel_rfl) (by kernel_rfl) (by kernel_rfl) (fun _ => eg (k := 0) aF.out aC.size rfl rfl (by omega) (by omega)) (by decide) ?_
      refine k6 (i := 4) (i2 := 7) (by kernel_rfl) rfl rfl ?_ ?_
      ·refine bQ (vs := [_, _, _, _]) aC.out rfl ((hr.ext hh.below).recAt TR.len hxx) rfl (by decide) ?_
       refine cS ?_
       refine dA (i := 7) (by kernel_rfl) rfl ?_
       refine bQ (vs := [_, _, _, _]) aC.out rfl ((hr2.ext hh.below).recAt TR.len hyy) rfl (by decide) ?_
       refine cS ?_
       refine dA (i := 8) (by kernel_rfl) rfl ?_
       refine fL (hsm _ (hT.hp hh)) av.out rfl rfl (by decide) ?_; rintro e_ w41 ⟨rfl, hb_⟩; refine ⟨_, rfl, ?_⟩; replace hh := hh.ext hb_
       refine cS ?_
       refine dA (i := 9) (by kernel_rfl) rfl ?_
       refine bB hh (cs := [_, _, _, _]) aF.out aC.out (bm (dM rfl) cn) rfl rfl (by decide) (by decide) (by decide) rfl (by decide) ?_
       intro b42 w42 hh
       refine cS ?_
       refine dA (i := 10) (by kernel_rfl) rfl ?_
       refine bF hh (i := 1) rfl rfl rfl (hh.aK (i := 0) rfl) aF.out aC.out rfl (by decide) (by first | rfl | exact bU _ | exact bI _ | exact oneCells_i64s _ | exact bf NR.one _) (by omega) (by omega) (by decide) ?_
       intro A43 c43 w43 hh
       simp only [List.set_cons_zero, List.set_cons_succ] at hh
       replace hh := hh.sub (List.sublist_cons_self _ _)
       refine cS ?_
       refine dO 15 (by decide) (by kernel_rfl) (by decide) (by kernel_rfl) (by kernel_rfl) ?_
       refine aL (aL (aL (aE (aW (aW (ai ?_))))))
       replace hh := hh.sub (List.Sublist.cons_cons _ List.Sublist.slnil)
       refine ⟨⟨_, n - 1, c - 1, X, _, m - 1, c2 - 1, Y, O ++ [⟨x.m, nR (x.c.d + y.c.d)⟩], A43, c43, rfl, rfl, ?_, by omega, by omega, hSt, hSt2, hmg.both h1 h2 hk, ?_⟩, by show (n - 1) + (m - 1) < n + m; omega, ?_⟩
       ·show Value.slice _ (O.length + 1) _ = Value.slice _ (O ++ [(⟨x.m, nR (x.c.d + y.c.d)⟩ : TR)]).length _
        rw [List.length_append]
        rfl
       ·rw [List.length_append, bR]
        exact hh
       ·(repeat (first | exact aw _ _ _ | refine ax rfl ?_ | refine ar rfl ?_))
      ·refine bQ (vs := [_, _, _, _]) aC.out rfl ((hr2.ext hh.below).recAt TR.len hyy) rfl (by decide) ?_
       refine cS ?_
       refine dA (i := 4) (by kernel_rfl) rfl ?_
       refine bQ (vs := [_, _, _, _]) aC.out rfl ((hr.ext hh.below).recAt TR.len hxx) rfl (by decide) ?_
       refine cS ?_
       refine dA (i := 8) (by kernel_rfl) rfl ?_
       refine fL (hsm _ (hT.hp hh)) av.out rfl rfl (by decide) ?_; rintro e_ w41 ⟨rfl, hb_⟩; refine ⟨_, rfl, ?_⟩; replace hh := hh.ext hb_
       refine cS ?_
       refine dA (i := 9) (by kernel_rfl) rfl ?_
       refine bB hh (cs := [_, _, _, _]) aF.out aC.out (bm (dM rfl) cn) rfl rfl (by decide) (by decide) (by decide) rfl (by decide) ?_
       intro b42 w42 hh
       refine cS ?_
       refine dA (i := 10) (by kernel_rfl) rfl ?_
       refine bF hh (i := 1) rfl rfl rfl (hh.aK (i := 0) rfl) aF.out aC.out rfl (by decide) (by first | rfl | exact bU _ | exact bI _ | exact oneCells_i64s _ | exact bf NR.one _) (by omega) (by omega) (by decide) ?_
       intro A43 c43 w43 hh
       simp only [List.set_cons_zero, List.set_cons_succ] at hh
       replace hh := hh.sub (List.sublist_cons_self _ _)
       refine cS ?_
       refine dO 15 (by decide) (by kernel_rfl) (by decide) (by kernel_rfl) (by kernel_rfl) ?_
       refine aL (aL (aL (aE (aW (aW (ai ?_))))))
       replace hh := hh.sub (List.Sublist.cons_cons _ List.Sublist.slnil)
       refine ⟨⟨_, n - 1, c - 1, X, _, m - 1, c2 - 1, Y, O ++ [⟨x.m, nR (x.c.d + y.c.d)⟩], A43, c43, rfl, rfl, ?_, by omega, by omega, hSt, hSt2, hmg.both h1 h2 hk, ?_⟩, by show (n - 1) + (m - 1) < n + m; omega, ?_⟩
       ·show Value.slice _ (O.length + 1) _ = Value.slice _ (O ++ [(⟨x.m, nR (x.c.d + y.c.d)⟩ : TR)]).length _
        rw [List.length_append]
        rfl
       ·rw [List.length_append, bR]
        exact hh
       ·(repeat (first | exact aw _ _ _ | refine ax rfl ?_ | refine ar rfl ?_))
end Go.Proofs.YtaapkaefelhfcaaGreatDoor
/- The built-in clear, on a slice that one owns. Plain lemmas, no program in sight. -/
namespace Go.Proofs.YtaapkaefelhfcaaGreatDoor
open Go.RowKit
variable {ro : Mode}
theorem oM {w : World} {b b' : Nat} {t : TypeId} {sz n c : Nat} {A : Option Addr} {xs : List Value} (h : w.ownsRow b t sz (.slice A n c) n xs) (hb : b' ≤ b) : w.ownsRow b' t sz (.slice A n c) n xs :=
 ⟨h.1, h.2.imp id fun ⟨g, cap, cur, h1, h2, h3⟩ => ⟨g, cap, cur, h1, Nat.le_trans hb h2, h3⟩⟩
theorem kb {w : World} {b b' : Nat} {x : HE} (h : x.holds b w) (hb : b' ≤ b) : x.holds b' w := by
 cases x with
 | blk b t cs fz => exact ⟨Nat.le_trans hb h.1, h.2⟩
 | row A n c t sz xs => exact oM h hb
 | ob b o => exact ⟨Nat.le_trans hb h.1, h.2⟩
theorem Hp.perm {w0 w : World} {H H' : List HE} (h : Hp w0 H w) (hp : H.Perm H') : Hp w0 H' w :=
 ⟨h.below, fun x hx => h.own x (hp.mem_iff.2 hx), (hp.filterMap _).nodup_iff.1 h.nd⟩
theorem Hp.g7 {w0 w : World} {H : List HE} (h : Hp w0 H w) {i n c sz : Nat} {A : Option Addr} {t : TypeId} {xs : List Value} (hi : H[i]? = some (.row A n c t sz xs)) : n ≤ c := by
 have h1 : w.ownsRow w0.heap.size t sz (.slice A n c) n xs := h.at_ hi
 rcases h1.2 with ⟨_, h3⟩ | ⟨g, cap, cur, h2, _, _, h5, _⟩
 ·omega
 ·injection h2 with _ _ e3
  omega
theorem Hp.join {w0 w w' : World} {H H2 : List HE} (h : Hp w0 H w) (h2 : Hp w H2 w') : Hp w0 (H2 ++ H) w' := by
 have h' := h.ext h2.below
 refine ⟨h'.below, fun x hx => ?_, ?_⟩
 ·rcases List.mem_append.1 hx with hx | hx
  ·exact kb (h2.own x hx) h.size
  ·exact h'.own x hx
 ·rw [List.filterMap_append, List.nodup_append]
  refine ⟨h2.nd, h.nd, fun a ha b hb hab => ?_⟩
  subst hab
  obtain ⟨x, hx, hxa⟩ := List.mem_filterMap.1 ha
  obtain ⟨y, hy, hya⟩ := List.mem_filterMap.1 hb
  have h3 := eQ (h2.own x hx) hxa
  have h4 := eQ (h.own y hy) hya
  omega
section
variable {P : Program} {N : Nat} {ops : Array Oper} {Q : Kq} {ρ : Rf} {w w0 : World} {rest : List Oper} {H : List HE} {ty : TypeId} {pos : String} {af : Array Edge}
theorem qQ {o : Oper} {v : Value} {w' : World} (hg : o.guard = none) (hd : o.dst = none)
  (hr : (execOp (ev ρ) o).run P w = .ok (.value v) w') (k : WL ro P N ops Q rest ρ w') : WL ro P N ops Q (o :: rest) ρ w :=
 ⟨fun hm a hf => wpList_plain hg fun K hK => by
  unfold Oper.wp
  rw [hf.eval, hr]
  show K (a.put o.dst v) w'
  rw [hd]
  exact hK _ _ (k.jQ hm _ hf),
 fun a hf n => wpListIn_plain hg fun K hK => by
  refine ⟨fun _ _ => trivial, ?_⟩
  rw [hf.eval, kz _ hr (fun _ h => by cases h)]
  show K (a.put o.dst v) w'
  rw [hd]
  exact hK _ _ (k.kP _ hf n)⟩
theorem oE {α : Type} {l : List α} {i : Nat} {x : α} (h : l[i]? = some x) : l.set i x = l := by
 obtain ⟨h1, rfl⟩ := List.getElem?_eq_some_iff.1 h
 exact List.set_getElem_self h1
theorem yy (hh : Hp w0 H w) {t e : TypeId} {x : Operand} {i n c sz by' : Nat} {ag : Bool} {A : Option Addr} {zc xs : List Value} (hi : H[i]? = some (.row A n c e sz xs)) (hx : ev ρ x = .slice A n c)
  (ht : P.underlying t = some (.slice e)) (hte : db P e = some (sz, ag, by', zc)) (hzl : zc.length = sz) (h1 : (zc.all Value.oneCell') = true)
  (k : ∀ w', Hp w0 (H.set i (.row A n c e sz (fe n zc))) w' → WL ro P N ops Q rest ρ w') : WL ro P N ops Q (⟨none, .call ⟨.builtin .clear, #[x], #[t]⟩, ty, pos, af, none⟩ :: rest) ρ w := by
 obtain ⟨z, hz, hzc⟩ := da (w := w) hte
 have hrow := hh.at_ hi
 obtain ⟨hlen, h2⟩ := hrow
 by_cases h0 : n = 0
 ·subst h0
  have hxs : xs = fe 0 zc := by
   have : xs.length = 0 := by omega
   rw [List.eq_nil_of_length_eq_zero this]; rfl
  subst hxs
  rw [oE hi] at k
  refine qQ rfl rfl (v := .tuple #[]) ?_ (k w hh)
  simp only [execOp, resolve, invoke, hx, List.map_toArray, List.map_cons, List.map_nil]
  cases A <;> simp [builtin, Builtin.clear_, run_underlying ht]
 ·rcases h2 with ⟨h2, _⟩ | ⟨g, cap, cur, hv, hg, hheap, hmc, hcm, hcur, htake⟩
  ·injection h2 with h2 h3; omega
  ·injection hv with hA hn hcap
   subst hA; subst hcap
   have hcl : cur.size = cur.toList.length := by simp
   have hle : n * sz ≤ c * sz := Nat.mul_le_mul_right _ hmc
   have hzr : (fe n zc).length = n * sz := by rw [gY, hzl]
   have hall : ∀ v ∈ fe n zc, v.oneCell' = true := fun v hv => by
    obtain ⟨j, hj⟩ := List.mem_iff_getElem?.1 hv
    have hj2 := (List.getElem?_eq_some_iff.1 hj).1
    rw [gY] at hj2
    rw [nC n zc j hj2] at hj
    exact List.all_eq_true.1 h1 v (List.mem_of_getElem? hj)
   obtain ⟨w', hr, hb', hgr, hs⟩ := eS (P := P) (b := g) (t := e) (fz := (0, 0)) 0 (fe n zc) 0 cur.toList w (by simpa using hheap) (.inr (Nat.le_refl _)) (by rw [← hcl, hzr]; omega) hall
   refine qQ rfl rfl (w' := w') (v := .tuple #[]) ?_ (k w' (hh.grown hi hgr (.inl rfl) ⟨hzr, .inr ⟨g, c, (cB cur.toList 0 (fe n zc)).toArray, rfl, hg, by simpa using hb', hmc, hcm, ?_, ?_⟩⟩))
   ·simp only [execOp, resolve, invoke, hx, List.map_toArray, List.map_cons, List.map_nil]
    have hzz : Builtin.zeroCells z.cells n = (fe n zc).toArray := by
     rw [Builtin.zeroCells, hzc, List.size_toArray]; exact iE n zc
    obtain ⟨m, rfl⟩ : ∃ m, n = m + 1 := ⟨n - 1, by omega⟩
    simp [builtin, Builtin.clear_, run_underlying ht, hz, hzz, hr]
   ·simp only [List.size_toArray]
    rw [ez (by rw [← hcl, hzr]; omega), ← hcl, hcur]
   ·simp only [cB]
    rw [List.take_zero, List.nil_append, List.take_left' hzr]
end
abbrev Hp.sz {w0 w : World} {H : List HE} (_ : Hp w0 H w) : Nat := w.heap.size
theorem BR {base : Nat} {W : World} {A : Option Addr} {n c sz b : Nat} {t' t : TypeId} {xs : List Value} {cs : Array Value} {fz : Nat × Nat} (h : HE.holds base W (.row A n c t' sz xs)) (h3 : W.heap[b]? = some (.cells cs t fz)) (hne : t' ≠ t) : (HE.row A n c t' sz xs).id ≠ some b := by
 intro hid
 rcases h.2 with ⟨h1, _⟩ | ⟨g, cap, cur, h1, _, h4, _⟩
 ·injection h1 with e1
  subst e1
  cases hid
 ·injection h1 with e1
  subst e1
  obtain rfl : g = b := Option.some.inj hid
  rw [h3] at h4
  injection h4 with h4
  injection h4 with _ h5
  exact hne h5.symm
theorem JJ.kD {w0 w W w1 : World} {H L : List HE} {t : TypeId} {cs : List Value} {b : Nat} (hJ : JJ w0 H w W) (hs : Hp w0 H w) (h2 : w.heap.size ≤ b) (h3 : W.heap[b]? = some (.cells cs.toArray t (0, 0))) (hb : w.heap.size ≤ w1.heap.size) (hL : Hp w1 L W) (hne : ∀ x ∈ L, x.id ≠ some b) : Hp w0 (.blk b t cs (0, 0) :: (L ++ H)) W := by
 have h1 := hs.join (⟨hJ.bl, fun x hx => kb (hL.own x hx) hb, hL.nd⟩ : Hp w L W)
 refine ⟨h1.below, fun x hx => ?_, ?_⟩
 ·rcases List.mem_cons.1 hx with rfl | hx
  ·exact ⟨Nat.le_trans hs.size h2, h3, .inr (Nat.le_refl _)⟩
  ·exact h1.own x hx
 ·rw [List.filterMap_cons]
  show (b :: (L ++ H).filterMap HE.id).Nodup
  refine List.nodup_cons.2 ⟨fun hm => ?_, h1.nd⟩
  obtain ⟨y, hy, hyb⟩ := List.mem_filterMap.1 hm
  rcases List.mem_append.1 hy with hy | hy
  ·exact hne y hy hyb
  ·have := (eQ (hs.own y hy) hyb).2
   omega
def Dh (base : Nat) (t : TypeId) (n sz : Nat) (cs : List Value) : VP := fun v W => ∃ A c, v = .slice A n c ∧ W.ownsRow base t sz (.slice A n c) n cs
def CT (base : Nat) (t1 t2 : TypeId) (n1 s1 n2 s2 : Nat) (xs1 xs2 : List Value) : VP := fun v W => ∃ A c B k, v = .agg #[.slice A n1 c, .slice B n2 k] ∧ W.ownsRow base t1 s1 (.slice A n1 c) n1 xs1 ∧ W.ownsRow base t2 s2 (.slice B n2 k) n2 xs2
end Go.Proofs.YtaapkaefelhfcaaGreatDoor
/- The walk through poly.sorted. -/
namespace Go.Proofs.YtaapkaefelhfcaaGreatDoor
open Go.RowKit
structure RX where
 A : Option Addr
 n : Nat
 c : Nat
 ts : List TR
def jb (k : Nat) (l : List TR) : VP := fun v W => ∃ g : RX, v = .slice g.A g.n g.c ∧ (g.n ≤ g.c ∧ g.ts.length = g.n ∧ MD k l g.ts ∧ Sl W g.A g.n 4 (aQ TR.cells g.ts))
theorem jb.ext {k : Nat} {l : List TR} (v : Value) (w w' : World) (h : jb k l v w) (hb : Below w.heap.size w w') : jb k l v w' := let ⟨g, h1, h2, h3, h4, h5⟩ := h; ⟨g, h1, h2, h3, h4, h5.ext hb⟩
theorem MD.yJ {k k1 k2 j : Nat} {l1 l2 L1 L2 L : List TR} (h1 : MD k1 l1 L1) (h2 : MD k2 l2 L2) (h : MD k (L1 ++ L2) L) (hk : k ≤ j) : MD j (l1 ++ l2) L :=
 ⟨h.nZ, fun m => by rw [h.co, eF, h1.co, h2.co, eF], by have a := h.len; have b := h1.len; have c := h2.len; rw [List.length_append] at a ⊢; omega, h.ok.mono hk, fun t ht => by
  obtain ⟨s, hs, e⟩ := h.mem t ht
  rcases List.mem_append.1 hs with hs | hs
  ·obtain ⟨u, hu, e2⟩ := h1.mem s hs
   exact ⟨u, List.mem_append_left _ hu, e2.trans e⟩
  ·obtain ⟨u, hu, e2⟩ := h2.mem s hs
   exact ⟨u, List.mem_append_right _ hu, e2.trans e⟩⟩
theorem j4 (k : Nat) : ∀ (N : Nat) (A : Option Addr) (n c : Nat) (l : List TR) (w : World), n ≤ N → hG w → Sl w A n 4 (aQ TR.cells l) → n ≤ c → n ≤ 1000000 → k + n ≤ 3999980 → gi k l →
  Calls Tryz.prog 196 #[.slice A n c, .func (.func 104) #[] #[], .func (.func 105) #[] #[]] w fun r w' => (n < 2 ∧ r = .returned (.slice A n c) ∧ Below w.heap.size w w') ∨ (2 ≤ n ∧ ∃ (L : List TR) (A' : Option Addr) (c' : Nat), MD (k + n) l L ∧ r = .returned (.slice A' L.length c') ∧ Hp w [.row A' L.length c' 55 4 (aQ TR.cells L)] w')
 | 0, A, n, c, l, w, hN, hT, hS, hc, hn, hk, hok => by
  have hh := Hp.start w
  obtain rfl : n = 0 := by omega
  refine ak (N := 30) (l := [.slice A 0 c, .func (.func 104) #[] #[], .func (.func 105) #[] #[]]) Tryz.func196 rfl rfl (by simp) ?_
  refine sr (aL (ae (ah (sr (mL (aO ?_))))))
  refine aU (ae (cT (sr (mL (aL (ae (ao (az ?_))))))))
  refine cA ?_
  exact .inl ⟨by omega, rfl, hh.below⟩
 | N + 1, A, n, c, l, w, hN, hT, hS, hc, hn, hk, hok => by
  have hh := Hp.start w
  have hl := hS.cg TR.len (by decide)
  by_cases h2 : n < 2
  ·refine ak (N := 30) (l := [.slice A n c, .func (.func 104) #[] #[], .func (.func 105) #[] #[]]) Tryz.func196 rfl rfl (by simp) ?_
   refine sr (aL (ae (ah (sr (mL (aO ?_))))))
   refine aU (ae (cT (sr (mL (aL (ae (ao (az ?_))))))))
   refine cA ?_
   exact .inl ⟨h2, rfl, hh.below⟩
  ·obtain ⟨h, hhalf⟩ : ∃ h, h = n / 2 := ⟨_, rfl⟩
   have hh1 : 1 ≤ h := by omega
   have hh2 : h + h ≤ n := by omega
   have hh3 : n ≤ h + h + 1 := by omega
   have hq : ((n : Int)) / 2 = (h : Int) := by omega
   have hS1 := hS.front (m := h) (by omega)
   rw [show (aQ TR.cells l).take (h * 4) = aQ TR.cells (l.take h) from ix TR.len l h] at hS1
   have hS2 := hS.back (l := h) (by omega) hc
   rw [show (aQ TR.cells l).drop (h * 4) = aQ TR.cells (l.drop h) from fY TR.len l h] at hS2
   have o1 : gi k (l.take h) := fun t ht => hok t (List.mem_of_mem_take ht)
   have o2 : gi k (l.drop h) := fun t ht => hok t (List.mem_of_mem_drop ht)
   have rd : ∀ {A' : Option Addr} {n' c' : Nat} {l' : List TR} {r : Ending} {w1 w' : World}, Sl w1 A' n' 4 (aQ TR.cells l') → n' ≤ c' → gi k l' → ((n' < 2 ∧ r = .returned (.slice A' n' c') ∧ Below w1.heap.size w1 w') ∨ (2 ≤ n' ∧ ∃ (L : List TR) (B : Option Addr) (b : Nat), MD (k + n') l' L ∧ r = .returned (.slice B L.length b) ∧ Hp w1 [.row B L.length b 55 4 (aQ TR.cells L)] w')) → ∃ v, r = .returned v ∧ Below w1.heap.size w1 w' ∧ jb (k + n') l' v w' := by
    rintro A' n' c' l' r w1 w' hs hc' ho (⟨h1, rfl, hb⟩ | ⟨h1, L, B, b, hm, rfl, h3⟩)
    ·have e := hs.cg TR.len (by decide)
     exact ⟨_, rfl, hb, ⟨A', n', c', l'⟩, rfl, hc', e, (MD.self (p7 (by omega)) ho).mono (by omega), hs.ext hb⟩
    ·exact ⟨_, rfl, h3.below, ⟨B, L.length, b, L⟩, rfl, h3.g7 (i := 0) rfl, rfl, hm, h3.aK (i := 0) rfl⟩
   have ih1 := fun w1 (hT1 : hG w1) (hb : Below w.heap.size w w1) => j4 k N A h c (l.take h) w1 (by omega) hT1 (hS1.ext hb) (by omega) (by omega) (by omega) o1
   have ih2 := fun w1 (hT1 : hG w1) (hb : Below w.heap.size w w1) => j4 k N _ (n - h) (c - h) (l.drop h) w1 (by omega) hT1 (hS2.ext hb) (by omega) (by omega) (by omega) o2
   refine ak (N := 30) (l := [.slice A n c, .func (.func 104) #[] #[], .func (.func 105) #[] #[]]) Tryz.func196 rfl rfl (by simp) ?_
   refine sr (aL (ae (ah (sr (mL (aO ?_))))))
   refine aU (ae (cF (aj (ai (sr (mL (aO ?_)))))))
   refine jd rfl rfl (by omega) (by omega) (by omega) (by decide) ?_
   refine aI (ae (ah ?_))
   rw [hq]
   refine aX 14 [[(0, none)], [(7, none)], [(15, some 0), (16, some 1)], [(1, none)], [(2, none)], [(17, some 2), (18, some 3), (19, some 4)], [(0, none)], [(7, none)], [(21, some 6), (22, some 7)], [(1, none)], [(2, none)], [(23, some 8), (24, some 9), (25, some 10)], [(1, none)], [(2, none)]] [(13, 28), (12, 27), (11, 26), (10, 25), (9, 24), (8, 23), (7, 22), (6, 21), (5, 20), (4, 19), (3, 18), (2, 17), (1, 16), (0, 15)] hh mixed (by kernel_rfl) ?_
   refine fN ?_
   refine eb ?_
   refine bq (i := 2) (fun ρ1 w1 hj hR => sg (h := h) aF.out aC.size (show ρ1 15 = Value.slice _ _ _ from hR.1) (show ρ1 16 = Value.int _ _ from hR.2.1) (by omega) (by omega)) ?_
   refine z9 ?_
   refine z9 ?_
   refine bj (i := 5) (jb (k + h) (l.take h)) (jb.ext) ?_ ?_
   ·intro ρ1 w1 hj hR
    exact bW rfl (a3 av.out (aA (show ρ1 17 = Value.slice _ _ _ from hR.1) (aA (show ρ1 18 = Value.func _ _ _ from hR.2.1) (aA (show ρ1 19 = Value.func _ _ _ from hR.2.2.1) a9)))) (ih1 w1 (hT.hp hj.hp) hj.hp.below) (fun _ _ hq => rd (hS1.ext hj.hp.below) (by omega) o1 hq)
   refine fN ?_
   refine eb ?_
   refine bq (i := 8) (fun ρ1 w1 hj hR => gw (l := h) aF.out aC.size (show ρ1 21 = Value.slice _ _ _ from hR.1) (show ρ1 22 = Value.int _ _ from hR.2.1) (by omega) (by omega) (by omega)) ?_
   refine z9 ?_
   refine z9 ?_
   refine bj (i := 11) (jb (k + (n - h)) (l.drop h)) (jb.ext) ?_ ?_
   ·intro ρ1 w1 hj hR
    exact bW rfl (a3 av.out (aA (show ρ1 23 = Value.slice _ _ _ from hR.1) (aA (show ρ1 24 = Value.func _ _ _ from hR.2.1) (aA (show ρ1 25 = Value.func _ _ _ from hR.2.2.1) a9)))) (ih2 w1 (hT.hp hj.hp) hj.hp.below) (fun _ _ hq => rd (hS2.ext hj.hp.below) (by omega) o2 hq)
   refine z9 ?_
   refine z9 ?_
   refine a0 ?_
   intro f W hJ hV
   have hb_4 := hJ.bl
   obtain ⟨v28, v27, v26, v25, v24, v23, v22, v21, v20, v19, v18, v17, v16, v15, _⟩ := hV
   obtain ⟨g20, e20, o20⟩ : jb (k + h) (l.take h) (f 5) W := v20
   obtain ⟨g26, e26, o26⟩ : jb (k + (n - h)) (l.drop h) (f 11) W := v26
   replace hh := hJ.hp
   refine aN (a4 (aa v28 (aa v27 (aa e26 (aa v25 (aa v24 (aa v23 (aa v22 (aa v21 (aa e20 (aa v19 (aa v18 (aa v17 (aa v16 (aa v15 aM))))))))))))))) ?_
   dsimp only [ca]
   clear e20 e26 hJ
   obtain ⟨p1, p2, p3, p4⟩ := o20
   obtain ⟨q1, q2, q3, q4⟩ := o26
   have l1 := p3.len
   have l2 := q3.len
   rw [List.length_take] at l1
   rw [List.length_drop] at l2
   refine aV (md g20.A g20.n g20.c g20.ts g26.A g26.n g26.c g26.ts (k + (n - h)) _ (hT.hp hh) p4 q4 p1 q1 (by omega) (by omega) (by omega) p3.nZ q3.nZ (p3.ok.mono (by omega)) (q3.ok.mono (by omega))) av.out rfl (by decide) ?_
   rintro e_ w29 ⟨L, A', c', hm, rfl, h3⟩
   refine ⟨_, rfl, ?_⟩
   replace hh := hh.join h3
   refine aL (ae (ao ?_))
   refine cA ?_
   refine .inr ⟨by omega, L, A', c', ?_, rfl, hh⟩
   have := p3.yJ q3 hm (j := k + n) (by omega)
   rwa [List.take_append_drop] at this
end Go.Proofs.YtaapkaefelhfcaaGreatDoor
/- A part of a row of one's own: append in place, clear of the tail. Plain lemmas, no program in sight. -/
namespace Go.Proofs.YtaapkaefelhfcaaGreatDoor
open Go.RowKit
variable {ro : Mode}
section
variable {P : Program} {N : Nat} {ops : Array Oper} {Q : Kq} {ρ : Rf} {w w0 : World} {rest : List Oper} {H : List HE} {ty d : Nat} {pos : String} {af : Array Edge}
theorem q7 (hh : Hp w0 H w) {t e : TypeId} {x : Operand} {i p c m c' o sz by' g : Nat} {ag : Bool} {zc xs : List Value} (hi : H[i]? = some (.row (some ⟨g, 0, none⟩) p c e sz xs)) (hx : ev ρ x = .slice (some ⟨g, o, none⟩) m c') (ho : p * sz ≤ o) (hom : o + m * sz ≤ c * sz) (hm : 0 < m)
  (ht : P.underlying t = some (.slice e)) (hte : db P e = some (sz, ag, by', zc)) (hzl : zc.length = sz) (h1 : (zc.all Value.oneCell') = true)
  (k : ∀ w', Hp w0 H w' → WL ro P N ops Q rest ρ w') : WL ro P N ops Q (⟨none, .call ⟨.builtin .clear, #[x], #[t]⟩, ty, pos, af, none⟩ :: rest) ρ w := by
 obtain ⟨z, hz, hzc⟩ := da (w := w) hte
 obtain ⟨hlen, h2⟩ := hh.at_ hi
 rcases h2 with ⟨h2, _⟩ | ⟨g', cap, cur, hv, hg, hheap, hmc, hcm, hcur, htake⟩
 ·cases h2
 ·injection hv with hA hn hcap
  injection hA with hA
  injection hA with hA
  subst hA; subst hcap
  have hcl : cur.size = cur.toList.length := by simp
  have hzr : (fe m zc).length = m * sz := by rw [gY, hzl]
  have hall : ∀ v ∈ fe m zc, v.oneCell' = true := fun v hv => by
   obtain ⟨j, hj⟩ := List.mem_iff_getElem?.1 hv
   have hj2 := (List.getElem?_eq_some_iff.1 hj).1
   rw [gY] at hj2
   rw [nC m zc j hj2] at hj
   exact List.all_eq_true.1 h1 v (List.mem_of_getElem? hj)
  obtain ⟨w', hr, hb', hgr, hs⟩ := eS (P := P) (b := g) (t := e) (fz := (0, 0)) o (fe m zc) 0 cur.toList w (by simpa using hheap) (.inr (Nat.le_refl _)) (by rw [← hcl, hzr]; omega) hall
  have hset := oE hi
  refine qQ rfl rfl (w' := w') (v := .tuple #[]) ?_ (k w' (hset ▸ hh.grown hi hgr (.inl rfl) ⟨hlen, .inr ⟨g, c, (cB cur.toList (o + 0) (fe m zc)).toArray, rfl, hg, by simpa using hb', hmc, hcm, ?_, ?_⟩⟩))
  ·simp only [execOp, resolve, invoke, hx, List.map_toArray, List.map_cons, List.map_nil]
   have hzz : Builtin.zeroCells z.cells m = (fe m zc).toArray := by
    rw [Builtin.zeroCells, hzc, List.size_toArray]; exact iE m zc
   obtain ⟨q, rfl⟩ : ∃ q, m = q + 1 := ⟨m - 1, by omega⟩
   simp [builtin, Builtin.clear_, run_underlying ht, hz, hzz, hr]
  ·simp only [List.size_toArray]
   rw [ez (by rw [← hcl, hzr]; omega), ← hcl, hcur]
  ·simp only [cB]
   rw [List.append_assoc, List.take_append_of_le_length (by rw [List.length_take, ← hcl]; omega), List.take_take, Nat.min_eq_left (by omega)]
   exact htake
end
end Go.Proofs.YtaapkaefelhfcaaGreatDoor
/- Append to a slice without room, whose memory nobody needs. Plain lemmas, no program in sight. -/
namespace Go.Proofs.YtaapkaefelhfcaaGreatDoor
open Go.RowKit
variable {ro : Mode}
section
variable {P : Program} {N : Nat} {ops : Array Oper} {Q : Kq} {ρ : Rf} {w w0 : World} {rest : List Oper} {d : Nat} {ty : TypeId} {pos : String} {af : Array Edge}
theorem vN {t e u : TypeId} {x y : Operand} {A : Option Addr} {n c n' c' : Nat} (ht : P.underlying t = some (.slice e)) (hx : ev ρ x = .slice A n c) (hy : ev ρ y = .slice none n' c') (hN : d < N)
  (kk : WL ro P N ops Q rest (cL ρ d (.bool A.isNone)) w) : WL ro P N ops Q (⟨some d, .binOp .eql t x y u, ty, pos, af, none⟩ :: rest) ρ w :=
 a8 rfl rfl hN (by
  have h1 := Go.Lib.run_eql_slice_nil (P := P) w t e A n c n' c' ht
  simp only [execOp, hx, hy]
  simp [eqGuard, h1]) kk
end
end Go.Proofs.YtaapkaefelhfcaaGreatDoor
