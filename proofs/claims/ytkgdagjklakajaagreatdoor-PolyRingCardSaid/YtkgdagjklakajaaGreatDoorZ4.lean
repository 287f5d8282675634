/- Lemmas for polyRing, part 4. -/
import Derived.LaidMore
import Derived.Lay
import Derived.Deep.Slices
import Derived.Stop.Joined
import Derived.Deep.Strs
import Derived.Laws.OwnMore
import Derived.Lib.SliceRun
import Derived.Test.YtkgdagjklakajaaGreatDoorZ3
/- Several texts in one: RefA, RefB, RefC, RefD. -/
namespace Go.Proofs.YtkgdagjklakajaaGreatDoor
open Go.RowKit
theorem Sl.z8 {w : World} {A : Option Addr} {n : Nat} {xs : List Nat} (h : Sl w A n 1 (eZ xs)) {k : Nat} (hk : k ≤ n) : Sl w A k 1 (eZ (xs.take k)) := by
 have hl := h.1
 rw [bY] at hl
 refine ⟨by rw [bY, List.length_take]; omega, fun h0 => ?_⟩
 obtain ⟨ad, he, hr⟩ := h.2 (by omega)
 exact ⟨ad, he, by rw [qV]; exact hr.take k⟩
theorem Sl.zY {w : World} {A : Option Addr} {n : Nat} {xs : List Nat} (h : Sl w A n 1 (eZ xs)) : Sl w A (di xs).length 1 (eZ (di xs)) := by
 have hl := h.1
 rw [bY] at hl
 have := er xs
 have h2 := h.z8 (k := (di xs).length) (by omega)
 rwa [← gq] at h2
theorem Hp.zr {w0 w : World} {H : List HE} {A : Option Addr} {n c : Nat} {t : TypeId} {xs : List Nat} (h : Hp w0 (.row A n c t 1 (eZ xs) :: H) w) (hl : xs.length = n) : Hp w0 (.row A (di xs).length c t 1 (eZ (di xs)) :: H) w := by
 have h1 := er xs
 have h2 := h.sx (k := (di xs).length) (by omega)
 rw [Nat.mul_one, ← qV, ← gq] at h2
 exact h2
theorem iL (A : Option Addr) (n c : Nat) (xs : List Nat) (w : World) (hx : Sl w A n 1 (eZ xs)) (hc : n ≤ c) (hn : n ≤ 1000000000000) :
  Calls Tryz.prog 237 #[.slice A n c] w fun e w' => e = .returned (.slice A (di xs).length c) ∧ Below w.heap.size w w' := by
 have hlen : xs.length = n := by have := hx.1; rw [bY] at this; omega
 have hh := Hp.start w
 refine ak (N := 21) (l := [.slice A n c]) Tryz.func237 rfl rfl (by simp) ?_
 refine sr (aL (aa (sr (mL (a5 (aI (aa (ai (aq ?_)))))))))
 refine bD [3, 6, 7, 8, 9, 10, 11, 12, 13, 14, 15, 16, 17] 3
  (fun v w' => ∃ k : Nat, k ≤ n ∧ v = .int .i64 k ∧ di (xs.take k) = di xs ∧ w' = w)
  (fun v _ => (intOf v).toNat) ?_ ?_
 ·exact ⟨n, Nat.le_refl _, rfl, by rw [List.take_of_length_le (by omega)], rfl⟩
 ·rintro ρ' v w' ⟨k, hk, rfl, hcut, rfl⟩
  by_cases h0 : k = 0
  ·subst h0
   refine ai (sr (mI ?_))
   refine cg (mB ?_)
   first | refine gS ?_ | (refine gT ?_; refine mL ?_) | refine gV ?_
   first | refine gS ?_ | (refine gT ?_; refine mI ?_) | refine gV ?_
   first | refine gS ?_ | (refine gT ?_; refine fp ?_) | refine gV ?_
   first | refine gS ?_ | (refine gT ?_; refine fY aJ.out aC.size rfl rfl (by omega) (by omega) (by decide) ?_) | refine gV ?_
   first | (refine bH (by decide) rfl rfl (by decide) ?_) | (refine fF (by decide) rfl rfl ?_)
   first | refine gS ?_ | (refine gT ?_; refine cI ?_) | refine gV ?_
   first | refine ct ?_ | refine cq ?_
   refine aa (cF ?_)
   refine a4 ?_
   refine aD (aD (bp (aj (sr (mL (mI ?_))))))
   refine k7 (h := 0) aJ.out aC.size rfl rfl (by omega) (by omega) (by decide) ?_
   refine aL (aa (ao ?_))
   refine cd ?_
   rw [← hcut]
   exact ⟨rfl, hh.below⟩
  ·obtain ⟨j, rfl⟩ : ∃ j, k = j + 1 := ⟨k - 1, by omega⟩
   obtain ⟨d, hd⟩ := aR (l := xs) (k := j) (by omega)
   obtain ⟨ad, rfl, hr⟩ := hx.at_ (by omega)
   have hd2 := lA hd
   rw [aW hd] at hcut
   by_cases hz : d = 0
   ·subst hz
    rw [nn] at hcut
    refine ai (sr (mI ?_))
    refine cg (mB ?_)
    first | refine gS ?_ | (refine gT ?_; refine mL ?_) | refine gV ?_
    first | refine gS ?_ | (refine gT ?_; refine mI ?_) | refine gV ?_
    first | refine gS ?_ | (refine gT ?_; refine fp ?_) | refine gV ?_
    first | refine gS ?_ | (refine gT ?_; refine a0 (k := j) aJ.out aC.size rfl rfl (by omega) (by omega) (by decide) ?_) | refine gV ?_
    first | refine gS ?_ | (refine gT ?_; refine bJ aC.out rfl ((hr.ext hh.below).mg (by assumption)) (by decide) ?_) | refine gV ?_
    first | refine gS ?_ | (refine gT ?_; refine cI ?_) | refine gV ?_
    first | refine ct ?_ | refine cq ?_
    refine aa (cT (al (aj (aq (au (mI ?_))))))
    refine fp (aI (aK (a3 (aj ?_))))
    refine ⟨⟨j, by omega, by show Value.int _ _ = Value.int _ _; congr 1; omega, hcut, rfl⟩, by show (((j + 1 : Nat) : Int) - 1).toNat < (((j + 1 : Nat) : Int)).toNat; omega, ?_⟩
    (repeat (first | exact aA _ _ _ | refine aE rfl ?_ | refine ax rfl ?_))
   ·rw [oG hz] at hcut
    refine ai (sr (mI ?_))
    refine cg (mB ?_)
    first | refine gS ?_ | (refine gT ?_; refine mL ?_) | refine gV ?_
    first | refine gS ?_ | (refine gT ?_; refine mI ?_) | refine gV ?_
    first | refine gS ?_ | (refine gT ?_; refine fp ?_) | refine gV ?_
    first | refine gS ?_ | (refine gT ?_; refine a0 (k := j) aJ.out aC.size rfl rfl (by omega) (by omega) (by decide) ?_) | refine gV ?_
    first | refine gS ?_ | (refine gT ?_; refine bJ aC.out rfl ((hr.ext hh.below).mg (by assumption)) (by decide) ?_) | refine gV ?_
    first | refine gS ?_ | (refine gT ?_; refine cI ?_) | refine gV ?_
    first | refine ct ?_ | refine cq ?_
    refine aa (cF ?_)
    refine a4 ?_
    refine aD (aD (bp (aj (sr (mL (mI ?_))))))
    refine k7 (h := j + 1) aJ.out aC.size rfl rfl (by omega) (by omega) (by decide) ?_
    refine aL (aa (ao ?_))
    refine cd ?_
    rw [← hcut, List.length_append, List.length_take, Nat.min_eq_left (by omega)]
    exact ⟨rfl, hh.below⟩
theorem vq {s : List UInt8} {j k : Nat} {c : UInt8} (hc : (rN s)[j]? = some c.toNat) (hk : k < 8) : c.toNat / 2 ^ k % 2 = bn s / 2 ^ (8 * j + k) % 2 := by
 have h1 := mi (p5 s) hc
 rw [← h1, ← bn, Nat.pow_add, Nat.pow_mul, show (2 ^ 8 : Nat) = 256 from rfl, ← Nat.div_div_eq_div_mul]
 generalize bn s / 256 ^ j = m
 have e : (256 : Nat) = 2 ^ k * 2 ^ (8 - k) := by rw [← Nat.pow_add, show k + (8 - k) = 8 by omega]
 have e2 : 2 ^ (8 - k) = 2 * 2 ^ (7 - k) := by rw [← Nat.pow_succ']; congr 1; omega
 rw [e, Nat.mod_mul_right_div_self, e2, Nat.mod_mul_right_mod]
theorem cX (a : ByteArray) (w : World) (ha : a.size ≤ 1000000000) :
  Calls Tryz.prog 216 #[.string a] w fun e w' => ∃ A c, e = .returned (.slice A (aT 2 (bN a)).length c) ∧ w'.ownsRow w.heap.size 5 1 (.slice A (aT 2 (bN a)).length c) (aT 2 (bN a)).length (eZ (aT 2 (bN a))) ∧ Below w.heap.size w w' := by
 have hsz := dF a
 have hh := Hp.start w
 refine ak (N := 28) (l := [.string a]) Tryz.func216 rfl rfl (by simp) ?_
 refine sr (aL (aa (sr (aL (aa (ai (sr (mS ?_))))))))
 refine bB aJ.out rfl (by decide) ?_
 refine fp (aI (aa (aq ?_)))
 replace hh := hh.fE 5 1
 refine cY [3, 4, 5, 9, 10, 11, 12, 13, 14, 15, 16, 17, 18, 19, 20, 21, 22, 23, 24, 25] 3 4
  (fun o v w' => ∃ (j : Nat) (A : Option Addr) (c : Nat), j ≤ a.size ∧ v = .int .i64 ((a.size : Int) - 1 - j) ∧ o = .slice A (8 * j) c ∧ Hp w [.row A (8 * j) c 5 1 (eZ (bF 2 (8 * j) (bN a)))] w')
  (fun _ v _ => (intOf v + 1).toNat) ?_ ?_
 ·exact ⟨0, none, 0, Nat.zero_le _, by show Value.int _ _ = Value.int _ _; congr 1; omega, rfl, hh⟩
 ·clear hh
  rintro ρ' o v w' ⟨j, A, c, hj, rfl, rfl, hh⟩
  by_cases hlt : j < a.size
  ·obtain ⟨ch, hc⟩ := aR (l := a.data.toList) (k := ((a.size : Int) - 1 - j).toNat) (by omega)
   have hlo := wg (s := a.data.toList) (i := j) (c := ch) (by omega) (by rw [← hc]; congr 1; omega)
   have hc8 := ch.toNat_lt
   refine ai (sr (mI ?_))
   refine dx (aa (cT (al (aj (ai (aq (sr (aI (aa (aq ?_))))))))))
   refine cY [3, 5, 13, 14, 15, 16, 17, 18, 19, 20, 21, 22, 23, 24, 25] 3 5
    (fun o v w' => ∃ (k : Nat) (A : Option Addr) (c : Nat), k ≤ 8 ∧ v = .int .i64 (k : Int) ∧ o = .slice A (8 * j + k) c ∧ Hp w [.row A (8 * j + k) c 5 1 (eZ (bF 2 (8 * j + k) (bN a)))] w')
    (fun _ v _ => 8 - (intOf v).toNat) ?_ ?_
   ·exact ⟨0, A, c, Nat.zero_le _, rfl, rfl, hh⟩
   ·clear hh
    rintro ρ2 o v w2 ⟨k, A2, c2, hk, rfl, rfl, hh⟩
    by_cases hk8 : k < 8
    ·have hst := vq hlo hk8
     have hand : ∀ z : Nat, z &&& 1 = z % 2 := fun z => Nat.and_one_is_mod z
     have hcl : ch.toNat / 2 ^ (k : Int).toNat < 256 := Nat.lt_of_le_of_lt (Nat.div_le_self _ _) hc8
     refine ai (sr (mI ?_))
     refine aZ (aa (cT (al (aj (ai (aq (au (mL (mS (mI ?_))))))))))
     refine bL aJ.out rfl rfl (by omega) (by assumption) (by decide) ?_
     refine mI ?_
     refine rW rfl rfl (by omega) (by decide) ?_
     refine jo (b := 1) rfl rfl (by first | assumption | omega) (by first | assumption | omega) (by decide) ?_
     refine aO hh (cs := [_]) aJ.out aC.out (aG (bI rfl) bC) rfl rfl (by decide) (by decide) (by decide) rfl (by decide) ?_
     intro b24 w24 hh
     refine cO hh (i := 1) rfl rfl rfl (hh.az (i := 0) rfl) aJ.out aC.out rfl (by decide) (by first | rfl | exact dK _ | exact cU _ | exact oneCells_i64s _ | exact cz NR.one _) (by omega) (by omega) (by decide) ?_
     intro A25 c25 w25 hh
     simp only [List.set_cons_zero, List.set_cons_succ] at hh
     replace hh := hh.sub (List.sublist_cons_self _ _)
     refine aL (aK (a3 (aj (au (mI ?_)))))
     refine bO (aI (aK (aj ?_)))
     have e1 : eZ (bF 2 (8 * j + k) (bN a)) ++ [Value.int .u8 ((ch.toNat / 2 ^ (k : Int).toNat &&& 1 : Nat) : Int)] = eZ (bF 2 (8 * j + (k + 1)) (bN a)) := by
      rw [hand, Int.toNat_natCast, hst, ← Nat.add_assoc, ig, nu]; rfl
     rw [e1] at hh
     refine ⟨⟨k + 1, A25, c25, by omega, rfl, rfl, hh⟩, by show 8 - (k + 1) < 8 - k; omega, ?_⟩
     (repeat (first | exact aA _ _ _ | refine aE rfl ?_ | refine ax rfl ?_))
    ·obtain rfl : k = 8 := by omega
     refine ai (sr (mI ?_))
     refine aZ (aa (cF ?_))
     refine a4 ?_
     refine aD (aD (bp (a3 (aj (au (mI ?_))))))
     refine fp (aI (aK (aj ?_)))
     refine ⟨⟨j + 1, A2, c2, by omega, by show Value.int _ _ = Value.int _ _; congr 1; omega, rfl, hh⟩, by show ((a.size : Int) - 1 - j - 1 + 1).toNat < ((a.size : Int) - 1 - j + 1).toNat; omega, ?_⟩
     (repeat (first | exact aA _ _ _ | refine aE rfl ?_ | refine ax rfl ?_))
  ·obtain rfl : j = a.size := by omega
   refine ai (sr (mI ?_))
   refine dx (aa (cF ?_))
   refine a4 ?_
   refine aD (aD (bp (aj (sr (mL ?_)))))
   refine bE hh (iL _ _ _ (bF 2 (8 * a.size) (bN a)) _ (hh.az (i := 0) rfl) (hh.dh (i := 0) rfl) (by omega)) rfl ?_
   intro w27 hh
   refine aL (aa (ao ?_))
   refine cd ?_
   have hb := oC a
   rw [show (256 : Nat) = 2 ^ 8 from rfl, ← Nat.pow_mul] at hb
   have hd : di (bF 2 (8 * a.size) (bN a)) = aT 2 (bN a) := by
    rw [eB (by omega) (ek (by omega) _ _), bZ hb]
   have h1 := (Hp.zr (xs := bF 2 (8 * a.size) (bN a)) hh (aN _ _)).at_ (i := 0) rfl
   rw [hd] at h1
   rw [hd]
   exact ⟨_, _, rfl, h1, hh.below⟩
theorem x8 {l : List Nat} {j v : Nat} (h : j < l.length) : l.reverse.set (l.length - 1 - j) v = (l.set j v).reverse := by
 apply List.ext_getElem?
 intro i
 rcases Nat.lt_or_ge i l.length with hi | hi
 ·rw [List.getElem?_reverse (by rw [List.length_set]; exact hi), List.length_set, List.getElem?_set, List.getElem?_set, List.getElem?_reverse hi, List.length_reverse]
  by_cases he : l.length - 1 - j = i
  ·rw [if_pos he, if_pos (by omega), if_pos (by omega), if_pos h]
  ·rw [if_neg he, if_neg (by omega)]
 ·rw [List.getElem?_eq_none (by simp; omega), List.getElem?_eq_none (by simp; omega)]
theorem sJ {i b k : Nat} (P : Nat) (hP : P < 2 ^ i) (hb : b < 2) (hk : i / 8 < k) : P / 256 ^ (i / 8) % 256 + b * 2 ^ (i % 8) < 256 ∧ (bF 256 k P).set (i / 8) (P / 256 ^ (i / 8) % 256 + b * 2 ^ (i % 8)) = bF 256 k (P + 2 ^ i * b) := by
 have hp : 2 ^ i = 256 ^ (i / 8) * 2 ^ (i % 8) := by
  rw [show (256 : Nat) = 2 ^ 8 from rfl, ← Nat.pow_mul, ← Nat.pow_add]; congr 1; omega
 have h1 : P / 256 ^ (i / 8) < 2 ^ (i % 8) := by
  rw [Nat.div_lt_iff_lt_mul (Nat.pow_pos (by omega)), Nat.mul_comm, ← hp]; exact hP
 have h2 : 2 ^ (i % 8) ≤ 128 := by
  have := Nat.pow_le_pow_right (show 0 < 2 by omega) (show i % 8 ≤ 7 by omega)
  omega
 have h3 : P / 256 ^ (i / 8) % 256 < 2 ^ (i % 8) := Nat.lt_of_le_of_lt (Nat.mod_le _ _) h1
 have h4 : b * 2 ^ (i % 8) ≤ 1 * 2 ^ (i % 8) := Nat.mul_le_mul_right _ (by omega)
 have h5 : 2 ^ i * b = 256 ^ (i / 8) * (b * 2 ^ (i % 8)) := by rw [hp, Nat.mul_assoc, Nat.mul_comm b]
 refine ⟨by omega, ?_⟩
 rw [h5]
 refine kY (by omega) hk ?_ (by omega)
 rw [← h5]
 have h6 : 2 ^ i * b ≤ 2 ^ i * 1 := Nat.mul_le_mul_left _ (by omega)
 have h7 : 2 ^ (i + 1) ≤ 256 ^ k := by
  rw [show (256 : Nat) = 2 ^ 8 from rfl, ← Nat.pow_mul]
  exact Nat.pow_le_pow_right (by omega) (by omega)
 rw [Nat.pow_succ] at h7
 omega
theorem ee (A : Option Addr) (n c : Nat) (xs : List Nat) (w : World) (hx : Sl w A n 1 (eZ xs)) (hd : Dg 2 xs) (hc : n ≤ c) (hn : n ≤ 100000000000) :
  Calls Tryz.prog 232 #[.slice A n c] w fun e w' => e = .returned (.string (sN (bk 2 xs))) ∧ Below w.heap.size w w' := by
 have hl := hx.1
 rw [bY] at hl
 have hcl := er xs
 have hcx := hx.zY
 have hcan := eB (by omega) hd
 have hlen := r3 (bk 2 xs)
 rw [hcan] at hcl hcx
 have hcd := (dg (B := 2) (by omega) (bk 2 xs)).1
 have hcv := dr (B := 2) (by omega) (bk 2 xs)
 have hbl : (aT 2 (bk 2 xs)).length = bA (bk 2 xs) := rfl
 have hh := Hp.start w
 refine ak (N := 38) (l := [.slice A n c]) Tryz.func232 rfl rfl (by simp) ?_
 refine sr (aS (aa (sr (mL ?_))))
 refine bE hh (iL _ _ _ xs _ hx hc (by omega)) rfl ?_
 intro w6 hh
 rw [hcan]
 generalize bk 2 xs = M at *
 generalize aT 2 M = xs' at *
 refine aL (aa (sr (mL (a5 ?_))))
 refine bO ?_
 refine ie rfl rfl (by omega) (by omega) (by omega) (by decide) ?_
 refine fH (n := (xs'.length + 7) / 8) hh rfl rfl (by omega) (by omega) aJ.out aC.out rfl (by omega) (by omega) (by decide) ?_
 intro b11 w11 hh
 refine aL (aa (ai (sr (aI (aa (aq ?_))))))
 rw [k6] at hh
 refine bD [4, 12, 13, 14, 15, 16, 17, 18, 19, 20, 21, 22, 23, 24, 25, 26, 27, 28, 29, 30, 31, 32, 33, 34, 35] 4
  (fun v w' => ∃ i : Nat, i ≤ xs'.length ∧ v = .int .i64 i ∧ Hp w [.row (some ⟨b11, 0, none⟩) ((xs'.length + 7) / 8) ((xs'.length + 7) / 8) 5 1 (eZ (bF 256 ((xs'.length + 7) / 8) (bk 2 (xs'.take i))).reverse)] w')
  (fun v _ => xs'.length - (intOf v).toNat) ?_ ?_
 ·exact ⟨0, Nat.zero_le _, rfl, by rw [List.take_zero, bk, lL, List.reverse_replicate]; exact hh⟩
 ·clear hh
  rintro ρ' v w' ⟨i, hi, rfl, hh⟩
  by_cases hlt : i < xs'.length
  ·obtain ⟨d, hdi⟩ := aR (l := xs') (k := i) (by omega)
   obtain ⟨ad, rfl, hr⟩ := hcx.at_ (by omega)
   have hd2 := lA hdi
   have hdw := hcd.at_ hdi
   have hP := fN (hcd.take i)
   rw [List.length_take, Nat.min_eq_left (by omega)] at hP
   obtain ⟨s1, s2⟩ := sJ (k := (xs'.length + 7) / 8) (bk 2 (xs'.take i)) hP hdw (by omega)
   have hg : (bF 256 ((xs'.length + 7) / 8) (bk 2 (xs'.take i))).reverse[(xs'.length + 7) / 8 - 1 - i / 8]? = some (bk 2 (xs'.take i) / 256 ^ (i / 8) % 256) := by
    rw [List.getElem?_reverse (by rw [aN]; omega), aN, show (xs'.length + 7) / 8 - 1 - ((xs'.length + 7) / 8 - 1 - i / 8) = i / 8 by omega]
    exact fD _ _ _ (by omega)
   have hg2 := lA hg
   have e1 : ((i : Int) % 8).toNat = i % 8 := by omega
   have hset := x8 (l := bF 256 ((xs'.length + 7) / 8) (bk 2 (xs'.take i))) (j := i / 8) (v := bk 2 (xs'.take i) / 256 ^ (i / 8) % 256 + d * 2 ^ (i % 8)) (by rw [aN]; omega)
   rw [aN, s2] at hset
   refine ai (sr (mI (mL (a5 ?_))))
   refine aZ (aa (cT (al (aj (ai (aq ?_))))))
   refine bf 16 [[(3, none)], [(3, none)], [(19, some 1)], [(20, some 2)], [(4, none)], [(22, some 4)], [(21, some 3), (23, some 5)], [(18, some 0), (24, some 6)], [(25, some 7)], [(0, none)], [(4, none)], [(27, some 9), (28, some 10)], [(29, some 11)], [(4, none)], [(31, some 13)], [(30, some 12), (32, some 14)]] [(15, 33), (14, 32), (13, 31), (12, 30), (11, 29), (10, 28), (9, 27), (8, 26), (7, 25), (6, 24), (5, 23), (4, 22), (3, 21), (2, 20), (1, 19), (0, 18)] hh mixed (by kernel_rfl) ?_
   refine iB ?_
   refine iB ?_
   refine AK ?_
   refine n8 ?_
   refine fe ?_
   refine bm (i := 5) (fun ρ1 w1 hj hR => pJ (show ρ1 22 = Value.int _ _ from hR.1) rfl (by omega) (by omega) (by omega)) ?_
   refine n8 ?_
   refine zQ ((xs'.length + 7) / 8 - 1 - i / 8) ?_
   refine bm (i := 8) (fun ρ1 w1 hj hR => gU aC.out (show ρ1 25 = Value.pointer _ from hR.1) (hj.hp.cE (i := 0) rfl (by rw [Nat.mul_one]; exact hg2))) ?_
   refine iB ?_
   refine fe ?_
   refine lY (i) ?_
   refine lf (fun _ hj => (hr.ext hj.hp.below).mg hd2) ?_
   refine fe ?_
   refine bm (i := 14) (fun ρ1 w1 hj hR => lJ (show ρ1 31 = Value.int _ _ from hR.1) rfl (by omega) (by omega)) ?_
   refine bm (i := 15) (fun ρ1 w1 hj hR => pT (show ρ1 30 = Value.int _ _ from hR.1) (show ρ1 32 = Value.int _ _ from hR.2.1) (by omega)) ?_
   refine bo ?_
   intro f W hJ hV
   have hb_6 := hJ.bl
   obtain ⟨v33, v32, v31, v30, v29, v28, v27, v26, v25, v24, v23, v22, v21, v20, v19, v18, _⟩ := hV
   replace hh := hJ.hp
   refine a7 (bu (ah v33 (ah v32 (ah v31 (ah v30 (ah v29 (ah v28 (ah v27 (ah v26 (ah v25 (ah v24 (ah v23 (ah v22 (ah v21 (ah v20 (ah v19 (ah v18 a6))))))))))))))))) ?_
   dsimp only [cJ]
   clear hJ
   refine fQ rfl rfl (by decide) ?_
   refine bs (k := (xs'.length + 7) / 8 - 1 - i / 8) aJ.out aC.size rfl rfl (by omega) (by omega) (by decide) ?_
   refine br hh (i := 0) (vs := [_]) rfl rfl (bI rfl) rfl aC.out rfl (by rw [bY, List.length_reverse, aN]; omega) rfl ?_
   intro ws hh
   simp only [List.set_cons_zero] at hh
   rw [e1, Nat.mod_eq_of_lt (show d * 2 ^ (i % 8) < 256 by omega), Nat.mod_eq_of_lt s1, Nat.mul_one, bX (by rw [bY, List.length_reverse, aN]; omega), jO, hset, ← ez hdi] at hh
   refine aK (a3 (aj (au (mI ?_))))
   refine bO (aI (aK (aj ?_)))
   refine ⟨⟨i + 1, by omega, rfl, hh⟩, by show xs'.length - (i + 1) < xs'.length - i; omega, ?_⟩
   (repeat (first | exact aA _ _ _ | refine aE rfl ?_ | refine ax rfl ?_))
  ·obtain rfl : i = xs'.length := by omega
   rw [List.take_length, hcv, hbl] at hh
   have hfin : eZ (bF 256 ((bA M + 7) / 8) M).reverse = j6 (sb M) := by
    rw [← hlen]
    have h1 : M < 256 ^ (aT 256 M).length := jL (by omega) M
    rw [qY (by omega) h1, Nat.sub_self, List.replicate_zero, List.append_nil, oT (fun d hd => (dg (B := 256) (by omega) M).1 d (List.mem_reverse.1 hd)), sb, List.map_reverse]
   rw [hfin, ← hbl] at hh
   refine ai (sr (mI (mL (a5 ?_))))
   refine aZ (aa (cF ?_))
   refine a4 ?_
   refine aD (aD (bp (aj (sr (mL ?_)))))
   refine jl aJ.out aJ.out aJ.out rfl (hh.az (i := 0) rfl) (by decide) ?_
   refine aS (aa (ao ?_))
   refine cd ?_
   exact ⟨rfl, hh.below⟩
end Go.Proofs.YtkgdagjklakajaaGreatDoor
namespace Go.Proofs.YtkgdagjklakajaaGreatDoor
open Go.RowKit
theorem xT {xs : List Nat} (h : Dg 2 xs) (i : Nat) : bk 2 xs / 2 ^ i % 2 = (xs[i]?).getD 0 := by
 cases hi : xs[i]? with
 | some d => exact mi h hi
 | none =>
  rw [mD h (List.getElem?_eq_none_iff.1 hi) (by omega)]; rfl
theorem cK (A : Option Addr) (n c i : Nat) (xs : List Nat) (w : World) (hx : Sl w A n 1 (eZ xs)) (hd : Dg 2 xs) (hn : n ≤ 1000000000000) (hi : i ≤ 1000000000000) :
  Calls Tryz.prog 251 #[.slice A n c, .int .i64 (i : Int)] w fun e w' => e = .returned (.int .u8 ((bk 2 xs / 2 ^ i % 2 : Nat) : Int)) ∧ Below w.heap.size w w' := by
 have hl := hx.1
 rw [bY] at hl
 have hh := Hp.start w
 rw [xT hd]
 by_cases hlt : i < n
 ·obtain ⟨d, hdi⟩ := aR (l := xs) (k := i) (by omega)
  obtain ⟨ad, rfl, hr⟩ := hx.at_ (by omega)
  have hd2 := lA hdi
  rw [hdi]
  refine ak (N := 13) (l := [.slice (some ad) n c, .int .i64 (i : Int)]) Tryz.func251 rfl rfl (by simp) ?_
  refine sr (aI (aa (ai (sr (mI (mL (a5 ?_)))))))
  refine aZ (aa (cT (sr (mL (mI ?_)))))
  refine a0 (k := i) aJ.out aC.size rfl rfl (by omega) (by omega) (by decide) ?_
  refine bJ aC.out rfl ((hr.ext hh.below).mg (by assumption)) (by decide) ?_
  refine aI (aa (ao (aM ?_)))
  refine cd ?_
  exact ⟨rfl, hh.below⟩
 ·rw [List.getElem?_eq_none (by omega)]
  refine ak (N := 13) (l := [.slice A n c, .int .i64 (i : Int)]) Tryz.func251 rfl rfl (by simp) ?_
  refine sr (aI (aa (ai (sr (mI (mL (a5 ?_)))))))
  refine aZ (aa (cF (al (aj (sr (aI (aa (ao ?_))))))))
  refine cd ?_
  exact ⟨rfl, hh.below⟩
theorem iV (X i : Nat) : X / 2 ^ i = 2 * (X / 2 ^ (i + 1)) + X / 2 ^ i % 2 := by
 rw [Nat.pow_succ, ← Nat.div_div_eq_div_mul]; omega
theorem oA {X Y k : Nat} (h : X / 2 ^ k < Y / 2 ^ k) : X < Y := by
 refine Nat.lt_of_not_le fun h2 => ?_
 have := Nat.div_le_div_right (c := 2 ^ k) h2
 omega
theorem jv (A B : Option Addr) (n c m c' : Nat) (xs ys : List Nat) (w : World) (hx : Sl w A n 1 (eZ xs)) (hy : Sl w B m 1 (eZ ys)) (hdx : Dg 2 xs) (hdy : Dg 2 ys) (hn : n ≤ 100000000000) (hm : m ≤ 100000000000) :
  Calls Tryz.prog 250 #[.slice A n c, .slice B m c'] w fun e w' => e = .returned (.int .i64 (im (bk 2 xs) (bk 2 ys))) ∧ Below w.heap.size w w' := by
 have hlx := hx.1
 have hly := hy.1
 rw [bY] at hlx hly
 have hh := Hp.start w
 have e1 : (if (m : Int) > (n : Int) then (m : Int) else (n : Int)) - 1 = ((max n m : Nat) : Int) - 1 := by split <;> omega
 refine ak (N := 30) (l := [.slice A n c, .slice B m c']) Tryz.func250 rfl rfl (by simp) ?_
 refine sr (aI (aa (ai (sr (mL (a5 (mL (a5 ?_))))))))
 refine jc rfl rfl (by decide) ?_
 refine fp (aI (aa (aq ?_)))
 rw [e1]
 refine bD [4, 5, 12, 13, 14, 15, 16, 17, 18, 19, 20, 21, 22, 23, 24, 25, 26, 27, 28, 29] 5
  (fun v w' => ∃ k : Nat, k ≤ max n m ∧ v = .int .i64 ((k : Int) - 1) ∧ bk 2 xs / 2 ^ k = bk 2 ys / 2 ^ k ∧ Hp w [] w')
  (fun v _ => (intOf v + 1).toNat) ?_ ?_
 ·exact ⟨max n m, Nat.le_refl _, rfl, by rw [mD hdx (by omega) (by omega), mD hdy (by omega) (by omega)], hh⟩
 ·clear hh
  rintro ρ' v w' ⟨k, hk, rfl, heq, hh⟩
  by_cases h0 : k = 0
  ·subst h0
   refine ai (sr (mI ?_))
   refine dx (aa (cF ?_))
   refine a4 ?_
   refine aD (aD (bp (aj (sr (aI (aa (ao ?_)))))))
   refine cd ?_
   rw [Nat.pow_zero, Nat.div_one, Nat.div_one] at heq
   exact ⟨by rw [uf heq], hh.below⟩
  ·obtain ⟨j, rfl⟩ : ∃ j, k = j + 1 := ⟨k - 1, by omega⟩
   have hj : ((j + 1 : Nat) : Int) - 1 = (j : Int) := by omega
   have hXb := iV (bk 2 xs) j
   have hYb := iV (bk 2 ys) j
   by_cases hlt : bk 2 xs / 2 ^ j % 2 < bk 2 ys / 2 ^ j % 2
   ·have hf : bk 2 xs < bk 2 ys := oA (k := j) (by omega)
    rw [hj]
    refine ai (sr (mI ?_))
    refine dx (aa (cT (al (aj (ai (aq (ai (sr (mL (mI ?_))))))))))
    refine bE hh (cK A n c j xs _ (hx.ext hh.below) hdx (by omega) (by omega)) rfl ?_
    intro w18 hh
    refine mL (mI ?_)
    refine bE hh (cK B m c' j ys _ (hy.ext hh.below) hdy (by omega) (by omega)) rfl ?_
    intro w21 hh
    refine aZ (aa (cT (sr (aI (aa (ao (aM (bU (aM (aM (bU ?_)))))))))))
    refine aM ?_
    refine cd ?_
    exact ⟨by rw [iK hf], hh.below⟩
   ·by_cases hgt : bk 2 ys / 2 ^ j % 2 < bk 2 xs / 2 ^ j % 2
    ·have hf : bk 2 ys < bk 2 xs := oA (k := j) (by omega)
     rw [hj]
     refine ai (sr (mI ?_))
     refine dx (aa (cT (al (aj (ai (aq (ai (sr (mL (mI ?_))))))))))
     refine bE hh (cK A n c j xs _ (hx.ext hh.below) hdx (by omega) (by omega)) rfl ?_
     intro w18 hh
     refine mL (mI ?_)
     refine bE hh (cK B m c' j ys _ (hy.ext hh.below) hdy (by omega) (by omega)) rfl ?_
     intro w21 hh
     refine aZ (aa (cF (al (aj (sr (mL (mI ?_)))))))
     refine bE hh (cK A n c j xs _ (hx.ext hh.below) hdx (by omega) (by omega)) rfl ?_
     intro w25 hh
     refine mL (mI ?_)
     refine bE hh (cK B m c' j ys _ (hy.ext hh.below) hdy (by omega) (by omega)) rfl ?_
     intro w28 hh
     refine cg (aa (cT (sr (aI (aa (ao (bU (aM (aM (bU (aM ?_)))))))))))
     refine cd ?_
     exact ⟨by rw [qk hf], hh.below⟩
    ·rw [hj]
     refine ai (sr (mI ?_))
     refine dx (aa (cT (al (aj (ai (aq (ai (sr (mL (mI ?_))))))))))
     refine bE hh (cK A n c j xs _ (hx.ext hh.below) hdx (by omega) (by omega)) rfl ?_
     intro w18 hh
     refine mL (mI ?_)
     refine bE hh (cK B m c' j ys _ (hy.ext hh.below) hdy (by omega) (by omega)) rfl ?_
     intro w21 hh
     refine aZ (aa (cF (al (aj (sr (mL (mI ?_)))))))
     refine bE hh (cK A n c j xs _ (hx.ext hh.below) hdx (by omega) (by omega)) rfl ?_
     intro w25 hh
     refine mL (mI ?_)
     refine bE hh (cK B m c' j ys _ (hy.ext hh.below) hdy (by omega) (by omega)) rfl ?_
     intro w28 hh
     refine cg (aa (cF (al (a3 (aj (au (mI ?_)))))))
     refine fp (aI (aK (aj ?_)))
     refine ⟨⟨j, by omega, rfl, by omega, hh⟩, by show ((j : Int) - 1 + 1).toNat < ((j : Int) + 1).toNat; omega, ?_⟩
     (repeat (first | exact aA _ _ _ | refine aE rfl ?_ | refine ax rfl ?_))
theorem yj (S T i : Nat) : (S + T) / 2 ^ i % 2 = (S / 2 ^ i % 2 + (S % 2 ^ i + T % 2 ^ i) / 2 ^ i + T / 2 ^ i % 2) % 2 ∧ (S % 2 ^ (i + 1) + T % 2 ^ (i + 1)) / 2 ^ (i + 1) = (S / 2 ^ i % 2 + (S % 2 ^ i + T % 2 ^ i) / 2 ^ i + T / 2 ^ i % 2) / 2 ∧ (S % 2 ^ i + T % 2 ^ i) / 2 ^ i ≤ 1 := by
 have hS := Nat.div_add_mod S (2 ^ i)
 have hT := Nat.div_add_mod T (2 ^ i)
 have hp : 0 < 2 ^ i := Nat.pow_pos (by omega)
 have hS2 : S % 2 ^ (i + 1) = S % 2 ^ i + 2 ^ i * (S / 2 ^ i % 2) := by rw [Nat.pow_succ, Nat.mod_mul]
 have hT2 : T % 2 ^ (i + 1) = T % 2 ^ i + 2 ^ i * (T / 2 ^ i % 2) := by rw [Nat.pow_succ, Nat.mod_mul]
 have hSl := Nat.mod_lt S hp
 have hTl := Nat.mod_lt T hp
 have hc := Nat.div_add_mod (S % 2 ^ i + T % 2 ^ i) (2 ^ i)
 have hcl := Nat.mod_lt (S % 2 ^ i + T % 2 ^ i) hp
 have hc1 : (S % 2 ^ i + T % 2 ^ i) / 2 ^ i ≤ 1 := by
  have : (S % 2 ^ i + T % 2 ^ i) / 2 ^ i < 2 := by rw [Nat.div_lt_iff_lt_mul hp]; omega
  omega
 have e1 : (S + T) / 2 ^ i = S / 2 ^ i + T / 2 ^ i + (S % 2 ^ i + T % 2 ^ i) / 2 ^ i := by
  have : S + T = (S % 2 ^ i + T % 2 ^ i) % 2 ^ i + 2 ^ i * (S / 2 ^ i + T / 2 ^ i + (S % 2 ^ i + T % 2 ^ i) / 2 ^ i) := by
   rw [Nat.mul_add, Nat.mul_add]; omega
  conv => lhs; rw [this]
  rw [Nat.add_mul_div_left _ _ hp, Nat.div_eq_of_lt hcl, Nat.zero_add]
 refine ⟨by rw [e1]; omega, ?_, hc1⟩
 rw [hS2, hT2]
 have e2 : S % 2 ^ i + 2 ^ i * (S / 2 ^ i % 2) + (T % 2 ^ i + 2 ^ i * (T / 2 ^ i % 2)) = (S % 2 ^ i + T % 2 ^ i) % 2 ^ i + 2 ^ i * (S / 2 ^ i % 2 + (S % 2 ^ i + T % 2 ^ i) / 2 ^ i + T / 2 ^ i % 2) := by
  rw [Nat.mul_add, Nat.mul_add]; omega
 rw [e2, Nat.pow_succ, ← Nat.div_div_eq_div_mul, Nat.add_mul_div_left _ _ hp, Nat.div_eq_of_lt hcl, Nat.zero_add]
theorem zf (Y up i : Nat) : Y * 2 ^ up / 2 ^ i % 2 = if up ≤ i then Y / 2 ^ (i - up) % 2 else 0 := by
 split
 ·rename_i h
  have e : 2 ^ i = 2 ^ up * 2 ^ (i - up) := by rw [← Nat.pow_add]; congr 1; omega
  rw [e, ← Nat.div_div_eq_div_mul, Nat.mul_div_cancel _ (Nat.pow_pos (by omega))]
 ·rename_i h
  have e : 2 ^ up = 2 ^ i * 2 * 2 ^ (up - i - 1) := by rw [← Nat.pow_succ, ← Nat.pow_add]; congr 1; omega
  have e2 : Y * 2 ^ up = 2 ^ i * (2 * (Y * 2 ^ (up - i - 1))) := by rw [e]; simp only [Nat.mul_assoc, Nat.mul_left_comm]
  rw [e2, Nat.mul_div_cancel_left _ (Nat.pow_pos (by omega))]
  omega
theorem yS {K i N : Nat} (h : i < K) : (bF 2 i N ++ List.replicate (K - i) 0).set i (N / 2 ^ i % 2) = bF 2 (i + 1) N ++ List.replicate (K - (i + 1)) 0 := by
 rw [show K - i = (K - (i + 1)) + 1 by omega, List.replicate_succ, List.set_append_right _ _ (by rw [aN]; omega), aN, Nat.sub_self, List.set_cons_zero, ig]
 simp
theorem rL (A B : Option Addr) (n c m c' up : Nat) (xs ys : List Nat) (w : World) (hx : Sl w A n 1 (eZ xs)) (hy : Sl w B m 1 (eZ ys)) (hdx : Dg 2 xs) (hdy : Dg 2 ys) (hn : n ≤ 100000000000) (hm : m ≤ 100000000000) (hup : up ≤ 100000000000) :
  Calls Tryz.prog 234 #[.slice A n c, .slice B m c', .int .i64 (up : Int)] w fun e w' => ∃ b, e = .returned (.slice (some ⟨b, 0, none⟩) (max n (m + up) + 1) (max n (m + up) + 1)) ∧ w'.ownsRow w.heap.size 5 1 (.slice (some ⟨b, 0, none⟩) (max n (m + up) + 1) (max n (m + up) + 1)) (max n (m + up) + 1) (eZ (bF 2 (max n (m + up) + 1) (bk 2 xs + bk 2 ys * 2 ^ up))) ∧ Below w.heap.size w w' := by
 have hlx := hx.1
 have hly := hy.1
 rw [bY] at hlx hly
 have hh := Hp.start w
 have e1 : (if ((m : Int) + (up : Int)) > (n : Int) then ((m : Int) + (up : Int)) else (n : Int)) + 1 = ((max n (m + up) + 1 : Nat) : Int) := by split <;> omega
 have hand : ∀ z : Nat, z &&& 1 = z % 2 := fun z => Nat.and_one_is_mod z
 refine ak (N := 49) (l := [.slice A n c, .slice B m c', .int .i64 (up : Int)]) Tryz.func234 rfl rfl (by simp) ?_
 refine sr (aL (aa (sr (mL (a5 (mL (a5 (mI ?_))))))))
 refine bO ?_
 refine jc rfl rfl (by decide) ?_
 refine bO ?_
 rw [e1]
 generalize hK : max n (m + up) + 1 = K at *
 refine fH (n := K) hh rfl rfl (by omega) (by omega) aJ.out aC.out rfl (by omega) (by omega) (by decide) ?_
 intro b19 w19 hh
 refine aL (aa (sr (aI (aa (ai (sr (aI (aa (aq ?_)))))))))
 rw [k6] at hh
 refine cY [8, 9, 10, 20, 21, 22, 23, 24, 25, 26, 27, 28, 29, 30, 31, 32, 33, 34, 35, 36, 37, 38, 39, 40, 41, 42, 43, 44, 45, 46, 47] 8 9
  (fun cr v w' => ∃ i : Nat, i ≤ K ∧ v = .int .i64 (i : Int) ∧ cr = .int .u8 (((bk 2 xs % 2 ^ i + bk 2 ys * 2 ^ up % 2 ^ i) / 2 ^ i : Nat) : Int) ∧ Hp w [.row (some ⟨b19, 0, none⟩) K K 5 1 (eZ (bF 2 i (bk 2 xs + bk 2 ys * 2 ^ up) ++ List.replicate (K - i) 0))] w')
  (fun _ v _ => K - (intOf v).toNat) ?_ ?_
 ·exact ⟨0, Nat.zero_le _, rfl, by simp [Nat.mod_one]; rfl, hh⟩
 ·clear hh
  rintro ρ' cr v w' ⟨i, hi, rfl, rfl, hh⟩
  by_cases hlt : i < K
  ·obtain ⟨b1, b2, b3⟩ := yj (bk 2 xs) (bk 2 ys * 2 ^ up) i
   have hbu := zf (bk 2 ys) up i
   have hxb : bk 2 xs / 2 ^ i % 2 < 2 := Nat.mod_lt _ (by omega)
   have hyb : bk 2 ys / 2 ^ (i - up) % 2 < 2 := Nat.mod_lt _ (by omega)
   have hll : (eZ (bF 2 i (bk 2 xs + bk 2 ys * 2 ^ up) ++ List.replicate (K - i) 0)).length = K := by rw [bY, List.length_append, aN, List.length_replicate]; omega
   have hfk := yS (N := bk 2 xs + bk 2 ys * 2 ^ up) hlt
   generalize hC : (bk 2 xs % 2 ^ i + bk 2 ys * 2 ^ up % 2 ^ i) / 2 ^ i = C at *
   generalize hX : bk 2 xs / 2 ^ i % 2 = X at *
   refine ai (sr (mI (mL (a5 ?_))))
   refine aZ (aa (cT (al (aj (ai (aq (sr (mL (mI ?_)))))))))
   refine bE hh (cK A n c i xs _ (hx.ext hh.below) hdx (by omega) (by omega)) rfl ?_
   intro w28 hh
   rw [hX]
   by_cases hiu : up ≤ i
   ·rw [if_pos hiu] at hbu
    rw [hbu] at b1 b2
    generalize hY : bk 2 ys / 2 ^ (i - up) % 2 = Y at *
    have es : ((X + C) % 256 + Y) % 256 = X + C + Y := by omega
    have ei : (i : Int) - (up : Int) = ((i - up : Nat) : Int) := by omega
    refine mI ?_
    refine fQ rfl rfl (by decide) ?_
    refine aI (aa (ai (sr (mI (mI ?_)))))
    refine dx (aa (cT (au (mI (mL (mI (mI ?_)))))))
    refine fp ?_
    rw [ei]
    refine bE hh (cK B m c' (i - up) ys _ (hy.ext hh.below) hdy (by omega) (by omega)) rfl ?_
    intro w39 hh
    rw [hY]
    refine fQ rfl rfl (by decide) ?_
    refine aI (aa (sr (mL (mI (mI ?_)))))
    refine jo (b := 1) rfl rfl (by first | assumption | omega) (by first | assumption | omega) (by decide) ?_
    refine bs (k := i) aJ.out aC.size rfl rfl (by omega) (by omega) (by decide) ?_
    refine br hh (i := 0) (vs := [_]) rfl rfl (bI rfl) rfl aC.out rfl (by rw [hll]; omega) rfl ?_
    intro ws hh
    simp only [List.set_cons_zero] at hh
    rw [hand, es, Nat.mul_one, bX (by rw [hll]; omega), jO, ← b1, hfk] at hh
    refine aa (au (mI ?_))
    refine dY (s := 1) (m := 2) rfl rfl (by decide) (by decide) (by decide) ?_
    refine aI (aK (a3 (aj (au (mI ?_)))))
    refine bO (aI (aK (aj ?_)))
    rw [es]
    refine ⟨⟨i + 1, by omega, rfl, by rw [b2]; rfl, hh⟩, by show K - (i + 1) < K - i; omega, ?_⟩
    (repeat (first | exact aA _ _ _ | refine aE rfl ?_ | refine ax rfl ?_))
   ·rw [if_neg hiu] at hbu
    rw [hbu] at b1 b2
    have es : (X + C) % 256 = X + C + 0 := by omega
    refine mI ?_
    refine fQ rfl rfl (by decide) ?_
    refine aI (aa (ai (sr (mI (mI ?_)))))
    refine dx (aa (cF (al (aj (sr (mL (mI (mI ?_))))))))
    refine jo (b := 1) rfl rfl (by first | assumption | omega) (by first | assumption | omega) (by decide) ?_
    refine bs (k := i) aJ.out aC.size rfl rfl (by omega) (by omega) (by decide) ?_
    refine br hh (i := 0) (vs := [_]) rfl rfl (bI rfl) rfl aC.out rfl (by rw [hll]; omega) rfl ?_
    intro ws hh
    simp only [List.set_cons_zero] at hh
    rw [hand, es, Nat.mul_one, bX (by rw [hll]; omega), jO, ← b1, hfk] at hh
    refine aa (au (mI ?_))
    refine dY (s := 1) (m := 2) rfl rfl (by decide) (by decide) (by decide) ?_
    refine aI (aK (a3 (aj (au (mI ?_)))))
    refine bO (aI (aK (aj ?_)))
    rw [es]
    refine ⟨⟨i + 1, by omega, rfl, by rw [b2]; rfl, hh⟩, by show K - (i + 1) < K - i; omega, ?_⟩
    (repeat (first | exact aA _ _ _ | refine aE rfl ?_ | refine ax rfl ?_))
  ·obtain rfl : i = K := by omega
   rw [Nat.sub_self, List.replicate_zero, List.append_nil] at hh
   refine ai (sr (mI (mL (a5 ?_))))
   refine aZ (aa (cF ?_))
   refine a4 ?_
   refine aD (aD (bp (aj (sr (mL (aL (aa (ao ?_))))))))
   refine cd ?_
   exact ⟨_, rfl, hh.at_ (i := 0) rfl, hh.below⟩
end Go.Proofs.YtkgdagjklakajaaGreatDoor
namespace Go.Proofs.YtkgdagjklakajaaGreatDoor
open Go.RowKit
theorem xF {X Y : Nat} (h : Y ≤ X) (i : Nat) : ((2 + X / 2 ^ i % 2 + 256 - Y / 2 ^ i % 2) % 256 + 256 - (if X % 2 ^ i < Y % 2 ^ i then 1 else 0)) % 256 % 2 = (X - Y) / 2 ^ i % 2 ∧
  (1 + 256 - ((2 + X / 2 ^ i % 2 + 256 - Y / 2 ^ i % 2) % 256 + 256 - (if X % 2 ^ i < Y % 2 ^ i then 1 else 0)) % 256 / 2) % 256 = (if X % 2 ^ (i + 1) < Y % 2 ^ (i + 1) then 1 else 0) := by
 have hX := Nat.div_add_mod X (2 ^ i)
 have hY := Nat.div_add_mod Y (2 ^ i)
 have hp : 0 < 2 ^ i := Nat.pow_pos (by omega)
 have hX2 : X % 2 ^ (i + 1) = X % 2 ^ i + 2 ^ i * (X / 2 ^ i % 2) := by rw [Nat.pow_succ, Nat.mod_mul]
 have hY2 : Y % 2 ^ (i + 1) = Y % 2 ^ i + 2 ^ i * (Y / 2 ^ i % 2) := by rw [Nat.pow_succ, Nat.mod_mul]
 have hXl := Nat.mod_lt X hp
 have hYl := Nat.mod_lt Y hp
 rw [hX2, hY2]
 generalize hx1 : X / 2 ^ i = x1 at *
 generalize hy1 : Y / 2 ^ i = y1 at *
 generalize hx0 : X % 2 ^ i = x0 at *
 generalize hy0 : Y % 2 ^ i = y0 at *
 have key : ∀ b : Nat, b = (if x0 < y0 then 1 else 0) → (X - Y) / 2 ^ i = x1 - y1 - b ∧ y1 + b ≤ x1 := by
  intro b hb
  have hle : y1 + b ≤ x1 := by
   refine Nat.le_of_not_lt fun hlt => ?_
   have h1 : 2 ^ i * (x1 + 1) ≤ 2 ^ i * (y1 + b) := Nat.mul_le_mul_left _ hlt
   rw [Nat.mul_add, Nat.mul_add] at h1
   split at hb
   ·subst hb; omega
   ·subst hb; omega
  refine ⟨?_, hle⟩
  have e : X - Y = (x0 + 2 ^ i * b - y0) + 2 ^ i * (x1 - y1 - b) := by
   have h2 : 2 ^ i * (x1 - y1 - b) = 2 ^ i * x1 - 2 ^ i * y1 - 2 ^ i * b := by rw [Nat.mul_sub, Nat.mul_sub]
   have h3 : 2 ^ i * (y1 + b) ≤ 2 ^ i * x1 := Nat.mul_le_mul_left _ hle
   rw [Nat.mul_add] at h3
   split at hb
   ·subst hb; omega
   ·subst hb; omega
  rw [e, Nat.add_mul_div_left _ _ hp, Nat.div_eq_of_lt, Nat.zero_add]
  split at hb
  ·subst hb; omega
  ·subst hb; omega
 obtain ⟨k1, k2⟩ := key _ rfl
 rw [k1]
 have hlt : (x0 + 2 ^ i * (x1 % 2) < y0 + 2 ^ i * (y1 % 2)) ↔ (x1 % 2 < y1 % 2 ∨ x1 % 2 = y1 % 2 ∧ x0 < y0) := by
  rcases Nat.mod_two_eq_zero_or_one x1 with h1 | h1 <;> rcases Nat.mod_two_eq_zero_or_one y1 with h2 | h2 <;> rw [h1, h2] <;> omega
 by_cases hb : x0 < y0
 ·rw [if_pos hb] at k2 ⊢
  refine ⟨by omega, ?_⟩
  by_cases hc : x0 + 2 ^ i * (x1 % 2) < y0 + 2 ^ i * (y1 % 2)
  ·rw [if_pos hc]; rw [hlt] at hc; omega
  ·rw [if_neg hc]; rw [hlt] at hc; omega
 ·rw [if_neg hb] at k2 ⊢
  refine ⟨by omega, ?_⟩
  by_cases hc : x0 + 2 ^ i * (x1 % 2) < y0 + 2 ^ i * (y1 % 2)
  ·rw [if_pos hc]; rw [hlt] at hc; omega
  ·rw [if_neg hc]; rw [hlt] at hc; omega
theorem ku (A B : Option Addr) (n c m c' : Nat) (xs ys : List Nat) (w : World) (hx : Sl w A n 1 (eZ xs)) (hy : Sl w B m 1 (eZ ys)) (hdx : Dg 2 xs) (hdy : Dg 2 ys) (hn : n ≤ 100000000000) (hm : m ≤ 100000000000) (hle : bk 2 ys ≤ bk 2 xs) :
  Calls Tryz.prog 236 #[.slice A n c, .slice B m c'] w fun e w' => ∃ b, e = .returned (.slice (some ⟨b, 0, none⟩) n n) ∧ w'.ownsRow w.heap.size 5 1 (.slice (some ⟨b, 0, none⟩) n n) n (eZ (bF 2 n (bk 2 xs - bk 2 ys))) ∧ Below w.heap.size w w' := by
 have hlx := hx.1
 have hly := hy.1
 rw [bY] at hlx hly
 have hh := Hp.start w
 have hand : ∀ z : Nat, z &&& 1 = z % 2 := fun z => Nat.and_one_is_mod z
 refine ak (N := 37) (l := [.slice A n c, .slice B m c']) Tryz.func236 rfl rfl (by simp) ?_
 refine sr (aL (aa (sr (mL (a5 ?_)))))
 refine fH (n := n) hh rfl rfl (by omega) (by omega) aJ.out aC.out rfl (by omega) (by omega) (by decide) ?_
 intro b11 w11 hh
 refine aL (aa (sr (aI (aa (ai (sr (aI (aa (aq ?_)))))))))
 rw [k6] at hh
 refine cY [6, 7, 8, 12, 13, 14, 15, 16, 17, 18, 19, 20, 21, 22, 23, 24, 25, 26, 27, 28, 29, 30, 31, 32, 33, 34, 35] 6 7
  (fun cr v w' => ∃ i : Nat, i ≤ n ∧ v = .int .i64 (i : Int) ∧ cr = .int .u8 ((if bk 2 xs % 2 ^ i < bk 2 ys % 2 ^ i then 1 else 0 : Nat) : Int) ∧ Hp w [.row (some ⟨b11, 0, none⟩) n n 5 1 (eZ (bF 2 i (bk 2 xs - bk 2 ys) ++ List.replicate (n - i) 0))] w')
  (fun _ v _ => n - (intOf v).toNat) ?_ ?_
 ·exact ⟨0, Nat.zero_le _, rfl, by simp [Nat.mod_one]; rfl, hh⟩
 ·clear hh
  rintro ρ' cr v w' ⟨i, hi, rfl, rfl, hh⟩
  by_cases hlt : i < n
  ·obtain ⟨b1, b2⟩ := xF hle i
   have hxb : bk 2 xs / 2 ^ i % 2 < 2 := Nat.mod_lt _ (by omega)
   have hyb : bk 2 ys / 2 ^ i % 2 < 2 := Nat.mod_lt _ (by omega)
   have hcb : (if bk 2 xs % 2 ^ i < bk 2 ys % 2 ^ i then 1 else 0 : Nat) ≤ 1 := by split <;> omega
   have hll : (eZ (bF 2 i (bk 2 xs - bk 2 ys) ++ List.replicate (n - i) 0)).length = n := by rw [bY, List.length_append, aN, List.length_replicate]; omega
   have hfk := yS (N := bk 2 xs - bk 2 ys) hlt
   refine ai (sr (mI (mL (a5 ?_))))
   refine aZ (aa (cT (al (aj (ai (aq (sr (mL (mI ?_)))))))))
   refine bE hh (cK A n c i xs _ (hx.ext hh.below) hdx (by omega) (by omega)) rfl ?_
   intro w20 hh
   refine fQ (a := 2) rfl rfl (by decide) ?_
   refine mL (mI ?_)
   refine bE hh (cK B m c' i ys _ (hy.ext hh.below) hdy (by omega) (by omega)) rfl ?_
   intro w24 hh
   generalize hC : (if bk 2 xs % 2 ^ i < bk 2 ys % 2 ^ i then 1 else 0 : Nat) = C at *
   generalize hX : bk 2 xs / 2 ^ i % 2 = X at *
   generalize hY : bk 2 ys / 2 ^ i % 2 = Y at *
   have es : ((2 + X) % 256 + 256 - Y) % 256 = (2 + X + 256 - Y) % 256 := by omega
   have hS : ((2 + X + 256 - Y) % 256 + 256 - C) % 256 < 256 := Nat.mod_lt _ (by omega)
   refine sn rfl rfl (by omega) (by decide) ?_
   refine mI ?_
   rw [es]
   refine sn rfl rfl (by omega) (by decide) ?_
   refine aI (aa (sr (mL (mI (mI ?_)))))
   refine jo (b := 1) rfl rfl (by first | assumption | omega) (by first | assumption | omega) (by decide) ?_
   refine bs (k := i) aJ.out aC.size rfl rfl (by omega) (by omega) (by decide) ?_
   refine br hh (i := 0) (vs := [_]) rfl rfl (bI rfl) rfl aC.out rfl (by rw [hll]; omega) rfl ?_
   intro ws hh
   simp only [List.set_cons_zero] at hh
   rw [hand, b1, Nat.mul_one, bX (by rw [hll]; omega), jO, hfk] at hh
   refine aa (au (mI ?_))
   refine dY (s := 1) (m := 2) rfl rfl (by decide) (by decide) (by decide) ?_
   refine sn (a := 1) rfl rfl (by omega) (by decide) ?_
   refine aI (aK (a3 (aj (au (mI ?_)))))
   refine bO (aI (aK (aj ?_)))
   refine ⟨⟨i + 1, by omega, rfl, by rw [← b2]; rfl, hh⟩, by show n - (i + 1) < n - i; omega, ?_⟩
   (repeat (first | exact aA _ _ _ | refine aE rfl ?_ | refine ax rfl ?_))
  ·obtain rfl : i = n := by omega
   rw [Nat.sub_self, List.replicate_zero, List.append_nil] at hh
   refine ai (sr (mI (mL (a5 ?_))))
   refine aZ (aa (cF ?_))
   refine a4 ?_
   refine aD (aD (bp (aj (sr (mL (aL (aa (ao ?_))))))))
   refine cd ?_
   exact ⟨_, rfl, hh.at_ (i := 0) rfl, hh.below⟩
theorem oI (n : Nat) (w : World) (hn : n < 18446744073709551616) :
  Calls Tryz.prog 208 #[.int .u64 (n : Int)] w fun e w' => e = .returned (.string (sN n)) ∧ Below w.heap.size w w' := by
 have hh := Hp.start w
 refine ak (N := 16) (l := [.int .u64 (n : Int)]) Tryz.func208 rfl rfl (by simp) ?_
 refine sr (aS (aa (sr (aL (aa (ai (aq ?_)))))))
 replace hh := hh.fE 5 1
 refine cY [0, 3, 4, 5, 6, 7, 8, 9, 10, 11, 12, 13] 0 3
  (fun v o w' => ∃ (k m : Nat) (A : Option Addr) (c : Nat), v = .int .u64 (m : Int) ∧ m < 18446744073709551616 ∧ k ≤ 64 ∧ m < 2 ^ (64 - k) ∧ o = .slice A k c ∧ m = n / 2 ^ k ∧ Hp w [.row A k c 5 1 (eZ (bF 2 k n))] w')
  (fun v _ _ => (intOf v).toNat) ?_ ?_
 ·exact ⟨0, n, none, 0, rfl, hn, by omega, by simpa using hn, rfl, by simp, hh⟩
 ·clear hh
  rintro ρ' v o w' ⟨k, m, A, c, rfl, hm, hk, hmk, rfl, hmn, hh⟩
  by_cases h0 : m = 0
  ·subst h0
   refine ai (sr (mI ?_))
   refine cg (aa (cF ?_))
   refine a4 ?_
   refine aD (aD (bp (aj (sr (mL ?_)))))
   refine bE hh (ee _ _ _ (bF 2 k n) _ (hh.az (i := 0) rfl) (ek (by omega) _ _) (hh.dh (i := 0) rfl) (by omega)) rfl ?_
   intro w15 hh
   have hlt : n < 2 ^ k := by
    have := Nat.div_add_mod n (2 ^ k)
    have h2 := Nat.mod_lt n (Nat.pow_pos (n := k) (show 0 < 2 by omega))
    rw [← hmn] at this
    omega
   rw [bZ hlt]
   refine aS (aa (ao ?_))
   refine cd ?_
   exact ⟨rfl, hh.below⟩
  ·have hk64 : k < 64 := by
    refine Nat.lt_of_not_le fun h => ?_
    rw [show 64 - k = 0 by omega] at hmk
    omega
   have hm2 : m % 2 < 256 := by omega
   refine ai (sr (mI ?_))
   refine cg (aa (cT (al (aj (ai (aq (au (mL (mI ?_)))))))))
   refine sK (b := 2) rfl rfl (by omega) (by decide) ?_
   first | refine cS aJ.out aJ.out rfl (by first | assumption | omega) (by decide) ?_ | refine eT aJ.out aJ.out rfl (by decide) ?_
   refine aO hh (cs := [_]) aJ.out aC.out (aG (bI rfl) bC) rfl rfl (by decide) (by decide) (by decide) rfl (by decide) ?_
   intro b12 w12 hh
   refine cO hh (i := 1) rfl rfl rfl (hh.az (i := 0) rfl) aJ.out aC.out rfl (by decide) (by first | rfl | exact dK _ | exact cU _ | exact oneCells_i64s _ | exact cz NR.one _) (by omega) (by omega) (by decide) ?_
   intro A13 c13 w13 hh
   simp only [List.set_cons_zero, List.set_cons_succ] at hh
   replace hh := hh.sub (List.sublist_cons_self _ _)
   refine aL (aK (a3 (aj (au (mI ?_)))))
   refine zm (b := 2) rfl rfl (by omega) (by first | assumption | omega) (by decide) ?_
   refine aI (aK (aj ?_))
   have e1 : eZ (bF 2 k n) ++ [Value.int .u8 ((m % 2 : Nat) : Int)] = eZ (bF 2 (k + 1) n) := by
    rw [hmn, ig, nu]; rfl
   rw [e1] at hh
   refine ⟨⟨k + 1, m / 2, A13, c13, rfl, by omega, by omega, ?_, rfl, ?_, hh⟩, by show (((m / 2 : Nat) : Int)).toNat < ((m : Int)).toNat; omega, ?_⟩
   ·rw [show 64 - k = (64 - (k + 1)) + 1 by omega, Nat.pow_succ] at hmk
    omega
   ·rw [hmn, Nat.div_div_eq_div_mul, Nat.pow_succ]
   ·(repeat (first | exact aA _ _ _ | refine aE rfl ?_ | refine ax rfl ?_))
theorem fW (a : ByteArray) : (aT 2 (bN a)).length ≤ 8 * a.size := ff a
theorem gP (n : Nat) : Dg 2 (aT 2 n) := (dg (by omega) n).1
theorem fO (n : Nat) : bk 2 (aT 2 n) = n := dr (by omega) n
theorem m0 (a b : ByteArray) (w : World) (ha : a.size ≤ 1000000000) (hb : b.size ≤ 1000000000) :
  Calls Tryz.prog 235 #[.string a, .string b] w fun e w' => e = .returned (.int .i64 (im (bN a) (bN b))) ∧ Below w.heap.size w w' := by
 have hh := Hp.start w
 have h1 := fW a
 have h2 := fW b
 refine ak (N := 10) (l := [.string a, .string b]) Tryz.func235 rfl rfl (by simp) ?_
 refine sr (aI (aa (sr (mS ?_))))
 refine aH (cX a _ ha) ar.out rfl (by decide) ?_
 rintro e_ w6 ⟨A6, c6, rfl, hown_, hb_⟩
 refine ⟨_, rfl, ?_⟩
 replace hh := hh.a9 (x := .row _ _ _ _ _ _) hb_ hown_
 refine mS ?_
 refine aH (cX b _ hb) ar.out rfl (by decide) ?_
 rintro e_ w8 ⟨A8, c8, rfl, hown_, hb_⟩
 refine ⟨_, rfl, ?_⟩
 replace hh := hh.a9 (x := .row _ _ _ _ _ _) hb_ hown_
 refine bE hh (jv _ _ _ _ _ _ (aT 2 (bN a)) (aT 2 (bN b)) _ (hh.az (i := 1) rfl) (hh.az (i := 0) rfl) (gP _) (gP _) (by omega) (by omega)) rfl ?_
 intro w9 hh
 rw [fO, fO]
 refine aI (aa (ao ?_))
 refine cd ?_
 exact ⟨rfl, hh.below⟩
theorem kh (a : ByteArray) (w : World) (ha : a.size ≤ 1000000000) :
  Calls Tryz.prog 205 #[.string a] w fun e w' => e = .returned (.int .i64 (bA (bN a))) ∧ Below w.heap.size w w' := by
 have hh := Hp.start w
 refine ak (N := 6) (l := [.string a]) Tryz.func205 rfl rfl (by simp) ?_
 refine sr (aI (aa (sr (mS ?_))))
 refine aH (cX a _ ha) ar.out rfl (by decide) ?_
 rintro e_ w4 ⟨A4, c4, rfl, hown_, hb_⟩
 refine ⟨_, rfl, ?_⟩
 replace hh := hh.a9 (x := .row _ _ _ _ _ _) hb_ hown_
 refine a5 (aI (aa (ao ?_)))
 refine cd ?_
 exact ⟨rfl, hh.below⟩
theorem kq (a b : ByteArray) (w : World) (ha : a.size ≤ 1000000000) (hb : b.size ≤ 1000000000) :
  Calls Tryz.prog 214 #[.string a, .string b] w fun e w' => e = .returned (.tuple #[.string (sN (bN a - bN b)), .bool (decide (bN b ≤ bN a))]) ∧ Below w.heap.size w w' := by
 have hh := Hp.start w
 have h1 := fW a
 have h2 := fW b
 by_cases hlt : bN a < bN b
 ·refine ak (N := 16) (l := [.string a, .string b]) Tryz.func214 rfl rfl (by simp) ?_
  refine sr (aS (aB (aa (ai (sr (mS (mS ?_)))))))
  refine bE hh (m0 a b _ ha hb) rfl ?_
  intro w8 hh
  rw [iK hlt]
  refine aZ (aa (cT (sr (aS (aB (aa (ao (aM ?_))))))))
  refine u4 ?_
  rw [Nat.sub_eq_zero_of_le (by omega), decide_eq_false (by omega), gl]
  exact ⟨rfl, hh.below⟩
 ·have hc : ¬ im (bN a) (bN b) < 0 := by unfold im; split <;> (try split) <;> omega
  have hbl : bN a - bN b < 2 ^ (aT 2 (bN a)).length := Nat.lt_of_le_of_lt (Nat.sub_le _ _) (cN (bN a))
  refine ak (N := 16) (l := [.string a, .string b]) Tryz.func214 rfl rfl (by simp) ?_
  refine sr (aS (aB (aa (ai (sr (mS (mS ?_)))))))
  refine bE hh (m0 a b _ ha hb) rfl ?_
  intro w8 hh
  refine aZ (aa (cF (al (aj (sr (mS ?_))))))
  refine aH (cX a _ ha) ar.out rfl (by decide) ?_
  rintro e_ w11 ⟨A11, c11, rfl, hown_, hb_⟩
  refine ⟨_, rfl, ?_⟩
  replace hh := hh.a9 (x := .row _ _ _ _ _ _) hb_ hown_
  refine mS ?_
  refine aH (cX b _ hb) ar.out rfl (by decide) ?_
  rintro e_ w13 ⟨A13, c13, rfl, hown_, hb_⟩
  refine ⟨_, rfl, ?_⟩
  replace hh := hh.a9 (x := .row _ _ _ _ _ _) hb_ hown_
  refine aH (ku _ _ _ _ _ _ (aT 2 (bN a)) (aT 2 (bN b)) _ (hh.az (i := 1) rfl) (hh.az (i := 0) rfl) (gP _) (gP _) (by omega) (by omega) (by rw [fO, fO]; omega)) ar.out rfl (by decide) ?_
  rintro e_ w_ ⟨b14, rfl, hown_, hb_⟩
  refine ⟨_, rfl, ?_⟩
  replace hh := hh.a9 (x := .row _ _ _ _ _ _) hb_ hown_
  rw [fO, fO] at hh
  refine bE hh (ee _ _ _ (bF 2 (aT 2 (bN a)).length (bN a - bN b)) _ (hh.az (i := 0) rfl) (ek (by omega) _ _) (Nat.le_refl _) (by omega)) rfl ?_
  intro w15 hh
  rw [bZ hbl]
  refine aS (aB (aa (ao ?_)))
  refine u4 ?_
  rw [decide_eq_true (by omega)]
  exact ⟨rfl, hh.below⟩
end Go.Proofs.YtkgdagjklakajaaGreatDoor
namespace Go.Proofs.YtkgdagjklakajaaGreatDoor
open Go.RowKit
theorem sH (L : Option Addr) (n c : Nat) (ss : List ByteArray) (w : World) (hS : Sl w L n 1 (qK ss)) (hn : n ≤ 1000000) (hs : ∀ s ∈ ss, s.size ≤ 1000000000) :
  Calls Tryz.prog 213 #[.slice L n c] w fun e w' => e = .returned (.string (sN (ss.map bN).sum)) ∧ Below w.heap.size w w' := by
 have hsl : ss.length = n := by have := hS.1; rw [l4] at this; omega
 have hh := Hp.start w
 refine ak (N := 20) (l := [.slice L n c]) Tryz.func213 rfl rfl (by simp) ?_
 refine sr (aS (aa (sr (aL (aa (ai (sr (aI (aa (aq ?_))))))))))
 replace hh := hh.fE 5 1
 refine cY [3, 4, 5, 6, 7, 8, 9, 10, 11, 12, 13, 14, 15, 16, 17] 3 4
  (fun v j w' => ∃ (i : Nat) (A : Option Addr) (c' T K : Nat), i ≤ n ∧ j = .int .i64 i ∧ T = ((ss.take i).map bN).sum ∧ v = .slice A K c' ∧ K ≤ 8000000000 + i ∧ T < 2 ^ K ∧ Hp w [.row A K c' 5 1 (eZ (bF 2 K T))] w')
  (fun _ j _ => n - (intOf j).toNat) ?_ ?_
 ·exact ⟨0, none, 0, 0, 0, Nat.zero_le _, rfl, rfl, rfl, by omega, by simp, hh⟩
 ·clear hh
  rintro ρ' v j w' ⟨i, A, c', T, K, hi, rfl, hT, rfl, hTl, hTb, hh⟩
  by_cases hlt : i < n
  ·obtain ⟨s, hsi⟩ := aR (l := ss) (k := i) (by omega)
   obtain ⟨ad, rfl, hr⟩ := hS.at_ (by omega)
   have hs2 := tI hsi
   have hsz := hs s (List.mem_of_getElem? hsi)
   have hlx := fW s
   have hT2 : ((ss.take (i + 1)).map bN).sum = T + bN s := by rw [aW hsi, List.map_append, List.map_singleton, lF, hT]
   have hbs : bN s < 2 ^ (aT 2 (bN s)).length := cN _
   have hb2 : T + bN s < 2 ^ (max K ((aT 2 (bN s)).length + 0) + 1) := by
    have h1 : 2 ^ K ≤ 2 ^ max K ((aT 2 (bN s)).length + 0) := Nat.pow_le_pow_right (by omega) (by omega)
    have h2 : 2 ^ (aT 2 (bN s)).length ≤ 2 ^ max K ((aT 2 (bN s)).length + 0) := Nat.pow_le_pow_right (by omega) (by omega)
    rw [Nat.pow_succ]; omega
   refine ai (sr (mI (mL (a5 ?_))))
   refine aZ (aa (cT (al (aj (ai (aq (au (mL (mL (mI ?_))))))))))
   refine a0 (k := i) aJ.out aC.size rfl rfl (by omega) (by omega) (by decide) ?_
   refine bJ aC.out rfl ((hr.ext hh.below).mg (by assumption)) (by decide) ?_
   refine aH (cX s _ hsz) ar.out rfl (by decide) ?_
   rintro e_ w16 ⟨A16, c16, rfl, hown_, hb_⟩
   refine ⟨_, rfl, ?_⟩
   replace hh := hh.a9 (x := .row _ _ _ _ _ _) hb_ hown_
   refine aH (rL _ _ _ _ _ _ 0 (bF 2 K T) (aT 2 (bN s)) _ (hh.az (i := 1) rfl) (hh.az (i := 0) rfl) (ek (by omega) _ _) (gP _) (by omega) (by omega) (by omega)) ar.out rfl (by decide) ?_
   rintro e_ w_ ⟨b17, rfl, hown_, hb_⟩
   refine ⟨_, rfl, ?_⟩
   rw [fO, bZ hTb, Nat.pow_zero, Nat.mul_one] at hown_
   replace hh := (hh.a9 (x := .row _ _ _ _ _ _) hb_ hown_).sub (List.sublist_append_left [_] _)
   refine aL (aK (a3 (aj (au (mI ?_)))))
   refine bO (aI (aK (aj ?_)))
   refine ⟨⟨i + 1, _, _, T + bN s, _, by omega, rfl, hT2.symm, rfl, by omega, hb2, hh⟩, by show n - (i + 1) < n - i; omega, ?_⟩
   (repeat (first | exact aA _ _ _ | refine aE rfl ?_ | refine ax rfl ?_))
  ·refine ai (sr (mI (mL (a5 ?_))))
   refine aZ (aa (cF ?_))
   refine a4 ?_
   refine aD (aD (bp (aj (sr (mL ?_)))))
   refine bE hh (ee _ _ _ (bF 2 K T) _ (hh.az (i := 0) rfl) (ek (by omega) _ _) (hh.dh (i := 0) rfl) (by omega)) rfl ?_
   intro w19 hh
   rw [bZ hTb]
   refine aS (aa (ao ?_))
   refine cd ?_
   rw [List.take_of_length_le (by omega)] at hT
   rw [hT]
   exact ⟨rfl, hh.below⟩
theorem wP (X Y k : Nat) (hY : 0 < Y) : X / 2 ^ k % Y = (if Y ≤ X / 2 ^ k % 2 + 2 * (X / 2 ^ (k + 1) % Y) then X / 2 ^ k % 2 + 2 * (X / 2 ^ (k + 1) % Y) - Y else X / 2 ^ k % 2 + 2 * (X / 2 ^ (k + 1) % Y)) ∧
  X / 2 ^ k / Y % 2 = (if Y ≤ X / 2 ^ k % 2 + 2 * (X / 2 ^ (k + 1) % Y) then 1 else 0) ∧ X / 2 ^ k / Y / 2 = X / 2 ^ (k + 1) / Y := by
 have h1 := iV X k
 have hb : X / 2 ^ k % 2 < 2 := Nat.mod_lt _ (by omega)
 generalize X / 2 ^ k % 2 = b at *
 generalize X / 2 ^ k = Z at *
 generalize X / 2 ^ (k + 1) = V at *
 have h2 := Nat.div_add_mod V Y
 have h3 := Nat.mod_lt V hY
 generalize V / Y = q at *
 generalize V % Y = r at *
 have e : Z = (b + 2 * r) + Y * (2 * q) := by rw [h1, ← h2, Nat.mul_add, Nat.mul_left_comm]; omega
 rw [e, Nat.add_mul_mod_self_left, Nat.add_mul_div_left _ _ hY]
 by_cases hc : Y ≤ b + 2 * r
 ·rw [if_pos hc, if_pos hc]
  have e2 : b + 2 * r = (b + 2 * r - Y) + Y * 1 := by omega
  have h4 : b + 2 * r - Y < Y := by omega
  have h5 : (b + 2 * r) / Y = 1 := by rw [e2, Nat.add_mul_div_left _ _ hY, Nat.div_eq_of_lt h4]
  have h6 : (b + 2 * r) % Y = b + 2 * r - Y := by conv => lhs; rw [e2, Nat.add_mul_mod_self_left, Nat.mod_eq_of_lt h4]
  rw [h5, h6]
  omega
 ·rw [if_neg hc, if_neg hc, Nat.mod_eq_of_lt (by omega), Nat.div_eq_of_lt (by omega)]
  omega
theorem kn (a b : ByteArray) (w : World) (ha : a.size ≤ 1000000000) (hb : b.size ≤ 1000000000) (hb0 : bN b ≠ 0) :
  Calls Tryz.prog 233 #[.string a, .string b] w fun e w' => e = .returned (.tuple #[.string (sN (bN a / bN b)), .string (sN (bN a % bN b)), .bool true]) ∧ Below w.heap.size w w' := by
 have hh := Hp.start w
 have h1 := fW a
 have h2 := fW b
 have hX := fO (bN a)
 have hXd := gP (bN a)
 have hXl : bN a < 2 ^ (aT 2 (bN a)).length := cN _
 have hYp : 0 < (aT 2 (bN b)).length := kK hb0
 have hget : ∀ k, k < (aT 2 (bN a)).length → (aT 2 (bN a))[k]? = some (bN a / 2 ^ k % 2) := fun k hk => rv (by omega) hk
 refine ak (N := 52) (l := [.string a, .string b]) Tryz.func233 rfl rfl (by simp) ?_
 refine sr (aS (aS (aB (aa (sr (mS ?_))))))
 refine aH (cX a _ ha) ar.out rfl (by decide) ?_
 rintro e_ w13 ⟨A13, c13, rfl, hown_, hb_⟩
 refine ⟨_, rfl, ?_⟩
 replace hh := hh.a9 (x := .row _ _ _ _ _ _) hb_ hown_
 refine mS ?_
 refine aH (cX b _ hb) ar.out rfl (by decide) ?_
 rintro e_ w15 ⟨A15, c15, rfl, hown_, hb_⟩
 refine ⟨_, rfl, ?_⟩
 replace hh := hh.a9 (x := .row _ _ _ _ _ _) hb_ hown_
 refine aL (aL (aa (ai (sr (mL (a5 ?_))))))
 refine cI (aa (cF (al (aj (sr (mL (a5 ?_)))))))
 refine fH hh rfl rfl rfl rfl aJ.out aC.out rfl (by omega) (by omega) (by decide) ?_
 intro b21 w21 hh
 refine aL (aa (sr (aL (aa (ai (sr (mL (a5 ?_))))))))
 refine fp (aI (aa (aq ?_)))
 rw [k6] at hh
 generalize hxs : aT 2 (bN a) = xs at *
 replace hh := hh.fE 5 1
 refine cY [10, 11, 25, 26, 27, 28, 29, 30, 31, 32, 33, 34, 35, 36, 37, 38, 39, 40, 41, 42, 43, 44, 45, 46, 47] 10 11
  (fun v j w' => ∃ (k : Nat) (A : Option Addr) (c' : Nat), k ≤ xs.length ∧ j = .int .i64 ((k : Int) - 1) ∧ v = .slice A (aT 2 (bN a / 2 ^ k % bN b)).length c' ∧ Hp w [.row A (aT 2 (bN a / 2 ^ k % bN b)).length c' 5 1 (eZ (aT 2 (bN a / 2 ^ k % bN b))), .row (some ⟨b21, 0, none⟩) xs.length xs.length 5 1 (eZ (List.replicate k 0 ++ bF 2 (xs.length - k) (bN a / 2 ^ k / bN b))), .row A15 (aT 2 (bN b)).length c15 5 1 (eZ (aT 2 (bN b))), .row A13 xs.length c13 5 1 (eZ xs)] w')
  (fun _ j _ => (intOf j + 1).toNat) ?_ ?_
 ·refine ⟨xs.length, none, 0, Nat.le_refl _, rfl, ?_, ?_⟩
  ·rw [Nat.div_eq_of_lt hXl, Nat.zero_mod, eS (by omega)]; rfl
  ·rw [Nat.div_eq_of_lt hXl, Nat.zero_mod, eS (by omega), Nat.sub_self]; simp only [bF, List.append_nil]; exact hh
 ·clear hh
  rintro ρ' v j w' ⟨k, A, c', hk, rfl, rfl, hh⟩
  by_cases h0 : k = 0
  ·subst h0
   rw [Nat.pow_zero, Nat.div_one, Nat.sub_zero, List.replicate_zero, List.nil_append] at hh
   rw [Nat.pow_zero, Nat.div_one]
   have hq : bN a / bN b < 2 ^ xs.length := Nat.lt_of_le_of_lt (Nat.div_le_self _ _) hXl
   have hrl : (aT 2 (bN a % bN b)).length ≤ (aT 2 (bN b)).length := jY (by omega) (Nat.le_of_lt (Nat.mod_lt _ (by omega)))
   refine ai (sr (mI ?_))
   refine dx (aa (cF ?_))
   refine a4 ?_
   refine aD (aD (bp (aj (sr (mL ?_)))))
   refine bE hh (ee _ _ _ (bF 2 xs.length (bN a / bN b)) _ (hh.az (i := 1) rfl) (ek (by omega) _ _) (Nat.le_refl _) (by omega)) rfl ?_
   intro w49 hh
   rw [bZ hq]
   refine mL ?_
   refine bE hh (ee _ _ _ (aT 2 (bN a % bN b)) _ (hh.az (i := 0) rfl) (gP _) (hh.dh (i := 0) rfl) (by omega)) rfl ?_
   intro w51 hh
   rw [fO]
   refine aS (aS (aB (aa (ao ?_))))
   refine AW ?_
   exact ⟨rfl, hh.below⟩
  ·obtain ⟨i, rfl⟩ : ∃ i, k = i + 1 := ⟨k - 1, by omega⟩
   have hji : ((i + 1 : Nat) : Int) - 1 = (i : Int) := by omega
   obtain ⟨d1, d2, d3⟩ := wP (bN a) (bN b) i (by omega)
   have hgi := lA (hget i (by omega))
   have hdw : bN a / 2 ^ i % 2 < 2 := Nat.mod_lt _ (by omega)
   have hrl : (aT 2 (bN a / 2 ^ (i + 1) % bN b)).length ≤ (aT 2 (bN b)).length := jY (by omega) (Nat.le_of_lt (Nat.mod_lt _ (by omega)))
   have hqk : bF 2 (xs.length - i) (bN a / 2 ^ i / bN b) = (bN a / 2 ^ i / bN b % 2) :: bF 2 (xs.length - (i + 1)) (bN a / 2 ^ (i + 1) / bN b) := by
    rw [show xs.length - i = (xs.length - (i + 1)) + 1 by omega, bF, d3]
   rw [hji]
   obtain ⟨g, rfl⟩ := hh.gH (i := 3) rfl (by omega)
   refine ai (sr (mI ?_))
   refine dx (aa (cT (al (aj (ai (aq (sr (mL (mI ?_)))))))))
   refine bs (k := i) aJ.out aC.size rfl rfl (by omega) (by omega) (by decide) ?_
   refine bJ aC.out rfl (hh.cE (i := 3) rfl (by first | assumption | (simp only [Nat.mul_one]; assumption))) (by decide) ?_
   refine aO hh (cs := [_]) aJ.out aC.out (aG (bI rfl) bC) rfl rfl (by decide) (by decide) (by decide) rfl (by decide) ?_
   intro b33 w33 hh
   refine mL ?_
   refine cO hh (i := 0) rfl rfl rfl (hh.az (i := 1) rfl) aJ.out aC.out rfl (by decide) (by first | rfl | exact dK _ | exact cU _ | exact oneCells_i64s _ | exact cz NR.one _) (by omega) (by omega) (by decide) ?_
   intro A35 c35 w35 hh
   simp only [List.set_cons_zero] at hh
   have e35 : [Value.int .u8 ((bN a / 2 ^ i % 2 : Nat) : Int)] ++ eZ (aT 2 (bN a / 2 ^ (i + 1) % bN b)) = eZ ((bN a / 2 ^ i % 2) :: aT 2 (bN a / 2 ^ (i + 1) % bN b)) := rfl
   rw [e35] at hh
   generalize hR : bN a / 2 ^ (i + 1) % bN b = R at *
   generalize hbt : bN a / 2 ^ i % 2 = bt at *
   have hdg : Dg 2 (bt :: aT 2 R) := Dg.cons hdw (gP _)
   have hcv : di (bt :: aT 2 R) = aT 2 (bt + 2 * R) := by rw [eB (by omega) hdg, bk, fO]
   have hll : (bt :: aT 2 R).length = 1 + (aT 2 R).length := by rw [List.length_cons]; omega
   have hcl := er (bt :: aT 2 R)
   refine bE hh (iL _ _ _ (bt :: aT 2 R) _ (hh.az (i := 0) rfl) (hh.dh (i := 0) rfl) (by omega)) rfl ?_
   intro w36 hh
   replace hh := hh.zr hll
   rw [hcv] at hh hcl
   rw [hcv]
   refine aL (aa (sr (mL (mL ?_))))
   refine bE hh (jv _ _ _ _ _ _ (aT 2 (bt + 2 * R)) (aT 2 (bN b)) _ (hh.az (i := 0) rfl) (hh.az (i := 3) rfl) (gP _) (gP _) (by omega) (by omega)) rfl ?_
   intro w39 hh
   rw [fO, fO]
   by_cases hge : bN b ≤ bt + 2 * R
   ·have hc : 0 ≤ im (bt + 2 * R) (bN b) := by unfold im; rw [if_neg (by omega)]; split <;> omega
    rw [if_pos hge] at d1 d2
    have hml : bt + 2 * R - bN b < 2 ^ (aT 2 (bt + 2 * R)).length := Nat.lt_of_le_of_lt (Nat.sub_le _ _) (cN _)
    have hcm : di (bF 2 (aT 2 (bt + 2 * R)).length (bt + 2 * R - bN b)) = aT 2 (bt + 2 * R - bN b) := by rw [eB (by omega) (ek (by omega) _ _), bZ hml]
    refine dx (aa (cT (sr (mL (mL ?_)))))
    refine aH (ku _ _ _ _ _ _ (aT 2 (bt + 2 * R)) (aT 2 (bN b)) _ (hh.az (i := 0) rfl) (hh.az (i := 3) rfl) (gP _) (gP _) (by omega) (by omega) (by rw [fO, fO]; exact hge)) ar.out rfl (by decide) ?_
    rintro e_ w_ ⟨b43, rfl, hown_, hb_⟩
    refine ⟨_, rfl, ?_⟩
    replace hh := hh.a9 (x := .row _ _ _ _ _ _) hb_ hown_
    rw [fO, fO] at hh
    refine bE hh (iL _ _ _ (bF 2 (aT 2 (bt + 2 * R)).length (bt + 2 * R - bN b)) _ (hh.az (i := 0) rfl) (Nat.le_refl _) (by omega)) rfl ?_
    intro w44 hh
    replace hh := hh.zr (aN _ _)
    rw [hcm] at hh
    rw [hcm]
    have hql : (eZ (List.replicate (i + 1) 0 ++ bF 2 (xs.length - (i + 1)) (bN a / 2 ^ (i + 1) / bN b))).length = xs.length := by rw [bY, List.length_append, List.length_replicate, aN]; omega
    refine aL (aa (au (mL (mI ?_))))
    refine bs (k := i) aJ.out aC.size rfl rfl (by omega) (by omega) (by decide) ?_
    refine br hh (i := 3) (vs := [_]) rfl rfl (bI rfl) rfl aC.out rfl (by rw [hql]; omega) rfl ?_
    intro ws hh
    simp only [List.set_cons_zero, List.set_cons_succ] at hh
    rw [Nat.mul_one, bX (by rw [hql]; omega)] at hh
    have hset : (eZ (List.replicate (i + 1) 0 ++ bF 2 (xs.length - (i + 1)) (bN a / 2 ^ (i + 1) / bN b))).set i (.int .u8 1) = eZ (List.replicate i 0 ++ bF 2 (xs.length - i) (bN a / 2 ^ i / bN b)) := by
     have := jO (List.replicate (i + 1) 0 ++ bF 2 (xs.length - (i + 1)) (bN a / 2 ^ (i + 1) / bN b)) i 1
     rw [hqk, d2, ← tp]
     exact this
    rw [hset] at hh
    replace hh := hh.sub (.cons_cons _ (.cons _ (.cons _ (List.Sublist.refl _))))
    refine aK (a3 (aj (au (mI ?_))))
    refine fp (aI (aK (aj ?_)))
    refine ⟨⟨i, _, _, by omega, rfl, by rw [d1]; rfl, by rw [d1]; exact hh⟩, by show ((i : Int) - 1 + 1).toNat < ((i : Int) + 1).toNat; omega, ?_⟩
    (repeat (first | exact aA _ _ _ | refine aE rfl ?_ | refine ax rfl ?_))
   ·have hc : ¬ 0 ≤ im (bt + 2 * R) (bN b) := by rw [iK (by omega)]; omega
    rw [if_neg hge] at d1 d2
    refine dx (aa (cF (al (a3 (aj (au (mI ?_)))))))
    refine fp (aI (aK (aj ?_)))
    have hrep : List.replicate (i + 1) 0 ++ bF 2 (xs.length - (i + 1)) (bN a / 2 ^ (i + 1) / bN b) = List.replicate i 0 ++ bF 2 (xs.length - i) (bN a / 2 ^ i / bN b) := by
     rw [hqk, d2, List.replicate_succ', List.append_assoc]; rfl
    rw [hrep] at hh
    replace hh := hh.sub (.cons_cons _ (.cons _ (List.Sublist.refl _)))
    refine ⟨⟨i, _, _, by omega, rfl, by rw [d1]; rfl, by rw [d1]; exact hh⟩, by show ((i : Int) - 1 + 1).toNat < ((i : Int) + 1).toNat; omega, ?_⟩
    (repeat (first | exact aA _ _ _ | refine aE rfl ?_ | refine ax rfl ?_))
end Go.Proofs.YtkgdagjklakajaaGreatDoor
/- The walks through the document's answer for whole numbers (ogeeref02), as far as layer 4 needs it. -/
namespace Go.Proofs.YtkgdagjklakajaaGreatDoor
open Go.RowKit
theorem j3 {n : Nat} : bA n = 0 ↔ n = 0 := by
 constructor
 ·intro h
  have := cN n
  rw [h] at this
  omega
 ·intro h; rw [h]; exact iq
theorem jT {a b : Nat} (h : a ≤ b) : bA a ≤ bA b := cV (Nat.lt_of_le_of_lt h (cN b))
theorem xc (a b : Nat) : bA (a + b) ≤ bA a + bA b + 1 := by
 apply cV
 have h1 := cN a
 have h2 := cN b
 have h3 : 2 ^ bA a ≤ 2 ^ (bA a + bA b) := Nat.pow_le_pow_right (by omega) (by omega)
 have h4 : 2 ^ bA b ≤ 2 ^ (bA a + bA b) := Nat.pow_le_pow_right (by omega) (by omega)
 rw [Nat.pow_succ]
 omega
theorem cW (s : Bool) (m : ByteArray) (w : World) (hm : m.size ≤ 1000000000) :
  Calls Tryz.prog 206 #[.agg #[.bool s, .string m]] w fun e w' => e = .returned (.agg #[.bool (iN (iv s m)), .string (iM (iv s m))]) ∧ Below w.heap.size w w' := by
 have hh := Hp.start w
 have h1 := fW m
 rw [yN, tk]
 cases s with
 | false =>
  refine ak (N := 16) (l := [.agg #[.bool false, .string m]]) Tryz.func206 rfl rfl (by simp) ?_
  refine sr ?_
  refine dp hh [_,_] ?_
  intro b1 w1 hh
  refine cj hh ?_
  intro b2 w2 hh
  refine aa (sr (bP ?_))
  refine bQ hh 1 ?_
  refine aH (cX m _ hm) ar.out rfl (by decide) ?_
  rintro e_ w6 ⟨A6, c6, rfl, hown_, hb_⟩
  refine ⟨_, rfl, ?_⟩
  replace hh := hh.a9 (x := .row _ _ _ _ _ _) hb_ hown_
  refine bE hh (ee _ _ _ (aT 2 (bN m)) _ (hh.az (i := 0) rfl) (gP _) (hh.dh (i := 0) rfl) (by omega)) rfl ?_
  intro w7 hh
  rw [fO]
  refine aS (aa (sr (bP ?_)))
  refine bQ hh 2 ?_
  refine mB ?_
  first | refine gS ?_ | (refine gT ?_; refine mS ?_) | refine gV ?_
  first | refine gS ?_ | (refine gT ?_; (first | refine fy rfl rfl (by first | rfl | assumption | decide) (by decide) ?_ | refine fv rfl rfl (by first | assumption | decide) (by decide) ?_)) | refine gV ?_
  first | refine ct ?_ | refine cq ?_
  refine mS ?_
  refine eM [_,_] ?_
  refine bK hh 1 [_,_] ?_
  intro ws hh
  replace hh : Hp _ (_ :: .blk _ _ [_, _] _ :: _) _ := hh
  refine aa (ao ?_)
  refine hO (aU rfl (aV (vs := [_, _]) aC.out (hh.aw (i := 1) (n := 2) rfl rfl) rfl) bg) ?_
  exact ⟨rfl, hh.below⟩
 | true =>
  by_cases h0 : sN (bN m) = ByteArray.mk #[]
  ·refine ak (N := 16) (l := [.agg #[.bool true, .string m]]) Tryz.func206 rfl rfl (by simp) ?_
   refine sr ?_
   refine dp hh [_,_] ?_
   intro b1 w1 hh
   refine cj hh ?_
   intro b2 w2 hh
   refine aa (sr (bP ?_))
   refine bQ hh 1 ?_
   refine aH (cX m _ hm) ar.out rfl (by decide) ?_
   rintro e_ w6 ⟨A6, c6, rfl, hown_, hb_⟩
   refine ⟨_, rfl, ?_⟩
   replace hh := hh.a9 (x := .row _ _ _ _ _ _) hb_ hown_
   refine bE hh (ee _ _ _ (aT 2 (bN m)) _ (hh.az (i := 0) rfl) (gP _) (hh.dh (i := 0) rfl) (by omega)) rfl ?_
   intro w7 hh
   rw [fO]
   refine aS (aa (sr (bP ?_)))
   refine bQ hh 2 ?_
   refine mB ?_
   first | refine gS ?_ | (refine gT ?_; refine mS ?_) | refine gV ?_
   first | refine gS ?_ | (refine gT ?_; (first | refine fy rfl rfl (by first | rfl | assumption | decide) (by decide) ?_ | refine fv rfl rfl (by first | assumption | decide) (by decide) ?_)) | refine gV ?_
   first | refine ct ?_ | refine cq ?_
   refine mS ?_
   refine eM [_,_] ?_
   refine bK hh 1 [_,_] ?_
   intro ws hh
   replace hh : Hp _ (_ :: .blk _ _ [_, _] _ :: _) _ := hh
   refine aa (ao ?_)
   refine hO (aU rfl (aV (vs := [_, _]) aC.out (hh.aw (i := 1) (n := 2) rfl rfl) rfl) bg) ?_
   have h1 : bN m = 0 := by rw [← gl] at h0; exact sC h0
   rw [decide_eq_false (by omega)]
   exact ⟨rfl, hh.below⟩
  ·refine ak (N := 16) (l := [.agg #[.bool true, .string m]]) Tryz.func206 rfl rfl (by simp) ?_
   refine sr ?_
   refine dp hh [_,_] ?_
   intro b1 w1 hh
   refine cj hh ?_
   intro b2 w2 hh
   refine aa (sr (bP ?_))
   refine bQ hh 1 ?_
   refine aH (cX m _ hm) ar.out rfl (by decide) ?_
   rintro e_ w6 ⟨A6, c6, rfl, hown_, hb_⟩
   refine ⟨_, rfl, ?_⟩
   replace hh := hh.a9 (x := .row _ _ _ _ _ _) hb_ hown_
   refine bE hh (ee _ _ _ (aT 2 (bN m)) _ (hh.az (i := 0) rfl) (gP _) (hh.dh (i := 0) rfl) (by omega)) rfl ?_
   intro w7 hh
   rw [fO]
   refine aS (aa (sr (bP ?_)))
   refine bQ hh 2 ?_
   refine mB ?_
   first | refine gS ?_ | (refine gT ?_; refine mS ?_) | refine gV ?_
   first | refine gS ?_ | (refine gT ?_; (first | refine fy rfl rfl (by first | rfl | assumption | decide) (by decide) ?_ | refine fv rfl rfl (by first | assumption | decide) (by decide) ?_)) | refine gV ?_
   first | refine ct ?_ | refine cq ?_
   refine mS ?_
   refine eM [_,_] ?_
   refine bK hh 1 [_,_] ?_
   intro ws hh
   replace hh : Hp _ (_ :: .blk _ _ [_, _] _ :: _) _ := hh
   refine aa (ao ?_)
   refine hO (aU rfl (aV (vs := [_, _]) aC.out (hh.aw (i := 1) (n := 2) rfl rfl) rfl) bg) ?_
   have h1 : bN m ≠ 0 := fun h => h0 (by rw [h, gl])
   rw [decide_eq_true h1]
   exact ⟨rfl, hh.below⟩
theorem hH (s : Bool) (m : ByteArray) (w : World) (hm : m.size ≤ 1000000000) :
  Calls Tryz.prog 171 #[.agg #[.bool s, .string m]] w fun e w' => e = .returned (.int .i64 (iv s m).sign) ∧ Below w.heap.size w w' := by
 have hh := Hp.start w
 by_cases h0 : bN m = 0
 ·have hb : bA (bN m) = 0 := j3.2 h0
  refine ak (N := 9) (l := [.agg #[.bool s, .string m]]) Tryz.func171 rfl rfl (by simp) ?_
  refine sr ?_
  refine dp hh [_,_] ?_
  intro b1 w1 hh
  refine aI (aa (ai (sr (bP ?_))))
  refine bQ hh 0 ?_
  refine bE hh (kh m _ hm) rfl ?_
  intro w5 hh
  refine cI (aa (cT (sr (aI (aa (ao (aM ?_)))))))
  refine cd ?_
  have hz : iv s m = 0 := by unfold iv; split <;> omega
  exact ⟨by rw [hz]; rfl, hh.below⟩
 ·have hb : bA (bN m) ≠ 0 := fun h => h0 (j3.1 h)
  cases s with
  | true =>
   refine ak (N := 9) (l := [.agg #[.bool true, .string m]]) Tryz.func171 rfl rfl (by simp) ?_
   refine sr ?_
   refine dp hh [_,_] ?_
   intro b1 w1 hh
   refine aI (aa (ai (sr (bP ?_))))
   refine bQ hh 0 ?_
   refine bE hh (kh m _ hm) rfl ?_
   intro w5 hh
   refine cI (aa (cF (al (aj (ai (sr (bP ?_)))))))
   refine bQ hh 0 ?_
   refine aa (cT (sr (aI (aa (ao (aM ?_))))))
   refine cd ?_
   have hz : iv true m < 0 := by unfold iv; rw [if_pos rfl]; omega
   exact ⟨by rw [Int.sign_eq_neg_one_of_neg hz], hh.below⟩
  | false =>
   refine ak (N := 9) (l := [.agg #[.bool false, .string m]]) Tryz.func171 rfl rfl (by simp) ?_
   refine sr ?_
   refine dp hh [_,_] ?_
   intro b1 w1 hh
   refine aI (aa (ai (sr (bP ?_))))
   refine bQ hh 0 ?_
   refine bE hh (kh m _ hm) rfl ?_
   intro w5 hh
   refine cI (aa (cF (al (aj (ai (sr (bP ?_)))))))
   refine bQ hh 0 ?_
   refine aa (cF (al (aj (sr (aI (aa (ao ?_)))))))
   refine cd ?_
   have hz : 0 < iv false m := by unfold iv; rw [if_neg (by simp)]; omega
   exact ⟨by rw [Int.sign_eq_one_of_pos hz], hh.below⟩
theorem lP (n : Int) (w : World) (h1 : -9223372036854775808 ≤ n) (h2 : n ≤ 9223372036854775807) :
  Calls Tryz.prog 173 #[.int .i64 n] w fun e w' => e = .returned (.agg #[.bool (iN n), .string (iM n)]) ∧ Below w.heap.size w w' := by
 have hh := Hp.start w
 by_cases h0 : n < 0
 ·have hn : iN n = true := decide_eq_true h0
  obtain ⟨m, hm⟩ := Int.eq_ofNat_of_zero_le (by omega : 0 ≤ -(n + 1))
  have ha : n.natAbs = m + 1 := by omega
  have hw : (m + 1) % 18446744073709551616 = m + 1 := Nat.mod_eq_of_lt (by omega)
  refine ak (N := 16) (l := [.int .i64 n]) Tryz.func173 rfl rfl (by simp) ?_
  refine sr ?_
  refine cj hh ?_
  intro b2 w2 hh
  refine aa (ai (sr (mI ?_)))
  refine aZ (aa (cT (sr (mI ?_))))
  refine bO ?_
  refine lg rfl (by omega) (by omega) (by decide) ?_
  rw [show -(n + 1) = (m : Int) from hm]
  first | refine cS aJ.out aJ.out rfl (by first | assumption | omega) (by decide) ?_ | refine eT aJ.out aJ.out rfl (by decide) ?_
  refine fQ (b := 1) rfl rfl (by decide) ?_
  rw [hw]
  refine bE hh (oI (m + 1) _ (by omega)) rfl ?_
  intro w10 hh
  rw [← ha]
  refine eM [_,_] ?_
  refine bK hh 0 [_,_] ?_
  intro ws hh
  replace hh : Hp _ (.blk _ _ [_, _] _ :: _) _ := hh
  refine aa (ao (aM ?_))
  refine hO (aU rfl (aV (vs := [_, _]) aC.out (hh.aw (i := 0) (n := 2) rfl rfl) rfl) bg) ?_
  rw [hn]
  exact ⟨rfl, hh.below⟩
 ·obtain ⟨m, rfl⟩ := Int.eq_ofNat_of_zero_le (by omega : 0 ≤ n)
  have hn : iN (m : Int) = false := decide_eq_false (by omega)
  have hm : m < 18446744073709551616 := by omega
  have e1 : iM (m : Int) = sN m := rfl
  refine ak (N := 16) (l := [.int .i64 (m : Int)]) Tryz.func173 rfl rfl (by simp) ?_
  refine sr ?_
  refine cj hh ?_
  intro b2 w2 hh
  refine aa (ai (sr (mI ?_)))
  refine aZ (aa (cF (al (aj (sr (mI ?_))))))
  first | refine cS aJ.out aJ.out rfl (by first | assumption | omega) (by decide) ?_ | refine eT aJ.out aJ.out rfl (by decide) ?_
  refine bE hh (oI m _ hm) rfl ?_
  intro w14 hh
  refine eM [_,_] ?_
  refine bK hh 0 [_,_] ?_
  intro ws hh
  replace hh : Hp _ (.blk _ _ [_, _] _ :: _) _ := hh
  refine aa (ao ?_)
  refine hO (aU rfl (aV (vs := [_, _]) aC.out (hh.aw (i := 0) (n := 2) rfl rfl) rfl) bg) ?_
  rw [hn, e1]
  exact ⟨rfl, hh.below⟩
theorem l6 (s t : Bool) (a b : ByteArray) (w : World) (ha : a.size ≤ 100000000) (hb : b.size ≤ 100000000) :
  Calls Tryz.prog 178 #[.agg #[.bool s, .string a], .agg #[.bool t, .string b]] w fun e w' => e = .returned (.agg #[.bool (iN (iv s a + iv t b)), .string (iM (iv s a + iv t b))]) ∧ Below w.heap.size w w' := by
 have hh := Hp.start w
 have hba := ff a
 have hbb := ff b
 by_cases hst : s = t
 ·subst hst
  have e1 : iv s (sN (bN a + bN b)) = iv s a + iv s b := by unfold iv; rw [eb]; split <;> omega
  have hsz : (sN (bN a + bN b)).size ≤ 1000000000 := by rw [gR]; have := xc (bN a) (bN b); omega
  rw [← e1]
  refine ak (N := 49) (l := [.agg #[.bool s, .string a], .agg #[.bool s, .string b]]) Tryz.func178 rfl rfl (by simp) ?_
  refine sr ?_
  refine dp hh [_,_] ?_
  intro b2 w2 hh
  refine dp hh [_,_] ?_
  intro b3 w3 hh
  refine cj hh ?_
  intro b4 w4 hh
  refine aa (ai (sr (bP ?_)))
  refine bQ hh 2 ?_
  refine bP ?_
  refine bQ hh 1 ?_
  first | refine jM aJ.out rfl rfl (by first | rfl | assumption) (by decide) ?_ | refine jK aJ.out rfl rfl (by first | rfl | assumption | decide) (by decide) ?_ | refine s_eql_bool aJ.out rfl rfl (by decide) ?_
  refine aa (cT (ai ?_))
  refine bf 8 [[(2, none)], [(12, some 0)], [(2, none)], [(14, some 2)], [(3, none)], [(16, some 4)], [(15, some 3), (17, some 5)], [(18, some 6)]] [(7, 19), (6, 18), (5, 17), (4, 16), (3, 15), (2, 14), (1, 13), (0, 12)] hh mixed (by kernel_rfl) ?_
  refine dN ?_
  refine fC 2 ?_
  refine dN ?_
  refine fC 2 ?_
  refine dN ?_
  refine fC 1 ?_
  refine yQ [_,_] ?_
  refine bz (i := 7) (Is (.string (sN (bN a + bN b)))) Is.ext ?_ ?_
  ·intro ρ1 w1 hj hR
   obtain ⟨A18, c18, h18, s18⟩ := hR.1
   exact cG rfl (bh ar.out (aF h18 bj)) (sH A18 2 c18 [a, b] _ s18 (by omega) (by simp; omega)) (fun _ _ hq => ⟨_, hq.1, hq.2, rfl⟩)
  refine bo ?_
  intro f W hJ hV
  have hb_2 := hJ.bl
  obtain ⟨v19, v18, v17, v16, v15, v14, v13, v12, _⟩ := hV
  obtain ⟨A18, c18, e18, f18⟩ : Rows _ _ _ (f 6) W := v18
  replace hh := hJ.hp
  refine a7 (bu (ah v19 (ah e18 (ah v17 (ah v16 (ah v15 (ah v14 (ah v13 (ah v12 a6))))))))) ?_
  dsimp only [cJ]
  clear e18 hJ
  refine eM [_,_] ?_
  refine bE hh (cW s (sN (bN a + bN b)) _ hsz) rfl ?_
  intro w21 hh
  refine bK hh 0 [_,_] ?_
  intro ws hh
  replace hh : Hp _ (.blk _ _ [_, _] _ :: _) _ := hh
  refine aa (ao (aM ?_))
  refine hO (aU rfl (aV (vs := [_, _]) aC.out (hh.aw (i := 0) (n := 2) rfl rfl) rfl) bg) ?_
  exact ⟨rfl, hh.below⟩
 ·by_cases hle : bN b ≤ bN a
  ·have e1 : iv s (sN (bN a - bN b)) = iv s a + iv t b := by unfold iv; rw [eb]; cases s <;> cases t <;> simp at hst ⊢ <;> omega
   have hsz : (sN (bN a - bN b)).size ≤ 1000000000 := by rw [gR]; have := jT (show bN a - bN b ≤ bN a by omega); omega
   rw [← e1]
   refine ak (N := 49) (l := [.agg #[.bool s, .string a], .agg #[.bool t, .string b]]) Tryz.func178 rfl rfl (by simp) ?_
   refine sr ?_
   refine dp hh [_,_] ?_
   intro b2 w2 hh
   refine dp hh [_,_] ?_
   intro b3 w3 hh
   refine cj hh ?_
   intro b4 w4 hh
   refine aa (ai (sr (bP ?_)))
   refine bQ hh 2 ?_
   refine bP ?_
   refine bQ hh 1 ?_
   first | refine jM aJ.out rfl rfl (by first | rfl | assumption) (by decide) ?_ | refine jK aJ.out rfl rfl (by first | rfl | assumption | decide) (by decide) ?_ | refine s_eql_bool aJ.out rfl rfl (by decide) ?_
   refine aa (cF (al (aj (sr (bP ?_)))))
   refine bQ hh 2 ?_
   refine bP ?_
   refine bQ hh 1 ?_
   refine bE hh (kq a b _ (by omega) (by omega)) rfl ?_
   intro w27 hh
   rw [decide_eq_true hle]
   refine mT ?_
   refine cM ?_
   refine cM ?_
   refine aS (aB (aa (ai (sr (mB (aa (cT (sr (bP ?_)))))))))
   refine bQ hh 2 ?_
   refine mS ?_
   refine eM [_,_] ?_
   refine bE hh (cW s (sN (bN a - bN b)) _ hsz) rfl ?_
   intro w35 hh
   refine bK hh 0 [_,_] ?_
   intro ws hh
   replace hh : Hp _ (.blk _ _ [_, _] _ :: _) _ := hh
   refine aa (ao (aM ?_))
   refine hO (aU rfl (aV (vs := [_, _]) aC.out (hh.aw (i := 0) (n := 2) rfl rfl) rfl) bg) ?_
   exact ⟨rfl, hh.below⟩
  ·have e1 : iv t (sN (bN b - bN a)) = iv s a + iv t b := by unfold iv; rw [eb]; cases s <;> cases t <;> simp at hst ⊢ <;> omega
   have hsz : (sN (bN b - bN a)).size ≤ 1000000000 := by rw [gR]; have := jT (show bN b - bN a ≤ bN b by omega); omega
   rw [← e1]
   refine ak (N := 49) (l := [.agg #[.bool s, .string a], .agg #[.bool t, .string b]]) Tryz.func178 rfl rfl (by simp) ?_
   refine sr ?_
   refine dp hh [_,_] ?_
   intro b2 w2 hh
   refine dp hh [_,_] ?_
   intro b3 w3 hh
   refine cj hh ?_
   intro b4 w4 hh
   refine aa (ai (sr (bP ?_)))
   refine bQ hh 2 ?_
   refine bP ?_
   refine bQ hh 1 ?_
   first | refine jM aJ.out rfl rfl (by first | rfl | assumption) (by decide) ?_ | refine jK aJ.out rfl rfl (by first | rfl | assumption | decide) (by decide) ?_ | refine s_eql_bool aJ.out rfl rfl (by decide) ?_
   refine aa (cF (al (aj (sr (bP ?_)))))
   refine bQ hh 2 ?_
   refine bP ?_
   refine bQ hh 1 ?_
   refine bE hh (kq a b _ (by omega) (by omega)) rfl ?_
   intro w27 hh
   rw [decide_eq_false hle]
   refine mT ?_
   refine cM ?_
   refine cM ?_
   refine aS (aB (aa (ai (sr (mB (aa (cF (al (aj (sr (bP ?_)))))))))))
   refine bQ hh 1 ?_
   refine bP ?_
   refine bQ hh 2 ?_
   refine bE hh (kq b a _ (by omega) (by omega)) rfl ?_
   intro w41 hh
   refine mT ?_
   refine cM ?_
   refine cM ?_
   refine aS (aa (sr (bP ?_)))
   refine bQ hh 1 ?_
   refine mS ?_
   refine eM [_,_] ?_
   refine bE hh (cW t (sN (bN b - bN a)) _ hsz) rfl ?_
   intro w48 hh
   refine bK hh 0 [_,_] ?_
   intro ws hh
   replace hh : Hp _ (.blk _ _ [_, _] _ :: _) _ := hh
   refine aa (ao ?_)
   refine hO (aU rfl (aV (vs := [_, _]) aC.out (hh.aw (i := 0) (n := 2) rfl rfl) rfl) bg) ?_
   exact ⟨rfl, hh.below⟩
theorem ko (z : Int) (B : Nat) (q r : Int) (h : r + B * q = z) (h0 : 0 ≤ r) (h1 : r < B) : z / B = q ∧ z % B = r :=
 (Int.ediv_emod_unique (by omega)).2 ⟨h, h0, h1⟩
theorem sW (s : Bool) (a b : ByteArray) (w : World) (ha : a.size ≤ 10000000) (hb : b.size ≤ 10000000) (hb0 : bN b ≠ 0) :
  Calls Tryz.prog 207 #[.agg #[.bool s, .string a], .agg #[.bool false, .string b]] w fun e w' => e = .returned (.tuple #[.agg #[.bool (iN (iv s a / bN b)), .string (iM (iv s a / bN b))], .agg #[.bool (iN (iv s a % bN b)), .string (iM (iv s a % bN b))], .bool true]) ∧ Below w.heap.size w w' := by
 have hh := Hp.start w
 have hba := ff a
 have hbb := ff b
 have hmod : bN a % bN b < bN b := Nat.mod_lt _ (by omega)
 have hdm : bN b * (bN a / bN b) + bN a % bN b = bN a := Nat.div_add_mod _ _
 have hdm' : (bN b : Int) * ((bN a / bN b : Nat) : Int) + ((bN a % bN b : Nat) : Int) = (bN a : Int) := by rw [← Int.natCast_mul, ← Int.natCast_add, hdm]
 have hqs : (sN (bN a / bN b)).size ≤ 10000000 := by rw [gR]; have := jT (Nat.div_le_self (bN a) (bN b)); omega
 have hrs : (sN (bN a % bN b)).size ≤ 10000000 := by rw [gR]; have := jT (show bN a % bN b ≤ bN b by omega); omega
 have hqz : ∀ u, (iM (iv u (sN (bN a / bN b)))).size ≤ 10000000 := fun u => by rw [tk, eb]; exact hqs
 have hrz : ∀ u, (iM (iv u (sN (bN a % bN b)))).size ≤ 10000000 := fun u => by rw [tk, eb]; exact hrs
 by_cases hneg : s = true ∧ bN a % bN b ≠ 0
 ·obtain ⟨rfl, hne⟩ := hneg
  have e1 : iv true (sN (bN a / bN b)) = -((bN a / bN b : Nat) : Int) := by unfold iv; rw [eb, if_pos rfl]
  have e2 : iv true (sN (bN a % bN b)) = -((bN a % bN b : Nat) : Int) := by unfold iv; rw [eb, if_pos rfl]
  have hlt : (iv true (sN (bN a % bN b))).sign < 0 := by rw [e2, Int.sign_eq_neg_one_of_neg (by omega)]; omega
  have e3 : iv true a = -(bN a : Int) := by unfold iv; rw [if_pos rfl]
  obtain ⟨q1, q2⟩ := ko (iv true a) (bN b) (-((bN a / bN b : Nat) : Int) + -1) ((bN b : Int) - ((bN a % bN b : Nat) : Int)) (by rw [e3, ← hdm', Int.mul_add, Int.mul_neg]; omega) (by omega) (by omega)
  have e4 : iv false b = (bN b : Int) := by unfold iv; rw [if_neg (by simp)]
  have hp2 : (bN b : Int).sign = 1 := Int.sign_eq_one_of_pos (by omega)
  refine ak (N := 57) (l := [.agg #[.bool true, .string a], .agg #[.bool false, .string b]]) Tryz.func207 rfl rfl (by simp) ?_
  refine sr ?_
  refine dp hh [_,_] ?_
  intro b2 w2 hh
  refine dp hh [_,_] ?_
  intro b3 w3 hh
  refine cj hh ?_
  intro b4 w4 hh
  refine cj hh ?_
  intro b5 w5 hh
  refine aB (aa (sr (bP ?_)))
  refine bQ hh 3 ?_
  refine bP ?_
  refine bQ hh 2 ?_
  refine bE hh (kn a b _ (by omega) (by omega) hb0) rfl ?_
  intro w18 hh
  refine mT ?_
  refine cM ?_
  refine cM ?_
  refine cM ?_
  refine aS (aS (aB (aa (ai (sr (mB ?_))))))
  refine eo ?_
  refine aa (cF (al (aj (sr (bP ?_)))))
  refine bQ hh 3 ?_
  refine bP ?_
  refine bQ hh 2 ?_
  first | refine pD aJ.out rfl rfl (by first | rfl | assumption) (by decide) ?_ | refine ql aJ.out rfl rfl (by first | assumption | decide) (by decide) ?_ | refine s_neq_bool aJ.out rfl rfl (by decide) ?_
  refine mS ?_
  refine eM [_,_] ?_
  refine bE hh (cW true (sN (bN a / bN b)) _ (by omega)) rfl ?_
  intro w33 hh
  refine cj hh ?_
  intro b10 w10 hh
  refine bK hh 0 [_,_] ?_
  intro ws hh
  replace hh : Hp _ (.blk _ _ [_, _] _ :: _) _ := hh
  refine aa (sr (bP ?_))
  refine bQ hh 4 ?_
  refine mS ?_
  refine eM [_,_] ?_
  refine bE hh (cW true (sN (bN a % bN b)) _ (by omega)) rfl ?_
  intro w38 hh
  refine cj hh ?_
  intro b11 w11 hh
  refine bK hh 0 [_,_] ?_
  intro ws hh
  replace hh : Hp _ (.blk _ _ [_, _] _ :: _) _ := hh
  refine aa (ai (sr ?_))
  refine cf hh 0 [_,_] ?_
  refine bE hh (hH (iN (iv true (sN (bN a % bN b)))) (iM (iv true (sN (bN a % bN b)))) _ (by have := hrz true; omega)) rfl ?_
  intro w40 hh
  rw [fw]
  refine aZ (aa (cT (sr ?_)))
  refine cf hh 0 [_,_] (bP ?_)
  refine bQ hh 4 ?_
  refine eM [_,_] ?_
  refine bE hh (l6 (iN (iv true (sN (bN a % bN b)))) false (iM (iv true (sN (bN a % bN b)))) b _ (by have := hrz true; omega) (by omega)) rfl ?_
  intro w46 hh
  rw [fw, e2, e4, show -((bN a % bN b : Nat) : Int) + (bN b : Int) = (bN b : Int) - ((bN a % bN b : Nat) : Int) by omega, ← q2]
  refine bK hh 0 [_,_] ?_
  intro ws hh
  replace hh : Hp _ (.blk _ _ [_, _] _ :: _) _ := hh
  refine aa (sr ?_)
  refine bE hh (lP (-1) _ (by omega) (by omega)) rfl ?_
  intro w47 hh
  refine cj hh ?_
  intro b12 w12 hh
  refine bK hh 0 [_,_] ?_
  intro ws hh
  replace hh : Hp _ (.blk _ _ [_, _] _ :: _) _ := hh
  refine aa (ai (sr ?_))
  refine cf hh 5 [_,_] ?_
  refine bE hh (hH false b _ (by omega)) rfl ?_
  intro w49 hh
  rw [e4, hp2]
  refine aZ (aa (cF (al (aj (au ?_)))))
  refine cf hh 2 [_,_] ?_
  refine cf hh 0 [_,_] ?_
  refine bE hh (l6 (iN (iv true (sN (bN a / bN b)))) (iN (-1)) (iM (iv true (sN (bN a / bN b)))) (iM (-1)) _ (by have := hqz true; omega) (by decide)) rfl ?_
  intro w54 hh
  rw [fw, fw, e1, ← q1]
  refine bK hh 2 [_,_] ?_
  intro ws hh
  replace hh : Hp _ (_ :: _ :: .blk _ _ [_, _] _ :: _) _ := hh
  refine aa (ai ?_)
  refine jQ hh mixed fun w_ hj_ => ?_
  replace hh := hj_.hp
  clear hj_
  refine j7 (i := 0) (i2 := 1) (by kernel_rfl) rfl rfl ?_ ?_
  ·refine cf hh 2 [_,_] ?_
   refine cx ?_
   refine j7 (i := 1) (i2 := 2) (by kernel_rfl) rfl rfl ?_ ?_
   ·refine cf hh 1 [_,_] ?_
    refine cx ?_
    refine db (i := 2) (by kernel_rfl) rfl ?_
    refine bK hh 4 [_,_] ?_
    intro ws hh
    replace hh : Hp _ (_ :: _ :: _ :: _ :: .blk _ _ [_, _] _ :: _) _ := hh
    refine cx ?_
    refine dX 3 (by decide) (by kernel_rfl) (by decide) (by kernel_rfl) (by kernel_rfl) ?_
    refine bK hh 3 [_,_] ?_
    intro ws hh
    replace hh : Hp _ (_ :: _ :: _ :: .blk _ _ [_, _] _ :: _) _ := hh
    refine aB (aa (ao ?_))
    refine yo (aU rfl (aV (vs := [_, _]) aC.out (hh.aw (i := 4) (n := 2) rfl rfl) rfl) (aU rfl (aV (vs := [_, _]) aC.out (hh.aw (i := 3) (n := 2) rfl rfl) rfl) (cB (fq rfl) bg))) ?_
    exact ⟨rfl, hh.below⟩
   ·refine bK hh 4 [_,_] ?_
    intro ws hh
    replace hh : Hp _ (_ :: _ :: _ :: _ :: .blk _ _ [_, _] _ :: _) _ := hh
    refine cx ?_
    refine db (i := 1) (by kernel_rfl) rfl ?_
    refine cf hh 1 [_,_] ?_
    refine cx ?_
    refine dX 3 (by decide) (by kernel_rfl) (by decide) (by kernel_rfl) (by kernel_rfl) ?_
    refine bK hh 3 [_,_] ?_
    intro ws hh
    replace hh : Hp _ (_ :: _ :: _ :: .blk _ _ [_, _] _ :: _) _ := hh
    refine aB (aa (ao ?_))
    refine yo (aU rfl (aV (vs := [_, _]) aC.out (hh.aw (i := 4) (n := 2) rfl rfl) rfl) (aU rfl (aV (vs := [_, _]) aC.out (hh.aw (i := 3) (n := 2) rfl rfl) rfl) (cB (fq rfl) bg))) ?_
    exact ⟨rfl, hh.below⟩
  ·refine cf hh 1 [_,_] ?_
   refine cx ?_
   refine db (i := 0) (by kernel_rfl) rfl ?_
   refine cf hh 2 [_,_] ?_
   refine cx ?_
   refine db (i := 2) (by kernel_rfl) rfl ?_
   refine bK hh 4 [_,_] ?_
   intro ws hh
   replace hh : Hp _ (_ :: _ :: _ :: _ :: .blk _ _ [_, _] _ :: _) _ := hh
   refine cx ?_
   refine dX 3 (by decide) (by kernel_rfl) (by decide) (by kernel_rfl) (by kernel_rfl) ?_
   refine bK hh 3 [_,_] ?_
   intro ws hh
   replace hh : Hp _ (_ :: _ :: _ :: .blk _ _ [_, _] _ :: _) _ := hh
   refine aB (aa (ao ?_))
   refine yo (aU rfl (aV (vs := [_, _]) aC.out (hh.aw (i := 4) (n := 2) rfl rfl) rfl) (aU rfl (aV (vs := [_, _]) aC.out (hh.aw (i := 3) (n := 2) rfl rfl) rfl) (cB (fq rfl) bg))) ?_
   exact ⟨rfl, hh.below⟩
 ·have e4 : iv s a / bN b = iv s (sN (bN a / bN b)) ∧ iv s a % bN b = iv s (sN (bN a % bN b)) := by
   cases s with
   | false =>
    have f0 : ∀ x, iv false x = (bN x : Int) := fun x => by unfold iv; rw [if_neg (by simp)]
    rw [f0, f0, f0, eb, eb]
    exact ko _ _ _ _ (by omega) (by omega) (by omega)
   | true =>
    have r0 : bN a % bN b = 0 := by
     rcases Nat.eq_zero_or_pos (bN a % bN b) with h | h
     ·exact h
     ·exact absurd ⟨rfl, by omega⟩ hneg
    have f0 : ∀ x, iv true x = -(bN x : Int) := fun x => by unfold iv; rw [if_pos rfl]
    rw [f0, f0, f0, eb, eb, r0]
    rw [r0] at hdm'
    exact ko _ _ _ _ (by rw [Int.mul_neg]; omega) (by omega) (by omega)
  have h5 : ¬ (iv s (sN (bN a % bN b))).sign < 0 := by
   have h6 : 0 ≤ iv s (sN (bN a % bN b)) := by rw [← e4.2]; exact Int.emod_nonneg _ (by omega)
   have := Int.sign_nonneg_iff.2 h6
   omega
  rw [e4.1, e4.2]
  cases s with
  | false =>
   refine ak (N := 57) (l := [.agg #[.bool false, .string a], .agg #[.bool false, .string b]]) Tryz.func207 rfl rfl (by simp) ?_
   refine sr ?_
   refine dp hh [_,_] ?_
   intro b2 w2 hh
   refine dp hh [_,_] ?_
   intro b3 w3 hh
   refine cj hh ?_
   intro b4 w4 hh
   refine cj hh ?_
   intro b5 w5 hh
   refine aB (aa (sr (bP ?_)))
   refine bQ hh 3 ?_
   refine bP ?_
   refine bQ hh 2 ?_
   refine bE hh (kn a b _ (by omega) (by omega) hb0) rfl ?_
   intro w18 hh
   refine mT ?_
   refine cM ?_
   refine cM ?_
   refine cM ?_
   refine aS (aS (aB (aa (ai (sr (mB ?_))))))
   refine eo ?_
   refine aa (cF (al (aj (sr (bP ?_)))))
   refine bQ hh 3 ?_
   refine bP ?_
   refine bQ hh 2 ?_
   first | refine pD aJ.out rfl rfl (by first | rfl | assumption) (by decide) ?_ | refine ql aJ.out rfl rfl (by first | assumption | decide) (by decide) ?_ | refine s_neq_bool aJ.out rfl rfl (by decide) ?_
   refine mS ?_
   refine eM [_,_] ?_
   refine bE hh (cW false (sN (bN a / bN b)) _ (by omega)) rfl ?_
   intro w33 hh
   refine cj hh ?_
   intro b10 w10 hh
   refine bK hh 0 [_,_] ?_
   intro ws hh
   replace hh : Hp _ (.blk _ _ [_, _] _ :: _) _ := hh
   refine aa (sr (bP ?_))
   refine bQ hh 4 ?_
   refine mS ?_
   refine eM [_,_] ?_
   refine bE hh (cW false (sN (bN a % bN b)) _ (by omega)) rfl ?_
   intro w38 hh
   refine cj hh ?_
   intro b11 w11 hh
   refine bK hh 0 [_,_] ?_
   intro ws hh
   replace hh : Hp _ (.blk _ _ [_, _] _ :: _) _ := hh
   refine aa (ai (sr ?_))
   refine cf hh 0 [_,_] ?_
   refine bE hh (hH (iN (iv false (sN (bN a % bN b)))) (iM (iv false (sN (bN a % bN b)))) _ (by have := hrz false; omega)) rfl ?_
   intro w40 hh
   rw [fw]
   refine aZ (aa (cF (al (aj (ai ?_)))))
   refine jQ hh mixed fun w_ hj_ => ?_
   replace hh := hj_.hp
   clear hj_
   refine j7 (i := 0) (i2 := 1) (by kernel_rfl) rfl rfl ?_ ?_
   ·refine cf hh 1 [_,_] ?_
    refine cx ?_
    refine j7 (i := 1) (i2 := 2) (by kernel_rfl) rfl rfl ?_ ?_
    ·refine cf hh 0 [_,_] ?_
     refine cx ?_
     refine db (i := 2) (by kernel_rfl) rfl ?_
     refine bK hh 3 [_,_] ?_
     intro ws hh
     replace hh : Hp _ (_ :: _ :: _ :: .blk _ _ [_, _] _ :: _) _ := hh
     refine cx ?_
     refine dX 3 (by decide) (by kernel_rfl) (by decide) (by kernel_rfl) (by kernel_rfl) ?_
     refine bK hh 2 [_,_] ?_
     intro ws hh
     replace hh : Hp _ (_ :: _ :: .blk _ _ [_, _] _ :: _) _ := hh
     refine aB (aa (ao ?_))
     refine yo (aU rfl (aV (vs := [_, _]) aC.out (hh.aw (i := 3) (n := 2) rfl rfl) rfl) (aU rfl (aV (vs := [_, _]) aC.out (hh.aw (i := 2) (n := 2) rfl rfl) rfl) (cB (fq rfl) bg))) ?_
     exact ⟨rfl, hh.below⟩
    ·refine bK hh 3 [_,_] ?_
     intro ws hh
     replace hh : Hp _ (_ :: _ :: _ :: .blk _ _ [_, _] _ :: _) _ := hh
     refine cx ?_
     refine db (i := 1) (by kernel_rfl) rfl ?_
     refine cf hh 0 [_,_] ?_
     refine cx ?_
     refine dX 3 (by decide) (by kernel_rfl) (by decide) (by kernel_rfl) (by kernel_rfl) ?_
     refine bK hh 2 [_,_] ?_
     intro ws hh
     replace hh : Hp _ (_ :: _ :: .blk _ _ [_, _] _ :: _) _ := hh
     refine aB (aa (ao ?_))
     refine yo (aU rfl (aV (vs := [_, _]) aC.out (hh.aw (i := 3) (n := 2) rfl rfl) rfl) (aU rfl (aV (vs := [_, _]) aC.out (hh.aw (i := 2) (n := 2) rfl rfl) rfl) (cB (fq rfl) bg))) ?_
     exact ⟨rfl, hh.below⟩
   ·refine cf hh 0 [_,_] ?_
    refine cx ?_
    refine db (i := 0) (by kernel_rfl) rfl ?_
    refine cf hh 1 [_,_] ?_
    refine cx ?_
    refine db (i := 2) (by kernel_rfl) rfl ?_
    refine bK hh 3 [_,_] ?_
    intro ws hh
    replace hh : Hp _ (_ :: _ :: _ :: .blk _ _ [_, _] _ :: _) _ := hh
    refine cx ?_
    refine dX 3 (by decide) (by kernel_rfl) (by decide) (by kernel_rfl) (by kernel_rfl) ?_
    refine bK hh 2 [_,_] ?_
    intro ws hh
    replace hh : Hp _ (_ :: _ :: .blk _ _ [_, _] _ :: _) _ := hh
    refine aB (aa (ao ?_))
    refine yo (aU rfl (aV (vs := [_, _]) aC.out (hh.aw (i := 3) (n := 2) rfl rfl) rfl) (aU rfl (aV (vs := [_, _]) aC.out (hh.aw (i := 2) (n := 2) rfl rfl) rfl) (cB (fq rfl) bg))) ?_
    exact ⟨rfl, hh.below⟩
  | true =>
   refine ak (N := 57) (l := [.agg #[.bool true, .string a], .agg #[.bool false, .string b]]) Tryz.func207 rfl rfl (by simp) ?_
   refine sr ?_
   refine dp hh [_,_] ?_
   intro b2 w2 hh
   refine dp hh [_,_] ?_
   intro b3 w3 hh
   refine cj hh ?_
   intro b4 w4 hh
   refine cj hh ?_
   intro b5 w5 hh
   refine aB (aa (sr (bP ?_)))
   refine bQ hh 3 ?_
   refine bP ?_
   refine bQ hh 2 ?_
   refine bE hh (kn a b _ (by omega) (by omega) hb0) rfl ?_
   intro w18 hh
   refine mT ?_
   refine cM ?_
   refine cM ?_
   refine cM ?_
   refine aS (aS (aB (aa (ai (sr (mB ?_))))))
   refine eo ?_
   refine aa (cF (al (aj (sr (bP ?_)))))
   refine bQ hh 3 ?_
   refine bP ?_
   refine bQ hh 2 ?_
   first | refine pD aJ.out rfl rfl (by first | rfl | assumption) (by decide) ?_ | refine ql aJ.out rfl rfl (by first | assumption | decide) (by decide) ?_ | refine s_neq_bool aJ.out rfl rfl (by decide) ?_
   refine mS ?_
   refine eM [_,_] ?_
   refine bE hh (cW true (sN (bN a / bN b)) _ (by omega)) rfl ?_
   intro w33 hh
   refine cj hh ?_
   intro b10 w10 hh
   refine bK hh 0 [_,_] ?_
   intro ws hh
   replace hh : Hp _ (.blk _ _ [_, _] _ :: _) _ := hh
   refine aa (sr (bP ?_))
   refine bQ hh 4 ?_
   refine mS ?_
   refine eM [_,_] ?_
   refine bE hh (cW true (sN (bN a % bN b)) _ (by omega)) rfl ?_
   intro w38 hh
   refine cj hh ?_
   intro b11 w11 hh
   refine bK hh 0 [_,_] ?_
   intro ws hh
   replace hh : Hp _ (.blk _ _ [_, _] _ :: _) _ := hh
   refine aa (ai (sr ?_))
   refine cf hh 0 [_,_] ?_
   refine bE hh (hH (iN (iv true (sN (bN a % bN b)))) (iM (iv true (sN (bN a % bN b)))) _ (by have := hrz true; omega)) rfl ?_
   intro w40 hh
   rw [fw]
   refine aZ (aa (cF (al (aj (ai ?_)))))
   refine jQ hh mixed fun w_ hj_ => ?_
   replace hh := hj_.hp
   clear hj_
   refine j7 (i := 0) (i2 := 1) (by kernel_rfl) rfl rfl ?_ ?_
   ·refine cf hh 1 [_,_] ?_
    refine cx ?_
    refine j7 (i := 1) (i2 := 2) (by kernel_rfl) rfl rfl ?_ ?_
    ·refine cf hh 0 [_,_] ?_
     refine cx ?_
     refine db (i := 2) (by kernel_rfl) rfl ?_
     refine bK hh 3 [_,_] ?_
     intro ws hh
     replace hh : Hp _ (_ :: _ :: _ :: .blk _ _ [_, _] _ :: _) _ := hh
     refine cx ?_
     refine dX 3 (by decide) (by kernel_rfl) (by decide) (by kernel_rfl) (by kernel_rfl) ?_
     refine bK hh 2 [_,_] ?_
     intro ws hh
     replace hh : Hp _ (_ :: _ :: .blk _ _ [_, _] _ :: _) _ := hh
     refine aB (aa (ao ?_))
     refine yo (aU rfl (aV (vs := [_, _]) aC.out (hh.aw (i := 3) (n := 2) rfl rfl) rfl) (aU rfl (aV (vs := [_, _]) aC.out (hh.aw (i := 2) (n := 2) rfl rfl) rfl) (cB (fq rfl) bg))) ?_
     exact ⟨rfl, hh.below⟩
    ·refine bK hh 3 [_,_] ?_
     intro ws hh
     replace hh : Hp _ (_ :: _ :: _ :: .blk _ _ [_, _] _ :: _) _ := hh
     refine cx ?_
     refine db (i := 1) (by kernel_rfl) rfl ?_
     refine cf hh 0 [_,_] ?_
     refine cx ?_
     refine dX 3 (by decide) (by kernel_rfl) (by decide) (by kernel_rfl) (by kernel_rfl) ?_
     refine bK hh 2 [_,_] ?_
     intro ws hh
     replace hh : Hp _ (_ :: _ :: .blk _ _ [_, _] _ :: _) _ := hh
     refine aB (aa (ao ?_))
     refine yo (aU rfl (aV (vs := [_, _]) aC.out (hh.aw (i := 3) (n := 2) rfl rfl) rfl) (aU rfl (aV (vs := [_, _]) aC.out (hh.aw (i := 2) (n := 2) rfl rfl) rfl) (cB (fq rfl) bg))) ?_
     exact ⟨rfl, hh.below⟩
   ·refine cf hh 0 [_,_] ?_
    refine cx ?_
    refine db (i := 0) (by kernel_rfl) rfl ?_
    refine cf hh 1 [_,_] ?_
    refine cx ?_
    refine db (i := 2) (by kernel_rfl) rfl ?_
    refine bK hh 3 [_,_] ?_
    intro ws hh
    replace hh : Hp _ (_ :: _ :: _ :: .blk _ _ [_, _] _ :: _) _ := hh
    refine cx ?_
    refine dX 3 (by decide) (by kernel_rfl) (by decide) (by kernel_rfl) (by kernel_rfl) ?_
    refine bK hh 2 [_,_] ?_
    intro ws hh
    replace hh : Hp _ (_ :: _ :: .blk _ _ [_, _] _ :: _) _ := hh
    refine aB (aa (ao ?_))
    refine yo (aU rfl (aV (vs := [_, _]) aC.out (hh.aw (i := 3) (n := 2) rfl rfl) rfl) (aU rfl (aV (vs := [_, _]) aC.out (hh.aw (i := 2) (n := 2) rfl rfl) rfl) (cB (fq rfl) bg))) ?_
    exact ⟨rfl, hh.below⟩
end Go.Proofs.YtkgdagjklakajaaGreatDoor
/- Several texts in one: RDyA, RDyB, RDyC. -/
namespace Go.Proofs.YtkgdagjklakajaaGreatDoor
open Go.RowKit
theorem tJ {n : Nat} (h : n ≠ 0) : sb n = sb (n / 256) ++ [UInt8.ofNat (n % 256)] := by
 rw [sb, uS (by omega) h, List.map_cons, List.reverse_cons]
 rfl
theorem uh {n : Nat} (h : n ≠ 0) : 1 ≤ (sN n).size ∧ ∃ c : UInt8, (sN n).data.toList[(((sN n).size : Int) - 1).toNat]? = some c ∧ c.toNat = n % 256 := by
 have hl : (sN n).data.toList = sb (n / 256) ++ [UInt8.ofNat (n % 256)] := by rw [sN, cD, tJ h]
 have hs : (sN n).size = (sb (n / 256)).length + 1 := by rw [dF, hl, List.length_append]; rfl
 refine ⟨by omega, UInt8.ofNat (n % 256), ?_, ?_⟩
 ·rw [hl, hs, List.getElem?_append_right (by omega)]
  have : (((sb (n / 256)).length + 1 : Nat) - 1 : Int).toNat - (sb (n / 256)).length = 0 := by omega
  rw [this]
  rfl
 ·simp
theorem zA {n : Nat} (h : n ≠ 0) : (sN n).extract 0 ((sN n).size - 1) = sN (n / 256) := by
 have hl : (sN n).data = (sb (n / 256) ++ [UInt8.ofNat (n % 256)]).toArray := by rw [sN, ← tJ h]; rfl
 have hs : (sN n).size = (sb (n / 256)).length + 1 := by rw [dF, hl, List.length_append]; rfl
 apply ByteArray.ext
 rw [ByteArray.data_extract, hl, hs]
 show _ = (sb (n / 256)).toArray
 simp
theorem y7 {k : Int} (h : 0 < k) (y : Int) : iN (y * k) = iN y := by
 unfold iN
 rw [decide_eq_decide]
 constructor
 ·intro h1
  rcases Int.lt_trichotomy y 0 with h2 | h2 | h2
  ·exact h2
  ·rw [h2] at h1; simp at h1
  ·have := Int.mul_pos h2 h; omega
 ·intro h1
  exact Int.mul_neg_of_neg_of_pos h1 h
theorem zw {n : Nat} (h : n % 2 = 1) : tz n = 0 := by
 have := tR 0 (n / 2)
 rwa [show 2 ^ 0 * (2 * (n / 2) + 1) = n by omega] at this
theorem vR {y z e : Int} {j : Nat} (hy : y.natAbs % 2 = 1) (hz : y * 2 ^ j = z) : nR (Dyadic.ofIntWithPrec z (-e)) = ⟨iN y, iM y, e + j⟩ := by
 have h1 := lG (s := iN y) (a := iM y) (e := e + j) (by rw [fw]; omega)
 rw [fw, iM, eb, zw hy] at h1
 have h2 := oU y (-(e + j)) j
 rw [hz, show -(e + (j : Int)) + j = -e by omega] at h2
 rw [h2, h1]
 simp
theorem mr {y z : Int} {j m : Nat} (hy : y ≠ 0) (hz : y * 2 ^ j = z) (hm : z.natAbs < 2 ^ m) : j < m := by
 have h1 : z.natAbs = y.natAbs * 2 ^ j := by rw [← hz, Int.natAbs_mul, Int.natAbs_pow]; rfl
 have h2 : 1 * 2 ^ j ≤ y.natAbs * 2 ^ j := Nat.mul_le_mul_right _ (by omega)
 have h3 : 2 ^ j < 2 ^ m := by omega
 exact (Nat.pow_lt_pow_iff_right (by omega)).1 h3
theorem rk (s : Bool) (a : ByteArray) (e : Int) (w : World) (ha : a.size ≤ 10000000) (h1 : -1000000000000 ≤ e) (h2 : e ≤ 1000000000000) :
  Calls Tryz.prog 172 #[.agg #[.bool s, .string a], .int .i64 e] w fun r w' => r = .returned (.agg #[.bool (nR (Dyadic.ofIntWithPrec (iv s a) (-e))).neg, .string (nR (Dyadic.ofIntWithPrec (iv s a) (-e))).cC, .int .i64 (nR (Dyadic.ofIntWithPrec (iv s a) (-e))).e]) ∧ Below w.heap.size w w' := by
 have hh := Hp.start w
 by_cases h0 : iv s a = 0
 ·have hm := mw.2 h0
  rw [h0] at hm
  refine ak (N := 50) (l := [.agg #[.bool s, .string a], .int .i64 e]) Tryz.func172 rfl rfl (by simp) ?_
  refine sr ?_
  refine dp hh [_,_] ?_
  intro b2 w2 hh
  refine cj hh ?_
  intro b4 w4 hh
  refine aa (sr ?_)
  refine cf hh 1 [_,_] ?_
  refine bE hh (cW s a _ (by omega)) rfl ?_
  intro w6 hh
  rw [h0]
  refine bK hh 1 [_,_] ?_
  intro ws hh
  replace hh : Hp _ (_ :: .blk _ _ [_, _] _ :: _) _ := hh
  refine aa (ai (sr (bP ?_)))
  refine bQ hh 1 ?_
  first | refine ec rfl rfl (by first | rfl | assumption | decide) (by decide) ?_ | refine ef rfl rfl (by first | assumption | decide) (by decide) ?_
  refine aa (cT (sr ?_))
  refine eM [_,_,_] ?_
  refine bK hh 0 [_,_,_] ?_
  intro ws hh
  replace hh : Hp _ (.blk _ _ [_, _, _] _ :: _) _ := hh
  refine aa (ao (aM ?_))
  refine hO (aU rfl (aV (vs := [_, _, _]) aC.out (hh.aw (i := 0) (n := 3) rfl rfl) rfl) bg) ?_
  rw [kS, kX]
  exact ⟨rfl, hh.below⟩
 ·have hm : ¬ iM (iv s a) = ByteArray.mk #[] := fun h => h0 (mw.1 h)
  have hzb : (iv s a).natAbs < 2 ^ (8 * a.size) := by
   rw [gL, Nat.pow_mul]
   exact oC a
  refine ak (N := 50) (l := [.agg #[.bool s, .string a], .int .i64 e]) Tryz.func172 rfl rfl (by simp) ?_
  refine sr ?_
  refine dp hh [_,_] ?_
  intro b2 w2 hh
  refine cj hh ?_
  intro b4 w4 hh
  refine aa (sr ?_)
  refine cf hh 1 [_,_] ?_
  refine bE hh (cW s a _ (by omega)) rfl ?_
  intro w6 hh
  refine bK hh 1 [_,_] ?_
  intro ws hh
  replace hh : Hp _ (_ :: .blk _ _ [_, _] _ :: _) _ := hh
  refine aa (ai (sr (bP ?_)))
  refine bQ hh 1 ?_
  first | refine ec rfl rfl (by first | rfl | assumption | decide) (by decide) ?_ | refine ef rfl rfl (by first | assumption | decide) (by decide) ?_
  refine aa (cF (al (aj (ai (aq ?_)))))
  generalize hz : iv s a = z at *
  refine bD [1, 11, 12, 13, 14, 15, 16, 17, 18, 19, 20, 21, 22, 23, 24, 25, 26, 27, 28] 1
   (fun v w' => ∃ (y : Int) (j : Nat), y ≠ 0 ∧ y * 2 ^ j = z ∧ v = .int .i64 (e + j) ∧ Hp w [.blk b4 26 [.bool false, .string (ByteArray.mk #[]), .int .i64 0] (0, 0), .blk b2 24 [.bool (iN y), .string (iM y)] (0, 0)] w')
   (fun v _ => (e + 8 * a.size + 1 - intOf v).toNat) ?_ ?_
  ·exact ⟨z, 0, h0, by simp, by show Value.int _ _ = Value.int _ _; congr 1; omega, hh⟩
  ·clear hh
   rintro ρ' v w' ⟨y, j, hy, hyz, rfl, hh⟩
   have hj := mr hy hyz hzb
   obtain ⟨hs1, c, hc, hcn⟩ := uh (n := y.natAbs) (by omega)
   have hcut := zA (n := y.natAbs) (by omega)
   have hsz : (sN y.natAbs).size ≤ 10000000 := by
    have h1 : z.natAbs = y.natAbs * 2 ^ j := by rw [← hyz, Int.natAbs_mul, Int.natAbs_pow]; rfl
    have h2 : y.natAbs * 1 ≤ y.natAbs * 2 ^ j := Nat.mul_le_mul_left _ (Nat.pow_pos (by omega))
    have h3 : bA y.natAbs ≤ 8 * a.size := cV (by omega)
    rw [gR]
    omega
   change (iM y).data.toList[(((iM y).size : Int) - 1).toNat]? = some c at hc
   change 1 ≤ (iM y).size at hs1
   change (iM y).extract 0 ((iM y).size - 1) = _ at hcut
   change (iM y).size ≤ _ at hsz
   by_cases hb : y.natAbs % 256 = 0
   ·obtain ⟨x, rfl⟩ : ∃ x, y = x * 256 := ⟨y / 256, by omega⟩
    have hx : x ≠ 0 := fun h => hy (by rw [h]; rfl)
    have e1 : iN (x * 256) = iN x := y7 (by omega) x
    have e2 : sN ((x * 256).natAbs / 256) = iM x := by rw [iM]; congr 1; omega
    have hxz : x * 2 ^ (j + 8) = z := by rw [← hyz, Int.pow_add, Int.mul_assoc, Int.mul_comm (2 ^ j)]; rfl
    have hj2 := mr hx hxz hzb
    refine ai (sr (bP ?_))
    refine bQ hh 1 ?_
    refine bP ?_
    refine bQ hh 1 ?_
    refine bB aJ.out rfl (by decide) ?_
    refine fp ?_
    refine bL aJ.out rfl rfl (by omega) (by assumption) (by decide) ?_
    refine cI (aa (cT (al (aj (aq (sr (bP ?_)))))))
    refine bQ hh 1 ?_
    refine bP ?_
    refine bQ hh 1 ?_
    refine bB aJ.out rfl (by decide) ?_
    refine fp ?_
    refine lS (l := 0) (h := ((iM (x * 256)).size - 1)) aJ.out rfl rfl ⟨_, _, rfl, by omega⟩ (by omega) (by omega) (by decide) ?_
    refine bP ?_
    refine bK hh 1 [_] ?_
    intro ws hh
    replace hh : Hp _ (_ :: .blk _ _ [_, _] _ :: _) _ := hh
    refine aa (au (mI ?_))
    refine bO (aI (aK (a3 (aj ?_))))
    rw [hcut, e2, e1] at hh
    refine ⟨⟨x, j + 8, hx, hxz, by show Value.int _ _ = Value.int _ _; congr 1; omega, hh⟩, by show (e + 8 * a.size + 1 - (e + j + 8)).toNat < (e + 8 * a.size + 1 - (e + j)).toNat; omega, ?_⟩
    (repeat (first | exact aA _ _ _ | refine aE rfl ?_ | refine ax rfl ?_))
   ·refine ai (sr (bP ?_))
    refine bQ hh 1 ?_
    refine bP ?_
    refine bQ hh 1 ?_
    refine bB aJ.out rfl (by decide) ?_
    refine fp ?_
    refine bL aJ.out rfl rfl (by omega) (by assumption) (by decide) ?_
    refine cI (aa (cF ?_))
    refine a4 ?_
    refine aD (aD (bp (aj (ai (aq ?_)))))
    refine bD [1, 29, 30, 31, 32, 33, 34, 35, 36, 37, 38, 39, 40, 41, 42, 43, 44, 45, 46] 1
     (fun v w' => ∃ (y : Int) (j : Nat), y ≠ 0 ∧ y * 2 ^ j = z ∧ v = .int .i64 (e + j) ∧ Hp w [.blk b4 26 [.bool false, .string (ByteArray.mk #[]), .int .i64 0] (0, 0), .blk b2 24 [.bool (iN y), .string (iM y)] (0, 0)] w')
     (fun v _ => (e + 8 * a.size + 1 - intOf v).toNat) ?_ ?_
    ·exact ⟨y, j, hy, hyz, rfl, hh⟩
    ·clear hh hb hcut hcn hc hs1 hsz hj hy hyz
     rintro ρ2 v w2 ⟨y, j, hy, hyz, rfl, hh⟩
     have hj := mr hy hyz hzb
     obtain ⟨hs1, c, hc, hcn⟩ := uh (n := y.natAbs) (by omega)
     have hsz : (sN y.natAbs).size ≤ 10000000 := by
      have h1 : z.natAbs = y.natAbs * 2 ^ j := by rw [← hyz, Int.natAbs_mul, Int.natAbs_pow]; rfl
      have h2 : y.natAbs * 1 ≤ y.natAbs * 2 ^ j := Nat.mul_le_mul_left _ (Nat.pow_pos (by omega))
      have h3 : bA y.natAbs ≤ 8 * a.size := cV (by omega)
      rw [gR]
      omega
     change (iM y).data.toList[(((iM y).size : Int) - 1).toNat]? = some c at hc
     change 1 ≤ (iM y).size at hs1
     change (iM y).size ≤ _ at hsz
     by_cases hb : y.natAbs % 2 = 0
     ·obtain ⟨x, rfl⟩ : ∃ x, y = x * 2 := ⟨y / 2, by omega⟩
      have hx : x ≠ 0 := fun h => hy (by rw [h]; rfl)
      have hxz : x * 2 ^ (j + 1) = z := by rw [← hyz, Int.pow_add, Int.mul_assoc, Int.mul_comm (2 ^ j)]; rfl
      have hj2 := mr hx hxz hzb
      have hof : ∀ w1, Calls Tryz.prog 173 #[.int .i64 2] w1 fun e w' => e = .returned (.agg #[.bool false, .string (iM 2)]) ∧ Below w1.heap.size w1 w' := fun w1 => lP 2 w1 (by omega) (by omega)
      have hdv : ∀ w1, Calls Tryz.prog 207 #[.agg #[.bool (iN (x * 2)), .string (iM (x * 2))], .agg #[.bool false, .string (iM 2)]] w1 fun e w' => e = .returned (.tuple #[.agg #[.bool (iN x), .string (iM x)], .agg #[.bool (iN 0), .string (iM 0)], .bool true]) ∧ Below w1.heap.size w1 w' := fun w1 => by
       have h2 : bN (iM 2) = 2 := eb 2
       have h3 : (iM 2).size ≤ 10000000 := by rw [dV]; decide
       have := sW (iN (x * 2)) (iM (x * 2)) (iM 2) w1 hsz h3 (by omega)
       rw [fw, h2, show x * 2 / ((2 : Nat) : Int) = x by omega, show x * 2 % ((2 : Nat) : Int) = 0 by omega] at this
       exact this
      refine ai (sr (bP ?_))
      refine bQ hh 1 ?_
      refine bP ?_
      refine bQ hh 1 ?_
      refine bB aJ.out rfl (by decide) ?_
      refine fp ?_
      refine bL aJ.out rfl rfl (by omega) (by assumption) (by decide) ?_
      refine sK (b := 2) rfl rfl (by omega) (by decide) ?_
      refine cI (aa (cT (al (aj (aq (ai ?_))))))
      refine dw [] [5, 6] [0, 0, 3, 7, 15, 15, 15, 31] 7 [[(2, none)], [], [(39, some 0), (40, some 1)], [(41, some 2)], [(38, some 3)], [(38, some 3)], [(38, some 3)]] [(6, 44), (5, 43), (4, 42), (3, 38), (2, 41), (1, 40), (0, 39)] hh mixed (by kernel_rfl) dZ rfl (by repeat (first | exact bS | refine bG ?_ | refine bT ?_)) ?_
      refine gj 1 [_,_] ?_
      refine dC (fun _ hj => hof _) ?_
      refine dC (fun _ hj => hdv _) ?_
      refine Ba ?_
      refine AL ?_
      refine AL ?_
      refine AL ?_
      refine bo ?_
      intro f W hJ hV _
      have hb_8 := hJ.bl
      obtain ⟨v44, v43, v42, v38, v41, v40, v39, _⟩ := hV
      replace hh := hJ.hp
      refine a7 (bu (ah v44 (ah v43 (ah v42 (ah v38 (ah v41 (ah v40 (ah v39 a6)))))))) ?_
      dsimp only [cJ]
      clear hJ
      refine bK hh 1 [_,_] ?_
      intro ws hh
      replace hh : Hp _ (_ :: .blk _ _ [_, _] _ :: _) _ := hh
      refine aa (au (mI ?_))
      refine bO (aI (aK (a3 (aj ?_))))
      refine ⟨⟨x, j + 1, hx, hxz, by show Value.int _ _ = Value.int _ _; congr 1; omega, hh⟩, by show (e + 8 * a.size + 1 - (e + j + 1)).toNat < (e + 8 * a.size + 1 - (e + j)).toNat; omega, ?_⟩
      (repeat (first | exact aA _ _ _ | refine aE rfl ?_ | refine ax rfl ?_))
     ·have hfin := vR (e := e) (show y.natAbs % 2 = 1 by omega) hyz
      refine ai (sr (bP ?_))
      refine bQ hh 1 ?_
      refine bP ?_
      refine bQ hh 1 ?_
      refine bB aJ.out rfl (by decide) ?_
      refine fp ?_
      refine bL aJ.out rfl rfl (by omega) (by assumption) (by decide) ?_
      refine sK (b := 2) rfl rfl (by omega) (by decide) ?_
      refine cI (aa (cF ?_))
      refine a4 ?_
      refine aD (aD (bp (aj (sr ?_))))
      refine cf hh 1 [_,_] (mI ?_)
      refine eM [_,_,_] ?_
      refine bK hh 0 [_,_,_] ?_
      intro ws hh
      replace hh : Hp _ (.blk _ _ [_, _, _] _ :: _) _ := hh
      refine aa (ao ?_)
      refine hO (aU rfl (aV (vs := [_, _, _]) aC.out (hh.aw (i := 0) (n := 3) rfl rfl) rfl) bg) ?_
      rw [hfin]
      exact ⟨rfl, hh.below⟩
theorem vA {z e : Int} {x : Dyadic} (w : World) (hx : Dyadic.ofIntWithPrec z (-e) = x) (hz : (iM z).size ≤ 10000000) (h1 : -1000000000000 ≤ e) (h2 : e ≤ 1000000000000) :
  Calls Tryz.prog 172 #[.agg #[.bool (iN z), .string (iM z)], .int .i64 e] w fun r w' => r = .returned (.agg #[.bool (nR x).neg, .string (nR x).cC, .int .i64 (nR x).e]) ∧ Below w.heap.size w w' := by
 have := rk (iN z) (iM z) e w hz h1 h2
 rw [fw, hx] at this
 exact this
theorem uv (n : Int) (w : World) (h1 : -9223372036854775808 ≤ n) (h2 : n ≤ 9223372036854775807) :
  Calls Tryz.prog 102 #[.int .i64 n] w fun r w' => r = .returned (.agg #[.bool (nR (n : Dyadic)).neg, .string (nR (n : Dyadic)).cC, .int .i64 (nR (n : Dyadic)).e]) ∧ Below w.heap.size w w' := by
 have hh := Hp.start w
 have hsz : (iM n).size ≤ 10000000 := by
  rw [dV]
  have : bA n.natAbs ≤ 64 := cV (by omega)
  omega
 have hc := fun w1 => vA (z := n) (e := 0) (x := (n : Dyadic)) w1 rfl hsz (by omega) (by omega)
 refine ak (N := 6) (l := [.int .i64 n]) Tryz.func102 rfl rfl (by simp) ?_
 refine sr ?_
 refine cj hh ?_
 intro b2 w2 hh
 refine aa (sr (mI ?_))
 refine bE hh (lP n _ h1 h2) rfl ?_
 intro w4 hh
 refine bE hh (hc _) rfl ?_
 intro w5 hh
 refine bK hh 0 [_,_,_] ?_
 intro ws hh
 replace hh : Hp _ (.blk _ _ [_, _, _] _ :: _) _ := hh
 refine aa (ao ?_)
 refine hO (aU rfl (aV (vs := [_, _, _]) aC.out (hh.aw (i := 0) (n := 3) rfl rfl) rfl) bg) ?_
 exact ⟨rfl, hh.below⟩
end Go.Proofs.YtkgdagjklakajaaGreatDoor
namespace Go.Proofs.YtkgdagjklakajaaGreatDoor
open Go.RowKit
end Go.Proofs.YtkgdagjklakajaaGreatDoor
namespace Go.Proofs.YtkgdagjklakajaaGreatDoor
open Go.RowKit
end Go.Proofs.YtkgdagjklakajaaGreatDoor
/- The walks through layer 4's laws (ogeelaw04): the package's own helpers. -/
namespace Go.Proofs.YtkgdagjklakajaaGreatDoor
open Go.RowKit
def D (m e : Int) : Dyadic := Dyadic.ofIntWithPrec m (-e)
theorem wR {m e : Int} (hm : m.natAbs < 256) (h1 : -16 ≤ e) (h2 : e ≤ 16) : Sz 24 (D m e) := by
 have := Sz.raw (a := ⟨iN m, iM m, e⟩) (m := 8) (E := 16) (by show 8 * (iM m).size ≤ 8; rw [dV]; have : bA m.natAbs ≤ 8 := cV hm; omega) h1 h2
 rw [NR.d, NR.i, fw] at this
 exact this
def AR (most far : Int) (l : List NR) : Bool := l.any fun a => decide (most < a.cC.size ∨ a.e < -far ∨ far < a.e)
end Go.Proofs.YtkgdagjklakajaaGreatDoor
/- Arguments opened: dyadic numbers, rows of them; and what the listed table tells. -/
namespace Go.Proofs.YtkgdagjklakajaaGreatDoor
open Go.ChangeShapes Go.WideShapes Go.ChangeAt Go.RowKit Go.ChangeMaps
set_option maxRecDepth 100000 in
theorem uY {H : Type} {enc : TypeId × Value → H} {W : World} {base fuel : Nat} {sp : Nat → Bool} {held : Bool} {cs : List Value} {x : DataW H × List MemPlace} (h : DataW.trod enc Tryz.prog W base sp held fuel 26 cs = some x) :
  ∃ a : NR, cs = a.cells ∧ (Lit.int .i64 a.e).wf = true := by
 have c1 : Tryz.prog.cellsOf 26 = 3 := by kernel_rfl
 have c2 : Tryz.prog.cellsOf 24 = 2 := by kernel_rfl
 have c3 : Tryz.prog.cellsOf 4 = 1 := by kernel_rfl
 have c4 : Tryz.prog.cellsOf 9 = 1 := by kernel_rfl
 have c5 : Tryz.prog.cellsOf 3 = 1 := by kernel_rfl
 obtain ⟨y0, y1, n, _, hl, h0, h1⟩ := trod_struct2 Tryz.underlying26 h
 obtain ⟨z0, z1, n2, _, hl2, h00, h01⟩ := trod_struct2 Tryz.underlying24 h0
 obtain ⟨b, e0, _⟩ := DataW.trod_bool Tryz.underlying4 h00
 obtain ⟨s, e1, _, hs⟩ := DataW.trod_string Tryz.underlying9 h01
 obtain ⟨z, e2, _, hz⟩ := DataW.trod_int Tryz.underlying3 h1
 rw [c1] at hl
 match cs, hl with
 | [x0, x1, x2], _ =>
  simp only [c2, c3, c4, c5] at e0 e1 e2
  simp at e0 e1 e2
  subst e0 e1 e2
  exact ⟨⟨b, s, z⟩, rfl, hz⟩
theorem rM {W : World} (h : laidMetH Tryz.prog Rows.polyMakesRow.laid W) : gM W := by
 rw [MakeChecks.laidMetH_plain _ _ _ (by kernel_rfl)] at h
 obtain ⟨ps, ⟨g, t, cs, fuel, p, q, hg, ht, hv, hd, _, _⟩, _, _⟩ := h
 obtain rfl := Option.some.inj ((show Tryz.prog.globalNamed "math/bits.deBruijn64tab" = some 0 by kernel_rfl).symm.trans hg)
 obtain rfl := Option.some.inj ((show (Tryz.prog.globals[0]?).map (·.type) = some 229 by kernel_rfl).symm.trans ht)
 obtain ⟨xs, m, _, ex, _, hl, hel⟩ := DataW.trod_array Tryz.underlying229 hd
 have c5 : Tryz.prog.cellsOf 5 = 1 := by kernel_rfl
 have e3 : (xs.map (·.1)) = sV.map fun n => .lit (.int .u8 n) := (DataW.agg.inj (Prod.mk.inj ex).1).symm
 have hlen : sV.length = 64 := by decide
 intro r u hu
 have hr : r < 64 := by
  have := (List.getElem?_eq_some_iff.1 hu).1
  rw [bY] at this
  omega
 have hE := hel r hr
 rw [c5, Nat.mul_one, List.getElem?_eq_getElem (by omega)] at hE
 obtain ⟨z, e1, e2, _⟩ := DataW.trod_int Tryz.underlying5 hE
 have e4 : (xs.map (·.1))[r]? = (sV.map fun (n : Nat) => (DataW.lit (.int .u8 n) : DataW Unit))[r]? := by rw [e3]
 rw [List.getElem?_map, List.getElem?_map, List.getElem?_eq_getElem (by omega : r < xs.length), List.getElem?_eq_getElem (by omega : r < sV.length), e2] at e4
 have hz : u = .int .u8 z := by
  rw [eZ, List.getElem?_map, List.getElem?_eq_getElem (by omega : r < sV.length)] at hu
  simp only [Option.map_some, Option.some.injEq, DataW.lit.injEq, Lit.int.injEq, true_and] at e4 hu
  rw [← hu, e4]
 rw [eu, Nat.zero_add, World.var?_cell hg hv r, hz]
 have : cs.toList[r]? = some (.int .u8 z) := by
  have h0 : ((cs.toList.drop r).take 1)[0]? = some (.int .u8 z) := by rw [e1]; rfl
  simpa using h0
 simpa using this
end Go.Proofs.YtkgdagjklakajaaGreatDoor
/- Arguments opened: slices of records. -/
namespace Go.Proofs.YtkgdagjklakajaaGreatDoor
open Go.ChangeShapes Go.WideShapes Go.ChangeAt Go.RowKit Go.ChangeMaps
theorem rq {α : Type} {p : Nat → α → Prop} : ∀ (n : Nat), (∀ i, i < n → ∃ a, p i a) → ∃ l : List α, l.length = n ∧ ∀ i a, l[i]? = some a → p i a
 | 0, _ => ⟨[], rfl, fun i a h => by simp at h⟩
 | n + 1, h => by
  obtain ⟨l, h1, h2⟩ := rq n fun i hi => h i (by omega)
  obtain ⟨a, ha⟩ := h n (by omega)
  refine ⟨l ++ [a], by simp [h1], fun i b hb => ?_⟩
  rcases Nat.lt_or_ge i l.length with hi | hi
  ·rw [List.getElem?_append_left hi] at hb
   exact h2 i b hb
  ·rw [List.getElem?_append_right hi] at hb
   have h3 : i - l.length = 0 := by
    rcases Nat.eq_zero_or_pos (i - l.length) with h | h
    ·exact h
    ·rw [List.getElem?_eq_none (by simp; omega)] at hb; cases hb
   rw [h3] at hb
   simp only [List.getElem?_cons_zero, Option.some.injEq] at hb
   subst hb
   rw [show i = n by omega]
   exact ha
end Go.Proofs.YtkgdagjklakajaaGreatDoor
/- Arguments opened: rows of ints. -/
namespace Go.Proofs.YtkgdagjklakajaaGreatDoor
open Go.ChangeShapes Go.WideShapes Go.ChangeAt Go.RowKit Go.ChangeMaps
def IC (z : Int) : List Value := [.int .i64 z]
theorem sX {α : Type} {f : α → List Value} {p : α → Prop} {sz : Nat} {P : Program} {t e : TypeId} {H : Type} {enc : TypeId × Value → H} {W : World} {base fuel : Nat} {sp : Nat → Bool} {held : Bool} {cs : List Value} {x : DataW H × List MemPlace}
  (hf : ∀ x, (f x).length = sz) (h0 : 0 < sz) (ht : P.underlying t = some (.slice e)) (hc : P.cellsOf e = sz) (one : ∀ fuel cs x, DataW.trod enc P W base sp held fuel e cs = some x → ∃ a, cs = f a ∧ p a)
  (hfu : DataW.trod enc P W base sp held fuel t cs = some x) : ∃ (A : Option Addr) (n c : Nat) (l : List α), cs = [.slice A n c] ∧ Sl W A n sz (a8 f l) ∧ ∀ a ∈ l, p a := by
 rcases Go.Deep.open_slice ht hfu with ⟨h1, _⟩ | ⟨ad, n, cp, m, k, D, Pl, h1, _, h2, h3, hm, _, h5⟩
 ·exact ⟨none, 0, 0, [], h1, Sl.nil W none sz, fun _ h => by simp at h⟩
 ·have hnm : n ≤ m := by rw [hm]; split <;> omega
  obtain ⟨l, hl, hp⟩ := rq (p := fun i a => W.cells? base (ad.add (i * sz)) sz = some (f a) ∧ p a) n fun i hi => by
   obtain ⟨cs, h6, h7⟩ := h5 i (by omega)
   rw [hc] at h6
   obtain ⟨a, rfl, h8⟩ := one _ _ _ h7
   exact ⟨a, h6, h8⟩
  refine ⟨some ad, n, cp, l, h1, ⟨by rw [ij hf, hl], fun _ => ⟨ad, rfl, fun j u hu => ?_⟩⟩, fun a ha => ?_⟩
  ·have hdm : j / sz * sz + j % sz = j := by rw [Nat.mul_comm]; exact Nat.div_add_mod j sz
   have hmod : j % sz < sz := Nat.mod_lt _ h0
   have hj : j / sz < l.length := by
    have := (List.getElem?_eq_some_iff.1 hu).1
    rw [ij hf] at this
    exact Nat.div_lt_of_lt_mul (by rw [Nat.mul_comm]; exact this)
   obtain ⟨x, hx⟩ := aR hj
   have h6 := m7 hf hx
   have h7 : (f x)[j % sz]? = some u := by
    rw [← h6, List.getElem?_take, if_pos hmod, List.getElem?_drop, hdm]
    exact hu
   have h8 := (World.cells?_some (hp _ _ hx).1).2.2 (j % sz) hmod
   rw [h7, k4, hdm] at h8
   exact h8
  ·obtain ⟨i, hi⟩ := List.mem_iff_getElem?.1 ha
   exact (hp i a hi).2
theorem uF {P : Program} {t e : TypeId} {H : Type} {enc : TypeId × Value → H} {W : World} {base fuel : Nat} {sp : Nat → Bool} {held : Bool} {A : Option Addr} {n c : Nat} {x : DataW H × List MemPlace}
  (ht : P.underlying t = some (.slice e)) (hfu : DataW.trod enc P W base sp held fuel t [.slice A n c] = some x) : n ≤ c := by
 rcases Go.Deep.open_slice ht hfu with ⟨h1, _⟩ | ⟨ad, n', cp, m, k, D, Pl, h1, _, h2, _⟩
 ·injection h1 with h1
  injection h1 with _ e2 e3
  omega
 ·injection h1 with h1
  injection h1 with _ e2 e3
  omega
end Go.Proofs.YtkgdagjklakajaaGreatDoor
/- What was multiplied is divided back. Plain lemmas, no program in sight. -/
namespace Go.Proofs.YtkgdagjklakajaaGreatDoor
open Go.RowKit
theorem wG {l : List Int} (h : l.all fR = true) : ints (l.map xn) = l := by
 induction l with
 | nil => rfl
 | cons x l ih =>
  simp only [List.all_cons, Bool.and_eq_true] at h
  have h1 : ((xn x).toNat : Int) = x := by
   have := pY h.1
   injection this with _ this
   exact this.symm
  have := ih h.2
  simp only [ints, List.map_cons, h1]
  congr 1
theorem vD {l : List Int} (h : l.all fR = true) : dJ (l.map xn) = true := by
 rw [dJ, List.all_eq_true]
 intro c hc
 obtain ⟨x, hx, rfl⟩ := List.mem_map.1 hc
 have h1 := List.all_eq_true.1 h x hx
 have := pY h1
 injection this with _ this
 simp only [fR, Bool.and_eq_true, decide_eq_true_eq] at h1
 simp only [decide_eq_true_eq]
 omega
theorem ow {f : Int → Int → Int} {a b : List UInt8} {l : List Int} (h : fa f a b = some l) : dJ a = true ∧ dJ b = true ∧ b.length = a.length ∧ l = List.zipWith f (ints a) (ints b) := by
 unfold fa at h
 split at h
 ·rename_i hc
  simp only [Bool.and_eq_true, decide_eq_true_eq] at hc
  injection h with h
  exact ⟨hc.1, hc.2.1, by omega, h.symm⟩
 ·cases h
theorem xG {f : Int → Int → Int} {a b : List UInt8} (h1 : dJ a = true) (h2 : dJ b = true) (h3 : b.length = a.length) : fa f a b = some (List.zipWith f (ints a) (ints b)) := by
 unfold fa
 rw [if_pos (by simp [h1, h2, h3])]
theorem xu {a c : List UInt8} (h : (mulL a c).2 = 0) : dJ a = true ∧ dJ c = true ∧ c.length = a.length ∧ dJ (mulL a c).1 = true ∧ ints (mulL a c).1 = List.zipWith (· + ·) (ints a) (ints c) := by
 unfold mulL at h ⊢
 split
 ·rename_i l hl
  rw [hl] at h
  simp only at h ⊢
  obtain ⟨h1, h2, h3, h4⟩ := ow hl
  by_cases hc : l.all fR = true
  ·rw [(ug hc).1]
   exact ⟨h1, h2, h3, vD hc, by rw [wG hc, h4]⟩
  ·simp [wL, hc] at h
 ·rename_i hl
  rw [hl] at h
  simp at h
end Go.Proofs.YtkgdagjklakajaaGreatDoor
/- Plain laws of terms: rows that rise, what stands with each product, the one form. No program in sight. -/
namespace Go.Proofs.YtkgdagjklakajaaGreatDoor
open Go.RowKit
structure TR where
 m : ByteArray
 c : NR
def TR.cells (t : TR) : List Value := [.string t.m, .bool t.c.neg, .string t.c.cC, .int .i64 t.c.e]
theorem TR.len (t : TR) : t.cells.length = 4 := rfl
theorem TR.one (t : TR) : t.cells.all Value.oneCell' = true := rfl
def fS (a b : ByteArray) : Bool := Op.bytesLess a.data.toList b.data.toList
theorem kM : ∀ a : List UInt8, Op.bytesLess a a = false
 | [] => rfl
 | c :: a => by simp [Op.bytesLess, kM a]
theorem lV : ∀ a b c : List UInt8, Op.bytesLess a b = true → Op.bytesLess b c = true → Op.bytesLess a c = true
 | _, [], [], _, h => by simp [Op.bytesLess] at h
 | _, _ :: _, [], _, h => by simp [Op.bytesLess] at h
 | [], [], _ :: _, h, _ => by simp [Op.bytesLess] at h
 | _ :: _, [], _ :: _, h, _ => by simp [Op.bytesLess] at h
 | [], _ :: _, _ :: _, _, _ => rfl
 | x :: a, y :: b, z :: c, h1, h2 => by
  simp only [Op.bytesLess, Bool.or_eq_true, Bool.and_eq_true, decide_eq_true_eq, beq_iff_eq] at h1 h2 ⊢
  rcases h1 with h1 | ⟨rfl, h1⟩
  ·rcases h2 with h2 | ⟨rfl, h2⟩
   ·exact .inl (UInt8.lt_trans h1 h2)
   ·exact .inl h1
  ·rcases h2 with h2 | ⟨rfl, h2⟩
   ·exact .inl h2
   ·exact .inr ⟨rfl, lV a b c h1 h2⟩
theorem oH : ∀ a b : List UInt8, Op.bytesLess a b = false → Op.bytesLess b a = false → a = b
 | [], [], _, _ => rfl
 | [], _ :: _, h, _ => by simp [Op.bytesLess] at h
 | _ :: _, [], _, h => by simp [Op.bytesLess] at h
 | x :: a, y :: b, h1, h2 => by
  simp only [Op.bytesLess, Bool.or_eq_false_iff, Bool.and_eq_false_iff, decide_eq_false_iff_not, beq_eq_false_iff_ne] at h1 h2
  have e : x = y := by
   have a1 := h1.1
   have a2 := h2.1
   rw [UInt8.lt_iff_toNat_lt] at a1 a2
   exact UInt8.toNat_inj.1 (by omega)
  subst e
  rw [oH a b (h1.2.resolve_left (fun h => h rfl)) (h2.2.resolve_left (fun h => h rfl))]
theorem iS (a : ByteArray) : fS a a = false := kM _
theorem gy {a b c : ByteArray} (h1 : fS a b = true) (h2 : fS b c = true) : fS a c = true := lV _ _ _ h1 h2
theorem kR {a b : ByteArray} (h1 : fS a b = false) (h2 : fS b a = false) : a = b := sg (oH _ _ h1 h2)
theorem vY {a b : ByteArray} (h : fS a b = true) : a ≠ b := fun e => by rw [e, iS] at h; cases h
theorem uL {a b : ByteArray} (h : fS a b = true) : fS b a = false := by
 cases h2 : fS b a with
 | false => rfl
 | true => have := gy h h2; rw [iS] at this; cases this
def pb (l : List TR) : Prop := l.Pairwise fun a b => fS a.m b.m = true
def wS (f : ByteArray → Dyadic) : List TR → Dyadic
 | [] => 0
 | t :: l => t.c.d * f t.m + wS f l
theorem iw (f : ByteArray → Dyadic) (l k : List TR) : wS f (l ++ k) = wS f l + wS f k := by
 induction l with
 | nil => exact (Dyadic.zero_add _).symm
 | cons t l ih => rw [List.cons_append, wS, wS, ih, Dyadic.add_assoc]
theorem yF (f : ByteArray → Dyadic) (l : List TR) (t : TR) : wS f (l ++ [t]) = wS f l + t.c.d * f t.m := by
 rw [iw, wS, wS, Dyadic.add_zero]
def eJ (l : List TR) (m : ByteArray) : Dyadic := wS (fun k => if k = m then 1 else 0) l
theorem dy (t : TR) (l : List TR) (m : ByteArray) : eJ (t :: l) m = (if t.m = m then t.c.d else 0) + eJ l m := by
 show t.c.d * (if t.m = m then 1 else 0) + eJ l m = _
 split
 ·rw [Dyadic.mul_one]
 ·rw [Dyadic.mul_zero]
theorem mK (m : ByteArray) : eJ [] m = 0 := rfl
theorem cm (l k : List TR) (m : ByteArray) : eJ (l ++ k) m = eJ l m + eJ k m := iw _ _ _
theorem o0 {l : List TR} {m : ByteArray} (h : ∀ t ∈ l, t.m ≠ m) : eJ l m = 0 := by
 induction l with
 | nil => rfl
 | cons t l ih => rw [dy, if_neg (h t List.mem_cons_self), ih fun s hs => h s (List.mem_cons_of_mem _ hs), Dyadic.zero_add]
structure Canon (l : List TR) : Prop where
 pO : pb l
 nz : ∀ t ∈ l, t.c.d ≠ 0
 nf : ∀ t ∈ l, t.c = nR t.c.d
theorem mY {t : TR} {l : List TR} (h : Canon (t :: l)) : Canon l := ⟨(List.pairwise_cons.1 h.pO).2, fun s hs => h.nz s (List.mem_cons_of_mem _ hs), fun s hs => h.nf s (List.mem_cons_of_mem _ hs)⟩
theorem oB {t : TR} {l : List TR} {m : ByteArray} (h : pb (t :: l)) (hm : m = t.m ∨ fS m t.m = true) : ∀ s ∈ l, s.m ≠ m := fun s hs e => by
 have h1 := (List.pairwise_cons.1 h).1 s hs
 rcases hm with rfl | hm
 ·rw [e, iS] at h1; cases h1
 ·have := gy hm h1
  rw [e, iS] at this; cases this
theorem gw {t : TR} {l : List TR} (h : pb (t :: l)) : eJ (t :: l) t.m = t.c.d := by
 rw [dy, if_pos rfl, o0 (oB h (.inl rfl)), Dyadic.add_zero]
theorem oN {t : TR} {l : List TR} {m : ByteArray} (h : pb (t :: l)) (hm : fS m t.m = true) : eJ (t :: l) m = 0 := by
 rw [dy, if_neg (fun e => vY hm e.symm), o0 (oB h (.inr hm)), Dyadic.zero_add]
theorem rD : ∀ {l k : List TR}, Canon l → Canon k → (∀ m, eJ l m = eJ k m) → l = k
 | [], [], _, _, _ => rfl
 | [], t :: k, _, hk, h => by
  have := h t.m
  rw [gw hk.pO, mK] at this
  exact absurd this.symm (hk.nz t List.mem_cons_self)
 | t :: l, [], hl, _, h => by
  have := h t.m
  rw [gw hl.pO, mK] at this
  exact absurd this (hl.nz t List.mem_cons_self)
 | t :: l, s :: k, hl, hk, h => by
  have h1 : fS t.m s.m = false := by
   cases hb : fS t.m s.m with
   | false => rfl
   | true =>
    have := h t.m
    rw [gw hl.pO, oN hk.pO hb] at this
    exact absurd this (hl.nz t List.mem_cons_self)
  have h2 : fS s.m t.m = false := by
   cases hb : fS s.m t.m with
   | false => rfl
   | true =>
    have := h s.m
    rw [gw hk.pO, oN hl.pO hb] at this
    exact absurd this.symm (hk.nz s List.mem_cons_self)
  have em := kR h1 h2
  have ed : t.c.d = s.c.d := by
   have := h t.m
   rw [gw hl.pO, em, gw hk.pO] at this
   exact this
  have et : t = s := by
   have a := hl.nf t List.mem_cons_self
   have b := hk.nf s List.mem_cons_self
   obtain ⟨m1, c1⟩ := t
   obtain ⟨m2, c2⟩ := s
   simp only at em ed a b
   rw [em, a, b, ed]
  subst et
  rw [rD (mY hl) (mY hk) fun m => by
   have := h m
   rw [dy, dy] at this
   grind]
def j5 : List TR → TR → List TR
 | [], x => [⟨x.m, nR x.c.d⟩]
 | t :: l, x => if fS t.m x.m = true then t :: j5 l x else if fS x.m t.m = true then ⟨x.m, nR x.c.d⟩ :: t :: l else ⟨x.m, nR (t.c.d + x.c.d)⟩ :: l
theorem uo (f : ByteArray → Dyadic) : ∀ (l : List TR) (x : TR), wS f (j5 l x) = wS f l + x.c.d * f x.m
 | [], x => by
  show (nR x.c.d).d * f x.m + 0 = 0 + _
  rw [eO, Dyadic.add_zero, Dyadic.zero_add]
 | t :: l, x => by
  unfold j5
  split
  ·rw [wS, uo f l x, wS, Dyadic.add_assoc]
  ·split
   ·rw [wS, wS, eO, Dyadic.add_comm]
   ·rename_i h1 h2
    have e : t.m = x.m := kR (by simpa using h1) (by simpa using h2)
    rw [wS, wS, eO, e]
    grind
theorem nN : ∀ {l : List TR} {x t : TR}, t ∈ j5 l x → t ∈ l ∨ t.m = x.m
 | [], x, t, h => .inr (by rw [List.mem_singleton.1 h])
 | s :: l, x, t, h => by
  unfold j5 at h
  split at h
  ·rcases List.mem_cons.1 h with rfl | h
   ·exact .inl List.mem_cons_self
   ·rcases nN h with h | h
    ·exact .inl (List.mem_cons_of_mem _ h)
    ·exact .inr h
  ·split at h
   ·rcases List.mem_cons.1 h with rfl | h
    ·exact .inr rfl
    ·exact .inl h
   ·rcases List.mem_cons.1 h with rfl | h
    ·exact .inr rfl
    ·exact .inl (List.mem_cons_of_mem _ h)
theorem rh : ∀ {l : List TR} {x : TR}, pb l → pb (j5 l x)
 | [], x, _ => List.pairwise_singleton _ _
 | s :: l, x, h => by
  have h1 := List.pairwise_cons.1 h
  unfold j5
  split
  ·rename_i hs
   refine List.pairwise_cons.2 ⟨fun t ht => ?_, rh h1.2⟩
   rcases nN ht with ht | ht
   ·exact h1.1 t ht
   ·rw [ht]; exact hs
  ·split
   ·rename_i hs
    refine List.pairwise_cons.2 ⟨fun t ht => ?_, h⟩
    rcases List.mem_cons.1 ht with rfl | ht
    ·exact hs
    ·exact gy hs (h1.1 t ht)
   ·rename_i a b
    have e : s.m = x.m := kR (by simpa using a) (by simpa using b)
    refine List.pairwise_cons.2 ⟨fun t ht => ?_, h1.2⟩
    show fS x.m t.m = true
    rw [← e]
    exact h1.1 t ht
theorem tq : ∀ {l : List TR} {x : TR}, (∀ t ∈ l, t.c = nR t.c.d) → ∀ t ∈ j5 l x, t.c = nR t.c.d
 | [], x, _, t, ht => by rw [List.mem_singleton.1 ht]; show nR _ = nR (nR _).d; rw [eO]
 | s :: l, x, h, t, ht => by
  unfold j5 at ht
  split at ht
  ·rcases List.mem_cons.1 ht with rfl | ht
   ·exact h t List.mem_cons_self
   ·exact tq (fun t ht => h t (List.mem_cons_of_mem _ ht)) t ht
  ·split at ht
   ·rcases List.mem_cons.1 ht with rfl | ht
    ·show nR _ = nR (nR _).d; rw [eO]
    ·exact h t ht
   ·rcases List.mem_cons.1 ht with rfl | ht
    ·show nR _ = nR (nR _).d; rw [eO]
    ·exact h t (List.mem_cons_of_mem _ ht)
theorem qG : ∀ (l : List TR) (x : TR), (j5 l x).length ≤ l.length + 1
 | [], x => Nat.le_refl _
 | s :: l, x => by
  have := qG l x
  unfold j5
  split
  ·rw [List.length_cons, List.length_cons]; omega
  ·split <;> simp
theorem tF {k : Nat} : ∀ {l : List TR} {x : TR}, (∀ t ∈ l, Sz k t.c.d) → Sz k x.c.d → ∀ t ∈ j5 l x, Sz (k + 1) t.c.d
 | [], x, _, hx, t, ht => by rw [List.mem_singleton.1 ht]; show Sz _ (nR _).d; rw [eO]; exact hx.mono (by omega)
 | s :: l, x, h, hx, t, ht => by
  unfold j5 at ht
  split at ht
  ·rcases List.mem_cons.1 ht with rfl | ht
   ·exact (h t List.mem_cons_self).mono (by omega)
   ·exact tF (fun t ht => h t (List.mem_cons_of_mem _ ht)) hx t ht
  ·split at ht
   ·rcases List.mem_cons.1 ht with rfl | ht
    ·show Sz _ (nR _).d; rw [eO]; exact hx.mono (by omega)
    ·exact (h t ht).mono (by omega)
   ·rcases List.mem_cons.1 ht with rfl | ht
    ·show Sz _ (nR _).d; rw [eO]; exact (h s List.mem_cons_self).add hx
    ·exact (h t (List.mem_cons_of_mem _ ht)).mono (by omega)
def jf (l : List TR) : List TR := l.foldl j5 []
def qt (t : TR) : Bool := !decide (t.c.d = 0)
def aP (l : List TR) : List TR := (jf l).filter qt
theorem fU (l : List TR) (x : TR) : jf (l ++ [x]) = j5 (jf l) x := by unfold jf; rw [List.foldl_append]; rfl
theorem iG {α : Type} {P : List α → Prop} (h0 : P []) (hs : ∀ l x, P l → P (l ++ [x])) (l : List α) : P l := by
 have : ∀ k : List α, P k.reverse := fun k => by
  induction k with
  | nil => exact h0
  | cons x k ih => rw [List.reverse_cons]; exact hs _ _ ih
 have h := this l.reverse
 rwa [List.reverse_reverse] at h
theorem wA (f : ByteArray → Dyadic) (l : List TR) : wS f (jf l) = wS f l := by
 induction l using iG with
 | h0 => rfl
 | hs l x ih => rw [fU, uo, ih, yF]
theorem uO (l : List TR) : pb (jf l) := by
 induction l using iG with
 | h0 => exact List.Pairwise.nil
 | hs l x ih => rw [fU]; exact rh ih
theorem wy (l : List TR) : ∀ t ∈ jf l, t.c = nR t.c.d := by
 induction l using iG with
 | h0 => intro t ht; cases ht
 | hs l x ih => rw [fU]; exact tq ih
theorem u3 (l : List TR) : (jf l).length ≤ l.length := by
 induction l using iG with
 | h0 => exact Nat.le_refl _
 | hs l x ih => rw [fU, List.length_append]; have := qG (jf l) x; simp; omega
theorem wc {k : Nat} (l : List TR) (h : ∀ t ∈ l, Sz k t.c.d) : ∀ t ∈ jf l, Sz (k + l.length) t.c.d := by
 induction l using iG with
 | h0 => intro t ht; cases ht
 | hs l x ih =>
  rw [fU, List.length_append]
  exact tF (k := k + l.length) (ih fun t ht => h t (List.mem_append_left _ ht)) ((h x (by simp)).mono (by omega))
theorem uz (l : List TR) : ∀ t ∈ jf l, ∃ s ∈ l, s.m = t.m := by
 induction l using iG with
 | h0 => intro t ht; cases ht
 | hs l x ih =>
  rw [fU]
  intro t ht
  rcases nN ht with ht | ht
  ·obtain ⟨s, hs, e⟩ := ih t ht
   exact ⟨s, List.mem_append_left _ hs, e⟩
  ·exact ⟨x, by simp, ht.symm⟩
theorem oP (f : ByteArray → Dyadic) (l : List TR) : wS f (l.filter qt) = wS f l := by
 induction l with
 | nil => rfl
 | cons t l ih =>
  rw [List.filter_cons]
  by_cases h : t.c.d = 0
  ·rw [if_neg (by unfold qt; rw [decide_eq_true h]; decide), ih, wS, h, Dyadic.zero_mul, Dyadic.zero_add]
  ·rw [if_pos (by unfold qt; rw [decide_eq_false h]; rfl), wS, wS, ih]
theorem jD (f : ByteArray → Dyadic) (l : List TR) : wS f (aP l) = wS f l := (oP f _).trans (wA f l)
theorem hQ (l : List TR) (m : ByteArray) : eJ (aP l) m = eJ l m := jD _ _
theorem rT {t : TR} (h : qt t = true) : t.c.d ≠ 0 := fun e => by
 unfold qt at h
 rw [decide_eq_true e] at h
 cases h
theorem eP (l : List TR) : Canon (aP l) :=
 ⟨List.Pairwise.filter _ (uO l), fun t ht => rT (List.mem_filter.1 ht).2, fun t ht => wy l t (List.mem_filter.1 ht).1⟩
theorem bW (l : List TR) : (aP l).length ≤ l.length := Nat.le_trans (List.length_filter_le _ _) (u3 l)
theorem lv {k : Nat} {l : List TR} (h : ∀ t ∈ l, Sz k t.c.d) : ∀ t ∈ aP l, Sz (k + l.length) t.c.d := fun t ht => wc l h t (List.mem_filter.1 ht).1
theorem iJ {l : List TR} : ∀ t ∈ aP l, ∃ s ∈ l, s.m = t.m := fun t ht => uz l t (List.mem_filter.1 ht).1
theorem jP {l k : List TR} (h : Canon k) (hc : ∀ m, eJ k m = eJ l m) : k = aP l := rD h (eP l) fun m => by rw [hc, hQ]
theorem gk {l k : List TR} (hc : ∀ m, eJ k m = eJ l m) : aP k = aP l := jP (eP k) fun m => by rw [hQ, hc]
end Go.Proofs.YtkgdagjklakajaaGreatDoor
/- Plain: two rows that rise put into one. No program in sight. -/
namespace Go.Proofs.YtkgdagjklakajaaGreatDoor
open Go.RowKit
def gi (k : Nat) (l : List TR) : Prop := ∀ t ∈ l, t.c.ok ∧ Sz k t.c.d
theorem gi.mono {k j : Nat} {l : List TR} (h : gi k l) (hk : k ≤ j) : gi j l := fun t ht => ⟨(h t ht).1, (h t ht).2.mono hk⟩
structure MD (k : Nat) (l L : List TR) : Prop where
 pO : pb L
 co : ∀ m, eJ L m = eJ l m
 len : L.length ≤ l.length
 ok : gi k L
 mem : ∀ t ∈ L, ∃ s ∈ l, s.m = t.m
theorem MD.mono {k j : Nat} {l L : List TR} (h : MD k l L) (hk : k ≤ j) : MD j l L := ⟨h.pO, h.co, h.len, h.ok.mono hk, h.mem⟩
theorem MD.self {k : Nat} {l : List TR} (h : pb l) (hk : gi k l) : MD k l l := ⟨h, fun _ => rfl, Nat.le_refl _, hk, fun t ht => ⟨t, ht, rfl⟩⟩
structure Mg (k : Nat) (xs ys O X Y : List TR) : Prop where
 ro : pb O
 rx : pb X
 ry : pb Y
 co : ∀ m, eJ O m + (eJ X m + eJ Y m) = eJ xs m + eJ ys m
 bx : ∀ t ∈ O, ∀ s ∈ X, fS t.m s.m = true
 hy : ∀ t ∈ O, ∀ s ∈ Y, fS t.m s.m = true
 len : O.length + (X.length + Y.length) ≤ xs.length + ys.length
 oo : gi (k + 1) O
 ox : gi k X
 oy : gi k Y
 mo : ∀ t ∈ O, ∃ s ∈ xs ++ ys, s.m = t.m
 mx : ∀ t ∈ X, t ∈ xs ++ ys
 my : ∀ t ∈ Y, t ∈ xs ++ ys
theorem Mg.start {k : Nat} {xs ys : List TR} (hx : pb xs) (hy : pb ys) (ox : gi k xs) (oy : gi k ys) : Mg k xs ys [] xs ys :=
 ⟨List.Pairwise.nil, hx, hy, fun m => Dyadic.zero_add _, fun t ht => (by cases ht), fun t ht => (by cases ht), by simp, fun t ht => (by cases ht), ox, oy, fun t ht => (by cases ht), fun t ht => List.mem_append_left _ ht, fun t ht => List.mem_append_right _ ht⟩
theorem nj {O : List TR} {x : TR} (h : pb O) (hx : ∀ t ∈ O, fS t.m x.m = true) : pb (O ++ [x]) :=
 List.pairwise_append.2 ⟨h, List.pairwise_singleton _ _, fun t ht s hs => by rw [List.mem_singleton.1 hs]; exact hx t ht⟩
theorem m8 (x : TR) (m : ByteArray) : eJ [x] m = if x.m = m then x.c.d else 0 := by rw [dy, mK, Dyadic.add_zero]
theorem ep {α : Type} {P : α → Prop} {O : List α} {x : α} (h : ∀ t ∈ O, P t) (hx : P x) : ∀ t ∈ O ++ [x], P t := fun t ht => by
 rcases List.mem_append.1 ht with ht | ht
 ·exact h t ht
 ·rw [List.mem_singleton.1 ht]; exact hx
theorem Mg.left {k : Nat} {xs ys O X Y : List TR} {x y : TR} (h : Mg k xs ys O (x :: X) (y :: Y)) (hl : fS x.m y.m = true) : Mg k xs ys (O ++ [x]) X (y :: Y) := by
 obtain ⟨ro, rx, ry, co, bx, hby, len, oo, ox, oy, mo, mx, my⟩ := h
 have r1 := List.pairwise_cons.1 rx
 have r2 := List.pairwise_cons.1 ry
 refine ⟨nj ro fun t ht => bx t ht x List.mem_cons_self, r1.2, ry, fun m => ?_, ep (fun t ht s hs => bx t ht s (List.mem_cons_of_mem _ hs)) fun s hs => r1.1 s hs, ep hby fun s hs => ?_, by simp at len ⊢; omega, ep oo ⟨(ox x List.mem_cons_self).1, (ox x List.mem_cons_self).2.mono (by omega)⟩, fun t ht => ox t (List.mem_cons_of_mem _ ht), oy, ep mo ⟨x, mx x List.mem_cons_self, rfl⟩, fun t ht => mx t (List.mem_cons_of_mem _ ht), my⟩
 ·have := co m
  rw [dy x X] at this
  rw [cm, m8]
  grind
 ·rcases List.mem_cons.1 hs with rfl | hs
  ·exact hl
  ·exact gy hl (r2.1 s hs)
theorem Mg.right {k : Nat} {xs ys O X Y : List TR} {x y : TR} (h : Mg k xs ys O (x :: X) (y :: Y)) (hl : fS y.m x.m = true) : Mg k xs ys (O ++ [y]) (x :: X) Y := by
 obtain ⟨ro, rx, ry, co, bx, hby, len, oo, ox, oy, mo, mx, my⟩ := h
 have r1 := List.pairwise_cons.1 rx
 have r2 := List.pairwise_cons.1 ry
 refine ⟨nj ro fun t ht => hby t ht y List.mem_cons_self, rx, r2.2, fun m => ?_, ep bx fun s hs => ?_, ep (fun t ht s hs => hby t ht s (List.mem_cons_of_mem _ hs)) fun s hs => r2.1 s hs, by simp at len ⊢; omega, ep oo ⟨(oy y List.mem_cons_self).1, (oy y List.mem_cons_self).2.mono (by omega)⟩, ox, fun t ht => oy t (List.mem_cons_of_mem _ ht), ep mo ⟨y, my y List.mem_cons_self, rfl⟩, mx, fun t ht => my t (List.mem_cons_of_mem _ ht)⟩
 ·have := co m
  rw [dy y Y] at this
  rw [cm, m8]
  grind
 ·rcases List.mem_cons.1 hs with rfl | hs
  ·exact hl
  ·exact gy hl (r1.1 s hs)
theorem Mg.both {k : Nat} {xs ys O X Y : List TR} {x y : TR} (h : Mg k xs ys O (x :: X) (y :: Y)) (h1 : fS x.m y.m = false) (h2 : fS y.m x.m = false) (hk : k ≤ 3999980) : Mg k xs ys (O ++ [⟨x.m, nR (x.c.d + y.c.d)⟩]) X Y := by
 obtain ⟨ro, rx, ry, co, bx, hby, len, oo, ox, oy, mo, mx, my⟩ := h
 have r1 := List.pairwise_cons.1 rx
 have r2 := List.pairwise_cons.1 ry
 have e := kR h1 h2
 have hz := (ox x List.mem_cons_self).2.add (oy y List.mem_cons_self).2
 refine ⟨nj ro fun t ht => bx t ht x List.mem_cons_self, r1.2, r2.2, fun m => ?_, ep (fun t ht s hs => bx t ht s (List.mem_cons_of_mem _ hs)) fun s hs => r1.1 s hs, ep (fun t ht s hs => hby t ht s (List.mem_cons_of_mem _ hs)) fun s hs => ?_, by simp at len ⊢; omega, ep oo ⟨hz.ok (by omega), ?_⟩, fun t ht => ox t (List.mem_cons_of_mem _ ht), fun t ht => oy t (List.mem_cons_of_mem _ ht), ep mo ⟨x, mx x List.mem_cons_self, rfl⟩, fun t ht => mx t (List.mem_cons_of_mem _ ht), fun t ht => my t (List.mem_cons_of_mem _ ht)⟩
 ·have := co m
  rw [dy y Y, dy x X, ← e] at this
  rw [cm, m8]
  show eJ O m + (if x.m = m then (nR (x.c.d + y.c.d)).d else 0) + (eJ X m + eJ Y m) = _
  rw [eO]
  grind
 ·show fS x.m s.m = true
  rw [e]
  exact r2.1 s hs
 ·show Sz _ (nR _).d
  rw [eO]
  exact hz
theorem Mg.done {k : Nat} {xs ys O X Y : List TR} (h : Mg k xs ys O X Y) (hd : X = [] ∨ Y = []) : MD (k + 1) (xs ++ ys) (O ++ X ++ Y) := by
 obtain ⟨ro, rx, ry, co, bx, hby, len, oo, ox, oy, mo, mx, my⟩ := h
 refine ⟨?_, fun m => ?_, by simp at len ⊢; omega, fun t ht => ?_, fun t ht => ?_⟩
 ·rw [List.append_assoc]
  refine List.pairwise_append.2 ⟨ro, ?_, fun t ht s hs => ?_⟩
  ·rcases hd with rfl | rfl
   ·exact ry
   ·rw [List.append_nil]; exact rx
  ·rcases List.mem_append.1 hs with hs | hs
   ·exact bx t ht s hs
   ·exact hby t ht s hs
 ·rw [cm, cm, cm, Dyadic.add_assoc]
  exact co m
 ·rcases List.mem_append.1 ht with ht | ht
  ·rcases List.mem_append.1 ht with ht | ht
   ·exact oo t ht
   ·exact ⟨(ox t ht).1, (ox t ht).2.mono (by omega)⟩
  ·exact ⟨(oy t ht).1, (oy t ht).2.mono (by omega)⟩
 ·rcases List.mem_append.1 ht with ht | ht
  ·rcases List.mem_append.1 ht with ht | ht
   ·exact mo t ht
   ·exact ⟨t, mx t ht, rfl⟩
  ·exact ⟨t, my t ht, rfl⟩
theorem MD.aP {k : Nat} {l L : List TR} (h : MD k l L) : ((L.filter qt).map fun t => (⟨t.m, nR t.c.d⟩ : TR)) = aP l := by
 refine jP ⟨?_, fun t ht => ?_, fun t ht => ?_⟩ fun m => ?_
 ·exact List.Pairwise.map _ (fun a b hab => hab) (List.Pairwise.filter _ h.pO)
 ·obtain ⟨s, hs, rfl⟩ := List.mem_map.1 ht
  show (nR s.c.d).d ≠ 0
  rw [eO]
  exact rT (List.mem_filter.1 hs).2
 ·obtain ⟨s, hs, rfl⟩ := List.mem_map.1 ht
  show nR s.c.d = nR (nR s.c.d).d
  rw [eO]
 ·have e : ∀ (f : ByteArray → Dyadic) (k : List TR), wS f (k.map fun t => (⟨t.m, nR t.c.d⟩ : TR)) = wS f k := fun f k => by
   induction k with
   | nil => rfl
   | cons t k ih => rw [List.map_cons, wS, wS, ih]; show (nR t.c.d).d * f t.m + _ = _; rw [eO]
  show wS _ _ = _
  rw [e, oP]
  exact h.co m
theorem oF {l : List TR} (h : l.length < 2) : pb l := by
 match l, h with
 | [], _ => exact List.Pairwise.nil
 | [x], _ => exact List.pairwise_singleton _ _
end Go.Proofs.YtkgdagjklakajaaGreatDoor
/- A new row with room and nothing in it; a call of a function that a variable holds, in a drawn region. Plain lemmas, no program in sight. -/
namespace Go.Proofs.YtkgdagjklakajaaGreatDoor
open Go.RowKit
variable {ro : Mode}
section
variable {P : Program} {N : Nat} {ops : Array Oper} {Q : Kq} {ρ : Rf} {w w0 : World} {rest : List Oper} {H : List HE} {d : Nat} {ty : TypeId} {pos : String} {af : Array Edge}
theorem xJ (hh : Hp w0 H w) {t e : TypeId} {l cp : Operand} {kl kc : IntKind} {L C : Int} {n sz by' : Nat} {ag : Bool} {zc : List Value} (hl : ev ρ l = .int kl L) (hc : ev ρ cp = .int kc C) (hL : L = 0) (hC : C = (n : Int))
  (ht : P.underlying t = some (.slice e)) (hte : cZ P e = some (sz, ag, by', zc)) (hb : by' * n ≤ 281474976710656) (h63 : n ≤ 9223372036854775807) (hN : d < N)
  (k : ∀ b w', Hp w0 (.row (some ⟨b, 0, none⟩) 0 n e sz [] :: H) w' → WL ro P N ops Q rest (cv ρ d (.slice (some ⟨b, 0, none⟩) 0 n)) w') :
  WL ro P N ops Q (⟨some d, .makeSlice t l cp, ty, pos, af, none⟩ :: rest) ρ w := by
 obtain ⟨i, z, dd, hi, hd, hz, hs, hby, hzc, _⟩ := ej hte
 subst hL; subst hC; subst hs
 have hr := run_make (P := P) w t e i z ht hi hz kl kc 0 n (Int.le_refl _) (by omega) (by rw [hby, ← Int.natCast_mul]; omega) (by omega)
 simp only [Int.toNat_natCast, Int.toNat_zero] at hr
 refine aY rfl rfl hN (w' := w.alloc (.cells (madeCells z.cells (n * i.size)) e)) (v := .slice (some ⟨w.heap.size, 0, none⟩) 0 n) ?_ (k _ _ (hh.a9 (show Below w.heap.size w (w.alloc (.cells (madeCells z.cells (n * i.size)) e)) from ⟨rfl, rfl, rfl, (World.grownBy_alloc w _ none).size, fun j hj => (World.grownBy_alloc w _ none).block j hj (by simp)⟩) ?_))
 ·simp [execOp, hl, hc, hr]
 ·exact ⟨by simp, .inr ⟨w.heap.size, n, madeCells z.cells (n * i.size), rfl, Nat.le_refl _, heap_alloc_new w _, Nat.zero_le _, by unfold maxLen; omega, size_madeCells _ _, by simp⟩⟩
end
def kf (n sz : Nat) (cs : List Value) : VP := fun v W => ∃ g : Nat, v = .slice (some ⟨g, 0, none⟩) n n ∧ Sl W (some ⟨g, 0, none⟩) n sz cs
theorem kf.ext {n sz : Nat} {cs : List Value} (v : Value) (w w' : World) (h : kf n sz cs v w) (hb : Below w.heap.size w w') : kf n sz cs v w' := let ⟨g, h1, h2⟩ := h; ⟨g, h1, h2.ext hb⟩
section
variable {P : Program} {ρ : Rf} {w : World}
theorem xC {ops : Array Oper} {d : Option Nat} {ty : TypeId} {pos : String} {af : Array Edge} {t e : TypeId} {l cp : Operand} {kl kc : IntKind} {L C : Int} {n sz by' : Nat} {ag : Bool} {zc : List Value} {K : Value → World → Prop} (hl : ev ρ l = .int kl L) (hc : ev ρ cp = .int kc C) (hL : L = (n : Int)) (hC : C = (n : Int))
  (ht : P.underlying t = some (.slice e)) (hte : cZ P e = some (sz, ag, by', zc)) (hzl : zc.length = sz) (hb : by' * n ≤ 281474976710656) (h63 : n ≤ 9223372036854775807)
  (hk : ∀ v w2, kf n sz (fj n zc) v w2 → Below w.heap.size w w2 → K v w2) : OG P ops ⟨d, .makeSlice t l cp, ty, pos, af, none⟩ ρ w K := by
 obtain ⟨i, z, dd, hi, hd, hz, hs, hby, hzc, _⟩ := ej hte
 subst hL; subst hC
 obtain ⟨w', hr, hown, hg⟩ := run_make_full (P := P) w w.heap.size t e i z sz ht hi hz hs kl kc n (by rw [hby]; exact hb) (by unfold maxLen; omega) (Nat.le_refl _)
 have hzz : (madeCells z.cells (n * sz)).toList = fj n zc := by
  have := jy n zc
  rw [hzl] at this
  unfold madeCells
  rw [hzc]
  have e2 : zc.toArray.size = sz := by simpa using hzl
  rw [e2, this]
 rw [hzz] at hown
 exact dD rfl (w' := w') (v := .slice (some ⟨w.heap.size, 0, none⟩) n n) (by simp [execOp, hl, hc, hr]) (hk _ _ ⟨w.heap.size, rfl, tG hown⟩ ⟨hg.os, hg.tape, hg.output, hg.size, fun j hj => hg.block j hj (by simp)⟩)
theorem nA (n : Nat) : fj n [.int .u8 0] = j6 (List.replicate n 0) := by
 induction n with
 | zero => rfl
 | succ n ih => rw [fj, ih, List.replicate_succ]; rfl
end
end Go.Proofs.YtkgdagjklakajaaGreatDoor
/- The walks through poly.side, sum, merged. -/
namespace Go.Proofs.YtkgdagjklakajaaGreatDoor
open Go.RowKit
theorem tM (a : ByteArray) : a.toList = a.data.toList := by
 have key : ∀ s : ByteArray, s.toList = s.data.toList := fun s => by
  unfold ByteArray.toList
  have : ∀ (n i : Nat) (r : List UInt8), s.size - i = n → ByteArray.toList.loop s i r = r.reverse ++ s.data.toList.drop i := by
   intro n
   induction n with
   | zero =>
    intro i r h
    rw [ByteArray.toList.loop, if_neg (by omega), List.drop_of_length_le (by rw [Array.length_toList]; show s.size ≤ i; omega)]
    simp
   | succ n ih =>
    intro i r h
    have hi : i < s.size := by omega
    rw [ByteArray.toList.loop, if_pos hi, ih (i + 1) _ (by omega)]
    have hi2 : i < s.data.toList.length := by rw [Array.length_toList]; exact hi
    rw [List.drop_eq_getElem_cons hi2]
    have : s.get! i = s.data.toList[i] := by
     show s.data[i]! = _
     rw [getElem!_pos s.data i (by simpa using hi2)]
     simp
    simp [this]
  simpa using this (s.size - 0) 0 [] rfl
 exact key a
theorem kJ (a b : ByteArray) : Op.bytesLess a.toList b.toList = fS a b := by rw [tM, tM]; rfl
theorem xr (a b : ByteArray) : (!(Op.bytesLess a.toList b.toList || a.toList == b.toList)) = fS b a := by
 rw [kJ, wF]
 cases h1 : fS a b with
 | true => rw [uL h1]; rfl
 | false =>
  cases h2 : fS b a with
  | true => rw [decide_eq_false (fun e => vY h2 e.symm)]; rfl
  | false => rw [decide_eq_true (kR h1 h2)]; rfl
def vW (x y : TR) : Int := if fS x.m y.m = true then -1 else if fS y.m x.m = true then 1 else 0
theorem sk (x y : TR) (w : World) : Calls Tryz.prog 108 #[.agg #[.string x.m, .bool x.c.neg, .string x.c.cC, .int .i64 x.c.e], .agg #[.string y.m, .bool y.c.neg, .string y.c.cC, .int .i64 y.c.e]] w fun r w' => r = .returned (.int .i64 (vW x y)) ∧ Below w.heap.size w w' := by
 have hh := Hp.start w
 refine ak (N := 17) (l := [.agg #[.string x.m, .bool x.c.neg, .string x.c.cC, .int .i64 x.c.e], .agg #[.string y.m, .bool y.c.neg, .string y.c.cC, .int .i64 y.c.e]]) Tryz.func108 rfl rfl (by simp) ?_
 refine sr ?_
 refine dp hh [_,_,_,_] ?_
 intro b2 w2 hh
 refine dp hh [_,_,_,_] ?_
 intro b3 w3 hh
 refine aI (aa (ai (aq (sr (bP ?_)))))
 refine bQ hh 1 ?_
 refine bP ?_
 refine bQ hh 0 ?_
 refine uw rfl rfl (by decide) ?_
 refine aB (aa ?_)
 rw [kJ]
 unfold vW
 cases h1 : fS x.m y.m with
 | true =>
  refine cT (sr (aI (aa (ao (bU (aM ?_))))))
  refine cd ?_
  exact ⟨rfl, hh.below⟩
 | false =>
  refine cF (sr (bP ?_))
  refine bQ hh 1 ?_
  refine bP ?_
  refine bQ hh 0 ?_
  refine uG rfl rfl (by decide) ?_
  refine aB (aa ?_)
  rw [xr]
  cases h2 : fS y.m x.m with
  | true =>
   refine cT (sr (aI (aa (ao (bU (aM ?_))))))
   refine cd ?_
   exact ⟨rfl, hh.below⟩
  | false =>
   refine cF (al (a3 (aj (sr (aI (aa (ao ?_)))))))
   refine cd ?_
   exact ⟨rfl, hh.below⟩
theorem vv (x y : TR) (k : Nat) (w : World) (hT : gM w) (hx : x.c.ok ∧ Sz k x.c.d) (hy : y.c.ok ∧ Sz k y.c.d) (hk : k ≤ 3999980) : Calls Tryz.prog 109 #[.agg #[.string x.m, .bool x.c.neg, .string x.c.cC, .int .i64 x.c.e], .agg #[.string y.m, .bool y.c.neg, .string y.c.cC, .int .i64 y.c.e]] w fun r w' => r = .returned (.agg #[.string x.m, .bool (nR (x.c.d + y.c.d)).neg, .string (nR (x.c.d + y.c.d)).cC, .int .i64 (nR (x.c.d + y.c.d)).e]) ∧ Below w.heap.size w w' := by
 have hh := Hp.start w
 have hsum := fun A cc w1 hT1 hS1 => te A 2 cc [x.c, y.c] w1 hT1 hS1 (by simpa using ⟨hx.1, hy.1⟩) k (by simpa using ⟨hx.2, hy.2⟩) (by omega)
 rw [show mf ([x.c, y.c].map NR.d) = x.c.d + y.c.d by simp only [List.map_cons, List.map_nil, vN]] at hsum
 refine ak (N := 14) (l := [.agg #[.string x.m, .bool x.c.neg, .string x.c.cC, .int .i64 x.c.e], .agg #[.string y.m, .bool y.c.neg, .string y.c.cC, .int .i64 y.c.e]]) Tryz.func109 rfl rfl (by simp) ?_
 refine sr ?_
 refine dp hh [_,_,_,_] ?_
 intro b2 w2 hh
 refine dp hh [_,_,_,_] ?_
 intro b3 w3 hh
 refine cj hh ?_
 intro b4 w4 hh
 refine aa (ai ?_)
 refine bf 8 [[(2, none)], [(5, some 0)], [(2, none)], [(7, some 2)], [(3, none)], [(9, some 4)], [(8, some 3), (10, some 5)], [(11, some 6)]] [(7, 12), (6, 11), (5, 10), (4, 9), (3, 8), (2, 7), (1, 6), (0, 5)] hh mixed (by kernel_rfl) ?_
 refine dN ?_
 refine fC 2 ?_
 refine dN ?_
 refine gj 2 [_,_,_] ?_
 refine dN ?_
 refine gj 1 [_,_,_] ?_
 refine yQ [_,_,_,_,_,_] ?_
 refine bz (i := 7) (Is (.agg #[.bool (nR (x.c.d + y.c.d)).neg, .string (nR (x.c.d + y.c.d)).cC, .int .i64 (nR (x.c.d + y.c.d)).e])) Is.ext ?_ ?_
 ·intro ρ1 w1 hj hR
  obtain ⟨A11, c11, h11, s11⟩ := hR.1
  exact cG rfl (bh ar.out (aF h11 bj)) (hsum A11 c11 _ (hT.hp hj.hp) s11) (fun _ _ hq => ⟨_, hq.1, hq.2, rfl⟩)
 refine bo ?_
 intro f W hJ hV
 have hb_1 := hJ.bl
 obtain ⟨v12, v11, v10, v9, v8, v7, v6, v5, _⟩ := hV
 obtain ⟨A11, c11, e11, f11⟩ : Rows _ _ _ (f 6) W := v11
 replace hh := hJ.hp
 refine a7 (bu (ah v12 (ah e11 (ah v10 (ah v9 (ah v8 (ah v7 (ah v6 (ah v5 a6))))))))) ?_
 dsimp only [cJ]
 clear e11 hJ
 refine eM [_,_,_,_] ?_
 refine bK hh 0 [_,_,_,_] ?_
 intro ws hh
 replace hh : Hp _ (.blk _ _ [_, _, _, _] _ :: _) _ := hh
 refine aa (ao ?_)
 refine hO (aU rfl (aV (vs := [_, _, _, _]) aC.out (hh.aw (i := 0) (n := 4) rfl rfl) rfl) bg) ?_
 exact ⟨rfl, hh.below⟩
end Go.Proofs.YtkgdagjklakajaaGreatDoor
/- A pure operation, of several that are ready, may as well come first. Plain lemma, no program in sight. -/
namespace Go.Proofs.YtkgdagjklakajaaGreatDoor
open Go.RowKit
theorem cn {P : Program} {N : Nat} {Q : Kq} {ops : Array Oper} {fuel : Nat} {L : Array Bool} {i d : Nat} {op : Op} {ty : TypeId} {pos : String} {af : Array Edge} {v : Value} {ρ : Rf} {w : World} (hq : NP Q) (hi : ops[i]? = some ⟨some d, op, ty, pos, af, none⟩) (hs : Region.noSelect ops = true) (hf : Region.free .any ops L i = true) (hr : (Region.ready .any ops L).contains i = true)
  (hv : ∀ w, (execOp (ev ρ) ⟨some d, op, ty, pos, af, none⟩).run P w = .ok (.value v) w) (hN : d < N) (h : WA P N ops Q fuel (L.setIfInBounds i true) (cv ρ d v) w) : WA P N ops Q (fuel + 1) L ρ w :=
 ⟨fun a hfit => wpAny_first hi (Region.noSelect_spec hs) (fun c a w ⟨ρ', _, hq'⟩ => (hq c ρ' w hq').elim) fuel L a w (Region.free_spec hi hf) (by simpa using hr) (.inl ⟨by simp [Region.wanted], fun w => by rw [hfit.eval]; exact hv w⟩) (h.out _ (hfit.put hN v))⟩
end Go.Proofs.YtkgdagjklakajaaGreatDoor
/- The walk through poly.merged. -/
namespace Go.Proofs.YtkgdagjklakajaaGreatDoor
open Go.RowKit
theorem Sl.tail {w : World} {A : Option Addr} {n c : Nat} {x : TR} {X : List TR} (h : Sl w A n 4 (a8 TR.cells (x :: X))) (h0 : 0 < n) (hc : n ≤ c) : Sl w (if c = 1 then A else A.map (·.add (1 * 4))) (n - 1) 4 (a8 TR.cells X) := by
 have := h.back (l := 1) (by omega) hc
 rw [show (a8 TR.cells (x :: X)).drop (1 * 4) = a8 TR.cells X from jI TR.len (x :: X) 1] at this
 exact this
theorem kD (A : Option Addr) (n c : Nat) (xs : List TR) (B : Option Addr) (m c2 : Nat) (ys : List TR) (k : Nat) (w : World) (hT : gM w) (hS : Sl w A n 4 (a8 TR.cells xs)) (hS2 : Sl w B m 4 (a8 TR.cells ys)) (hc : n ≤ c) (hc2 : m ≤ c2) (hn : n ≤ 1000000) (hm : m ≤ 1000000) (hk : k ≤ 3999980)
  (rx : pb xs) (ry : pb ys) (ox : gi k xs) (oy : gi k ys) :
  Calls Tryz.prog 107 #[.slice A n c, .slice B m c2, .func (.func 108) #[] #[], .func (.func 109) #[] #[]] w fun r w' => ∃ (L : List TR) (A' : Option Addr) (c' : Nat), MD (k + 1) (xs ++ ys) L ∧ r = .returned (.slice A' L.length c') ∧ Hp w [.row A' L.length c' 58 4 (a8 TR.cells L)] w' := by
 have hh := Hp.start w
 have hlx := hS.ck TR.len (by decide)
 have hly := hS2.ck TR.len (by decide)
 have hnx : xs.length ≤ 1000000 := by omega
 have hny : ys.length ≤ 1000000 := by omega
 refine ak (N := 75) (l := [.slice A n c, .slice B m c2, .func (.func 108) #[] #[], .func (.func 109) #[] #[]]) Tryz.func107 rfl rfl (by simp) ?_
 refine sr (aL (aa (sr (mL (a5 (mL (a5 ?_)))))))
 refine bO ?_
 refine xJ (n := (n + m)) hh rfl rfl (by omega) (by omega) aJ.out aC.out (by omega) (by omega) (by decide) ?_
 intro b16 w16 hh
 refine aL (aa (ai (aq ?_)))
 refine wh [0, 1, 9, 10, 17, 18, 19, 20, 21, 22, 23, 24, 25, 26, 27, 28, 29, 30, 31, 32, 33, 34, 35, 36, 37, 38, 39, 40, 41, 42, 43, 44, 45, 46, 47, 48, 49, 50, 51, 52, 53, 54, 55, 56, 57, 58, 59, 60, 61, 62, 63, 64, 65, 66, 67, 68, 69] 0 1 9
  (fun va vb vo w' => ∃ (A : Option Addr) (n c : Nat) (X : List TR) (B : Option Addr) (m c2 : Nat) (Y : List TR) (O : List TR) (C : Option Addr) (co : Nat), va = .slice A n c ∧ vb = .slice B m c2 ∧ vo = .slice C O.length co ∧ n ≤ c ∧ m ≤ c2 ∧ Sl w A n 4 (a8 TR.cells X) ∧ Sl w B m 4 (a8 TR.cells Y) ∧ Mg k xs ys O X Y ∧ Hp w [.row C O.length co 58 4 (a8 TR.cells O)] w')
  (fun va vb _ _ => lenOf va + lenOf vb) ?_ ?_
 ·exact ⟨A, n, c, xs, B, m, c2, ys, [], some ⟨b16, 0, none⟩, n + m, rfl, rfl, rfl, hc, hc2, hS, hS2, Mg.start rx ry ox oy, hh⟩
 ·clear hh hS hS2 hlx hly hc hc2 hn hm
  rintro ρ' va vb vo w' ⟨A, n, c, X, B, m, c2, Y, O, C, co, rfl, rfl, rfl, hc, hc2, hS, hS2, hmg, hh⟩
  have hX := hS.ck TR.len (by decide)
  have hY := hS2.ck TR.len (by decide)
  have hlen := hmg.len
  have oX := cz TR.one X
  have oY := cz TR.one Y
  by_cases hn : n = 0
  ·refine ai (sr (mL (a5 ?_)))
   refine cg (mB ?_)
   first | refine gS ?_ | (refine gT ?_; refine mL ?_) | refine gV ?_
   first | refine gS ?_ | (refine gT ?_; refine a5 ?_) | refine gV ?_
   first | refine gS ?_ | (refine gT ?_; refine cg ?_) | refine gV ?_
   first | refine ct ?_ | refine cq ?_
   refine aa (cF ?_)
   refine a4 ?_
   refine aD (aD (bp (aj (sr (mL (mL ?_))))))
   refine cO hh (i := 0) rfl rfl rfl (hS.ext hh.below) aJ.out aC.out rfl (by decide) ?one3 (by omega) (by omega) (by decide) ?kk3
   case one3 => first | rfl | assumption | exact oneCells_i64s _ | exact oneCells_u8s _
   intro A72 c72 w72 hh
   simp only [List.set_cons_zero] at hh
   refine mL ?_
   refine cO hh (i := 0) rfl rfl rfl (hS2.ext hh.below) aJ.out aC.out rfl (by decide) ?one4 (by omega) (by omega) (by decide) ?kk4
   case one4 => first | rfl | assumption | exact oneCells_i64s _ | exact oneCells_u8s _
   intro A74 c74 w74 hh
   simp only [List.set_cons_zero] at hh
   refine aL (aa (ao ?_))
   refine cd ?_
   have hd := hmg.done (.inl (List.eq_nil_of_length_eq_zero (by omega)))
   have e1 : (O ++ X ++ Y).length = O.length + n + m := by rw [List.length_append, List.length_append]; omega
   exact ⟨O ++ X ++ Y, A74, c74, hd, by rw [e1], by rw [e1, du, du]; exact hh⟩
  ·by_cases hm : m = 0
   ·refine ai (sr (mL (a5 ?_)))
    refine cg (mB ?_)
    first | refine gS ?_ | (refine gT ?_; refine mL ?_) | refine gV ?_
    first | refine gS ?_ | (refine gT ?_; refine a5 ?_) | refine gV ?_
    first | refine gS ?_ | (refine gT ?_; refine cg ?_) | refine gV ?_
    first | refine ct ?_ | refine cq ?_
    refine aa (cF ?_)
    refine a4 ?_
    refine aD (aD (bp (aj (sr (mL (mL ?_))))))
    refine cO hh (i := 0) rfl rfl rfl (hS.ext hh.below) aJ.out aC.out rfl (by decide) ?one5 (by omega) (by omega) (by decide) ?kk5
    case one5 => first | rfl | assumption | exact oneCells_i64s _ | exact oneCells_u8s _
    intro A72 c72 w72 hh
    simp only [List.set_cons_zero] at hh
    refine mL ?_
    refine cO hh (i := 0) rfl rfl rfl (hS2.ext hh.below) aJ.out aC.out rfl (by decide) ?one6 (by omega) (by omega) (by decide) ?kk6
    case one6 => first | rfl | assumption | exact oneCells_i64s _ | exact oneCells_u8s _
    intro A74 c74 w74 hh
    simp only [List.set_cons_zero] at hh
    refine aL (aa (ao ?_))
    refine cd ?_
    have hd := hmg.done (.inr (List.eq_nil_of_length_eq_zero (by omega)))
    have e1 : (O ++ X ++ Y).length = O.length + n + m := by rw [List.length_append, List.length_append]; omega
    exact ⟨O ++ X ++ Y, A74, c74, hd, by rw [e1], by rw [e1, du, du]; exact hh⟩
   ·obtain ⟨x, X, rfl⟩ : ∃ x X', X = x :: X' := by cases X with
     | nil => exact absurd hX.symm hn
     | cons x X' => exact ⟨x, X', rfl⟩
    obtain ⟨y, Y, rfl⟩ : ∃ y Y', Y = y :: Y' := by cases Y with
     | nil => exact absurd hY.symm hm
     | cons y Y' => exact ⟨y, Y', rfl⟩
    obtain ⟨ad, rfl, hr⟩ := hS.at_ (by omega)
    obtain ⟨ad2, rfl, hr2⟩ := hS2.at_ (by omega)
    have hxx : (x :: X)[0]? = some x := rfl
    have hyy : (y :: Y)[0]? = some y := rfl
    have hSt := hS.tail (by omega) hc
    have hSt2 := hS2.tail (by omega) hc2
    have hsd := fun w1 => sk x y w1
    unfold vW at hsd
    cases h1 : fS x.m y.m with
    | true =>
     rw [h1, if_pos rfl] at hsd
     refine ai (sr (mL (a5 ?_)))
     refine cg (mB ?_)
     first | refine gS ?_ | (refine gT ?_; refine mL ?_) | refine gV ?_
     first | refine gS ?_ | (refine gT ?_; refine a5 ?_) | refine gV ?_
     first | refine gS ?_ | (refine gT ?_; refine cg ?_) | refine gV ?_
     first | refine ct ?_ | refine cq ?_
     refine aa (cT (al (aj (aq (ai ?_)))))
     refine bf 7 [[(2, none)], [(0, none)], [(26, some 1)], [(27, some 2)], [(1, none)], [(29, some 4)], [(30, some 5)]] [(6, 31), (5, 30), (4, 29), (3, 28), (2, 27), (1, 26), (0, 25)] hh mixed (by kernel_rfl) ?_
     refine yb ?_
     refine iB ?_
     refine lY (0) ?_
     refine vP [_,_,_,_] (fun _ hj => (hr.ext hj.hp.below).recAt TR.len hxx) ?_
     refine iB ?_
     refine lY (0) ?_
     refine vP [_,_,_,_] (fun _ hj => (hr2.ext hj.hp.below).recAt TR.len hyy) ?_
     refine bo ?_
     intro f W hJ hV
     have hb_3 := hJ.bl
     obtain ⟨v31, v30, v29, v28, v27, v26, v25, _⟩ := hV
     replace hh := hJ.hp
     refine a7 (bu (ah v31 (ah v30 (ah v29 (ah v28 (ah v27 (ah v26 (ah v25 a6)))))))) ?_
     dsimp only [cJ]
     clear hJ
     refine fg (hsd _) ar.out rfl rfl (by decide) ?_
     rintro e_ w32 ⟨rfl, hb_⟩
     refine ⟨_, rfl, ?_⟩
     replace hh := hh.ext hb_
     refine aI (aa (aq (sr (mI ?_))))
     refine aZ (aB (aa (cT ?_)))
     refine jQ hh mixed fun w_ hj_ => ?_
     replace hh := hj_.hp
     clear hj_
     refine cn (i := 6) (by repeat (first | exact bS | refine bG ?_ | refine bT ?_ | refine np_scope ?_)) rfl (by kernel_rfl) (by kernel_rfl) (by kernel_rfl) (fun _ => dt rfl) (by decide) ?_
     refine cn (i := 7) (by repeat (first | exact bS | refine bG ?_ | refine bT ?_ | refine np_scope ?_)) rfl (by kernel_rfl) (by kernel_rfl) (by kernel_rfl) (fun _ => ix (l := 1) aJ.out aC.size rfl rfl (by omega) (by omega) (by omega)) (by decide) ?_
     refine cn (i := 0) (by repeat (first | exact bS | refine bG ?_ | refine bT ?_ | refine np_scope ?_)) rfl (by kernel_rfl) (by kernel_rfl) (by kernel_rfl) (fun _ => dt rfl) (by decide) ?_
     refine cn (i := 1) (by repeat (first | exact bS | refine bG ?_ | refine bT ?_ | refine np_scope ?_)) rfl (by kernel_rfl) (by kernel_rfl) (by kernel_rfl) (fun _ => dt rfl) (by decide) ?_
     refine cn (i := 2) (by repeat (first | exact bS | refine bG ?_ | refine bT ?_ | refine np_scope ?_)) rfl (by kernel_rfl) (by kernel_rfl) (by kernel_rfl) (fun _ => eC (k := 0) aJ.out aC.size rfl rfl (by omega) (by omega)) (by decide) ?_
     refine db (i := 3) (by kernel_rfl) rfl ?_
     refine cb (vs := [_, _, _, _]) aC.out rfl ((hr.ext hh.below).recAt TR.len hxx) rfl (by decide) ?_
     refine cx ?_
     refine db (i := 4) (by kernel_rfl) rfl ?_
     refine aO hh (cs := [_, _, _, _]) aJ.out aC.out (aG (bq rfl) bC) rfl rfl (by decide) (by decide) (by decide) rfl (by decide) ?_
     intro b55 w55 hh
     refine cx ?_
     refine db (i := 5) (by kernel_rfl) rfl ?_
     refine cO hh (i := 1) rfl rfl rfl (hh.az (i := 0) rfl) aJ.out aC.out rfl (by decide) (by first | rfl | exact dK _ | exact cU _ | exact oneCells_i64s _ | exact cz NR.one _) (by omega) (by omega) (by decide) ?_
     intro A56 c56 w56 hh
     simp only [List.set_cons_zero, List.set_cons_succ] at hh
     replace hh := hh.sub (List.sublist_cons_self _ _)
     refine cx ?_
     refine dX 8 (by decide) (by kernel_rfl) (by decide) (by kernel_rfl) (by kernel_rfl) ?_
     refine aL (aL (aK (a3 (a3 (aj ?_)))))
     replace hh := hh.sub (List.Sublist.cons_cons _ List.Sublist.slnil)
     refine ⟨⟨_, n - 1, c - 1, X, some ad2, m, c2, y :: Y, O ++ [x], A56, c56, rfl, rfl, ?_, by omega, hc2, hSt, hS2, hmg.left h1, ?_⟩, by show (n - 1) + m < n + m; omega, ?_⟩
     ·show Value.slice _ (O.length + 1) _ = Value.slice _ (O ++ [x]).length _
      rw [List.length_append]
      rfl
     ·rw [List.length_append, du]
      exact hh
     ·(repeat (first | exact aA _ _ _ | refine aE rfl ?_ | refine ax rfl ?_))
    | false =>
     cases h2 : fS y.m x.m with
     | true =>
      rw [h1, h2, if_neg (by decide), if_pos rfl] at hsd
      refine ai (sr (mL (a5 ?_)))
      refine cg (mB ?_)
      first | refine gS ?_ | (refine gT ?_; refine mL ?_) | refine gV ?_
      first | refine gS ?_ | (refine gT ?_; refine a5 ?_) | refine gV ?_
      first | refine gS ?_ | (refine gT ?_; refine cg ?_) | refine gV ?_
      first | refine ct ?_ | refine cq ?_
      refine aa (cT (al (aj (aq (ai ?_)))))
      refine bf 7 [[(2, none)], [(0, none)], [(26, some 1)], [(27, some 2)], [(1, none)], [(29, some 4)], [(30, some 5)]] [(6, 31), (5, 30), (4, 29), (3, 28), (2, 27), (1, 26), (0, 25)] hh mixed (by kernel_rfl) ?_
      refine yb ?_
      refine iB ?_
      refine lY (0) ?_
      refine vP [_,_,_,_] (fun _ hj => (hr.ext hj.hp.below).recAt TR.len hxx) ?_
      refine iB ?_
      refine lY (0) ?_
      refine vP [_,_,_,_] (fun _ hj => (hr2.ext hj.hp.below).recAt TR.len hyy) ?_
      refine bo ?_
      intro f W hJ hV
      have hb_3 := hJ.bl
      obtain ⟨v31, v30, v29, v28, v27, v26, v25, _⟩ := hV
      replace hh := hJ.hp
      refine a7 (bu (ah v31 (ah v30 (ah v29 (ah v28 (ah v27 (ah v26 (ah v25 a6)))))))) ?_
      dsimp only [cJ]
      clear hJ
      refine fg (hsd _) ar.out rfl rfl (by decide) ?_
      rintro e_ w32 ⟨rfl, hb_⟩
      refine ⟨_, rfl, ?_⟩
      replace hh := hh.ext hb_
      refine aI (aa (aq (sr (mI ?_))))
      refine aZ (aB (aa (cF (sr (mI ?_)))))
      refine cg (aB (aa (cT ?_)))
      refine jQ hh mixed fun w_ hj_ => ?_
      replace hh := hj_.hp
      clear hj_
      refine cn (i := 6) (by repeat (first | exact bS | refine bG ?_ | refine bT ?_ | refine np_scope ?_)) rfl (by kernel_rfl) (by kernel_rfl) (by kernel_rfl) (fun _ => dt rfl) (by decide) ?_
      refine cn (i := 7) (by repeat (first | exact bS | refine bG ?_ | refine bT ?_ | refine np_scope ?_)) rfl (by kernel_rfl) (by kernel_rfl) (by kernel_rfl) (fun _ => ix (l := 1) aJ.out aC.size rfl rfl (by omega) (by omega) (by omega)) (by decide) ?_
      refine cn (i := 0) (by repeat (first | exact bS | refine bG ?_ | refine bT ?_ | refine np_scope ?_)) rfl (by kernel_rfl) (by kernel_rfl) (by kernel_rfl) (fun _ => dt rfl) (by decide) ?_
      refine cn (i := 1) (by repeat (first | exact bS | refine bG ?_ | refine bT ?_ | refine np_scope ?_)) rfl (by kernel_rfl) (by kernel_rfl) (by kernel_rfl) (fun _ => dt rfl) (by decide) ?_
      refine cn (i := 2) (by repeat (first | exact bS | refine bG ?_ | refine bT ?_ | refine np_scope ?_)) rfl (by kernel_rfl) (by kernel_rfl) (by kernel_rfl) (fun _ => eC (k := 0) aJ.out aC.size rfl rfl (by omega) (by omega)) (by decide) ?_
      refine db (i := 3) (by kernel_rfl) rfl ?_
      refine cb (vs := [_, _, _, _]) aC.out rfl ((hr2.ext hh.below).recAt TR.len hyy) rfl (by decide) ?_
      refine cx ?_
      refine db (i := 4) (by kernel_rfl) rfl ?_
      refine aO hh (cs := [_, _, _, _]) aJ.out aC.out (aG (bq rfl) bC) rfl rfl (by decide) (by decide) (by decide) rfl (by decide) ?_
      intro b66 w66 hh
      refine cx ?_
      refine db (i := 5) (by kernel_rfl) rfl ?_
      refine cO hh (i := 1) rfl rfl rfl (hh.az (i := 0) rfl) aJ.out aC.out rfl (by decide) (by first | rfl | exact dK _ | exact cU _ | exact oneCells_i64s _ | exact cz NR.one _) (by omega) (by omega) (by decide) ?_
      intro A67 c67 w67 hh
      simp only [List.set_cons_zero, List.set_cons_succ] at hh
      replace hh := hh.sub (List.sublist_cons_self _ _)
      refine cx ?_
      refine dX 8 (by decide) (by kernel_rfl) (by decide) (by kernel_rfl) (by kernel_rfl) ?_
      refine aL (aL (aK (a3 (a3 (aj ?_)))))
      replace hh := hh.sub (List.Sublist.cons_cons _ List.Sublist.slnil)
      refine ⟨⟨some ad, n, c, x :: X, _, m - 1, c2 - 1, Y, O ++ [y], A67, c67, rfl, rfl, ?_, hc, by omega, hS, hSt2, hmg.right h2, ?_⟩, by show n + (m - 1) < n + m; omega, ?_⟩
      ·show Value.slice _ (O.length + 1) _ = Value.slice _ (O ++ [y]).length _
       rw [List.length_append]
       rfl
      ·rw [List.length_append, du]
       exact hh
      ·(repeat (first | exact aA _ _ _ | refine aE rfl ?_ | refine ax rfl ?_))
     | false =>
      rw [h1, h2, if_neg (by decide), if_neg (by decide)] at hsd
      have hsm := fun w1 hT1 => vv x y k w1 hT1 (hmg.ox x List.mem_cons_self) (hmg.oy y List.mem_cons_self) hk
      refine ai (sr (mL (a5 ?_)))
      refine cg (mB ?_)
      first | refine gS ?_ | (refine gT ?_; refine mL ?_) | refine gV ?_
      first | refine gS ?_ | (refine gT ?_; refine a5 ?_) | refine gV ?_
      first | refine gS ?_ | (refine gT ?_; refine cg ?_) | refine gV ?_
      first | refine ct ?_ | refine cq ?_
      refine aa (cT (al (aj (aq (ai ?_)))))
      refine bf 7 [[(2, none)], [(0, none)], [(26, some 1)], [(27, some 2)], [(1, none)], [(29, some 4)], [(30, some 5)]] [(6, 31), (5, 30), (4, 29), (3, 28), (2, 27), (1, 26), (0, 25)] hh mixed (by kernel_rfl) ?_
      refine yb ?_
      refine iB ?_
      refine lY (0) ?_
      refine vP [_,_,_,_] (fun _ hj => (hr.ext hj.hp.below).recAt TR.len hxx) ?_
      refine iB ?_
      refine lY (0) ?_
      refine vP [_,_,_,_] (fun _ hj => (hr2.ext hj.hp.below).recAt TR.len hyy) ?_
      refine bo ?_
      intro f W hJ hV
      have hb_3 := hJ.bl
      obtain ⟨v31, v30, v29, v28, v27, v26, v25, _⟩ := hV
      replace hh := hJ.hp
      refine a7 (bu (ah v31 (ah v30 (ah v29 (ah v28 (ah v27 (ah v26 (ah v25 a6)))))))) ?_
      dsimp only [cJ]
      clear hJ
      refine fg (hsd _) ar.out rfl rfl (by decide) ?_
      rintro e_ w32 ⟨rfl, hb_⟩
      refine ⟨_, rfl, ?_⟩
      replace hh := hh.ext hb_
      refine aI (aa (aq (sr (mI ?_))))
      refine aZ (aB (aa (cF (sr (mI ?_)))))
      refine cg (aB (aa (cF ?_)))
      refine jQ hh mixed fun w_ hj_ => ?_
      replace hh := hj_.hp
      clear hj_
      refine cn (i := 11) (by repeat (first | exact bS | refine bG ?_ | refine bT ?_ | refine np_scope ?_)) rfl (by kernel_rfl) (by kernel_rfl) (by kernel_rfl) (fun _ => dt rfl) (by decide) ?_
      refine cn (i := 12) (by repeat (first | exact bS | refine bG ?_ | refine bT ?_ | refine np_scope ?_)) rfl (by kernel_rfl) (by kernel_rfl) (by kernel_rfl) (fun _ => ix (l := 1) aJ.out aC.size rfl rfl (by omega) (by omega) (by omega)) (by decide) ?_
      refine cn (i := 13) (by repeat (first | exact bS | refine bG ?_ | refine bT ?_ | refine np_scope ?_)) rfl (by kernel_rfl) (by kernel_rfl) (by kernel_rfl) (fun _ => dt rfl) (by decide) ?_
      refine cn (i := 14) (by repeat (first | exact bS | refine bG ?_ | refine bT ?_ | refine np_scope ?_)) rfl (by kernel_rfl) (by kernel_rfl) (by kernel_rfl) (fun _ => ix (l := 1) aJ.out aC.size rfl rfl (by omega) (by omega) (by omega)) (by decide) ?_
      refine cn (i := 0) (by repeat (first | exact bS | refine bG ?_ | refine bT ?_ | refine np_scope ?_)) rfl (by kernel_rfl) (by kernel_rfl) (by kernel_rfl) (fun _ => dt rfl) (by decide) ?_
      refine cn (i := 1) (by repeat (first | exact bS | refine bG ?_ | refine bT ?_ | refine np_scope ?_)) rfl (by kernel_rfl) (by kernel_rfl) (by kernel_rfl) (fun _ => dt rfl) (by decide) ?_
      refine cn (i := 2) (by repeat (first | exact bS | refine bG ?_ | refine bT ?_ | refine np_scope ?_)) rfl (by kernel_rfl) (by kernel_rfl) (by kernel_rfl) (fun _ => dt rfl) (by decide) ?_
      refine cn (i := 3) (by repeat (first | exact bS | refine bG ?_ | refine bT ?_ | refine np_scope ?_)) rfl (by kernel_rfl) (by kernel_rfl) (by kernel_rfl) (fun _ => eC (k := 0) aJ.out aC.size rfl rfl (by omega) (by omega)) (by decide) ?_
      refine cn (i := 5) (by repeat (first | exact bS | refine bG ?_ | refine bT ?_ | refine np_scope ?_)) rfl (by kernel_rfl) (by kernel_rfl) (by kernel_rfl) (fun _ => dt rfl) (by decide) ?_
      refine cn (i := 6) (by repeat (first | exact bS | refine bG ?_ | refine bT ?_ | refine np_scope ?_)) rfl (by kernel_rfl) (by kernel_rfl) (by kernel_rfl) (fun _ => eC (k := 0) aJ.out aC.size rfl rfl (by omega) (by omega)) (by decide) ?_
      refine j7 (i := 4) (i2 := 7) (by kernel_rfl) rfl rfl ?_ ?_
      ·refine cb (vs := [_, _, _, _]) aC.out rfl ((hr.ext hh.below).recAt TR.len hxx) rfl (by decide) ?_
       refine cx ?_
       refine db (i := 7) (by kernel_rfl) rfl ?_
       refine cb (vs := [_, _, _, _]) aC.out rfl ((hr2.ext hh.below).recAt TR.len hyy) rfl (by decide) ?_
       refine cx ?_
       refine db (i := 8) (by kernel_rfl) rfl ?_
       refine fg (hsm _ (hT.hp hh)) ar.out rfl rfl (by decide) ?_; rintro e_ w41 ⟨rfl, hb_⟩; refine ⟨_, rfl, ?_⟩; replace hh := hh.ext hb_
       refine cx ?_
       refine db (i := 9) (by kernel_rfl) rfl ?_
       refine aO hh (cs := [_, _, _, _]) aJ.out aC.out (aG (bq rfl) bC) rfl rfl (by decide) (by decide) (by decide) rfl (by decide) ?_
       intro b42 w42 hh
       refine cx ?_
       refine db (i := 10) (by kernel_rfl) rfl ?_
       refine cO hh (i := 1) rfl rfl rfl (hh.az (i := 0) rfl) aJ.out aC.out rfl (by decide) (by first | rfl | exact dK _ | exact cU _ | exact oneCells_i64s _ | exact cz NR.one _) (by omega) (by omega) (by decide) ?_
       intro A43 c43 w43 hh
       simp only [List.set_cons_zero, List.set_cons_succ] at hh
       replace hh := hh.sub (List.sublist_cons_self _ _)
       refine cx ?_
       refine dX 15 (by decide) (by kernel_rfl) (by decide) (by kernel_rfl) (by kernel_rfl) ?_
       refine aL (aL (aL (aK (a3 (a3 (aj ?_))))))
       replace hh := hh.sub (List.Sublist.cons_cons _ List.Sublist.slnil)
       refine ⟨⟨_, n - 1, c - 1, X, _, m - 1, c2 - 1, Y, O ++ [⟨x.m, nR (x.c.d + y.c.d)⟩], A43, c43, rfl, rfl, ?_, by omega, by omega, hSt, hSt2, hmg.both h1 h2 hk, ?_⟩, by show (n - 1) + (m - 1) < n + m; omega, ?_⟩
       ·show Value.slice _ (O.length + 1) _ = Value.slice _ (O ++ [(⟨x.m, nR (x.c.d + y.c.d)⟩ : TR)]).length _
        rw [List.length_append]
        rfl
       ·rw [List.length_append, du]
        exact hh
       ·(repeat (first | exact aA _ _ _ | refine aE rfl ?_ | refine ax rfl ?_))
      ·refine cb (vs := [_, _, _, _]) aC.out rfl ((hr2.ext hh.below).recAt TR.len hyy) rfl (by decide) ?_
       refine cx ?_
       refine db (i := 4) (by kernel_rfl) rfl ?_
       refine cb (vs := [_, _, _, _]) aC.out rfl ((hr.ext hh.below).recAt TR.len hxx) rfl (by decide) ?_
       refine cx ?_
       refine db (i := 8) (by kernel_rfl) rfl ?_
       refine fg (hsm _ (hT.hp hh)) ar.out rfl rfl (by decide) ?_; rintro e_ w41 ⟨rfl, hb_⟩; refine ⟨_, rfl, ?_⟩; replace hh := hh.ext hb_
       refine cx ?_
       refine db (i := 9) (by kernel_rfl) rfl ?_
       refine aO hh (cs := [_, _, _, _]) aJ.out aC.out (aG (bq rfl) bC) rfl rfl (by decide) (by decide) (by decide) rfl (by decide) ?_
       intro b42 w42 hh
       refine cx ?_
       refine db (i := 10) (by kernel_rfl) rfl ?_
       refine cO hh (i := 1) rfl rfl rfl (hh.az (i := 0) rfl) aJ.out aC.out rfl (by decide) (by first | rfl | exact dK _ | exact cU _ | exact oneCells_i64s _ | exact cz NR.one _) (by omega) (by omega) (by decide) ?_
       intro A43 c43 w43 hh
       simp only [List.set_cons_zero, List.set_cons_succ] at hh
       replace hh := hh.sub (List.sublist_cons_self _ _)
       refine cx ?_
       refine dX 15 (by decide) (by kernel_rfl) (by decide) (by kernel_rfl) (by kernel_rfl) ?_
       refine aL (aL (aL (aK (a3 (a3 (aj ?_))))))
       replace hh := hh.sub (List.Sublist.cons_cons _ List.Sublist.slnil)
       refine ⟨⟨_, n - 1, c - 1, X, _, m - 1, c2 - 1, Y, O ++ [⟨x.m, nR (x.c.d + y.c.d)⟩], A43, c43, rfl, rfl, ?_, by omega, by omega, hSt, hSt2, hmg.both h1 h2 hk, ?_⟩, by show (n - 1) + (m - 1) < n + m; omega, ?_⟩
       ·show Value.slice _ (O.length + 1) _ = Value.slice _ (O ++ [(⟨x.m, nR (x.c.d + y.c.d)⟩ : TR)]).length _
        rw [List.length_append]
        rfl
       ·rw [List.length_append, du]
        exact hh
       ·(repeat (first | exact aA _ _ _ | refine aE rfl ?_ | refine ax rfl ?_))
end Go.Proofs.YtkgdagjklakajaaGreatDoor
/- The built-in clear, on a slice that one owns. Plain lemmas, no program in sight. -/
namespace Go.Proofs.YtkgdagjklakajaaGreatDoor
open Go.RowKit
variable {ro : Mode}
theorem m9 {w : World} {b b' : Nat} {t : TypeId} {sz n c : Nat} {A : Option Addr} {xs : List Value} (h : w.ownsRow b t sz (.slice A n c) n xs) (hb : b' ≤ b) : w.ownsRow b' t sz (.slice A n c) n xs :=
 ⟨h.1, h.2.imp id fun ⟨g, cap, cur, h1, h2, h3⟩ => ⟨g, cap, cur, h1, Nat.le_trans hb h2, h3⟩⟩
theorem l5 {w : World} {b b' : Nat} {x : HE} (h : x.holds b w) (hb : b' ≤ b) : x.holds b' w := by
 cases x with
 | blk b t cs fz => exact ⟨Nat.le_trans hb h.1, h.2⟩
 | row A n c t sz xs => exact m9 h hb
 | ob b o => exact ⟨Nat.le_trans hb h.1, h.2⟩
theorem Hp.perm {w0 w : World} {H H' : List HE} (h : Hp w0 H w) (hp : H.Perm H') : Hp w0 H' w :=
 ⟨h.below, fun x hx => h.own x (hp.mem_iff.2 hx), (hp.filterMap _).nodup_iff.1 h.nd⟩
theorem Hp.dI {w0 w : World} {H : List HE} (h : Hp w0 H w) {i n c sz : Nat} {A : Option Addr} {t : TypeId} {xs : List Value} (hi : H[i]? = some (.row A n c t sz xs)) : n ≤ c := by
 have h1 : w.ownsRow w0.heap.size t sz (.slice A n c) n xs := h.at_ hi
 rcases h1.2 with ⟨_, h3⟩ | ⟨g, cap, cur, h2, _, _, h5, _⟩
 ·omega
 ·injection h2 with _ _ e3
  omega
theorem Hp.join {w0 w w' : World} {H H2 : List HE} (h : Hp w0 H w) (h2 : Hp w H2 w') : Hp w0 (H2 ++ H) w' := by
 have h' := h.ext h2.below
 refine ⟨h'.below, fun x hx => ?_, ?_⟩
 ·rcases List.mem_append.1 hx with hx | hx
  ·exact l5 (h2.own x hx) h.size
  ·exact h'.own x hx
 ·rw [List.filterMap_append, List.nodup_append]
  refine ⟨h2.nd, h.nd, fun a ha b hb hab => ?_⟩
  subst hab
  obtain ⟨x, hx, hxa⟩ := List.mem_filterMap.1 ha
  obtain ⟨y, hy, hya⟩ := List.mem_filterMap.1 hb
  have h3 := ew (h2.own x hx) hxa
  have h4 := ew (h.own y hy) hya
  omega
section
variable {P : Program} {N : Nat} {ops : Array Oper} {Q : Kq} {ρ : Rf} {w w0 : World} {rest : List Oper} {H : List HE} {ty : TypeId} {pos : String} {af : Array Edge}
theorem ye {o : Oper} {v : Value} {w' : World} (hg : o.guard = none) (hd : o.dst = none)
  (hr : (execOp (ev ρ) o).run P w = .ok (.value v) w') (k : WL ro P N ops Q rest ρ w') : WL ro P N ops Q (o :: rest) ρ w :=
 ⟨fun hm a hf => wpList_plain hg fun K hK => by
  unfold Oper.wp
  rw [hf.eval, hr]
  show K (a.put o.dst v) w'
  rw [hd]
  exact hK _ _ (k.iZ hm _ hf),
 fun a hf n => wpListIn_plain hg fun K hK => by
  refine ⟨fun _ _ => trivial, ?_⟩
  rw [hf.eval, jE _ hr (fun _ h => by cases h)]
  show K (a.put o.dst v) w'
  rw [hd]
  exact hK _ _ (k.jV _ hf n)⟩
theorem vB {α : Type} {l : List α} {i : Nat} {x : α} (h : l[i]? = some x) : l.set i x = l := by
 obtain ⟨h1, rfl⟩ := List.getElem?_eq_some_iff.1 h
 exact List.set_getElem_self h1
end
abbrev Hp.sz {w0 w : World} {H : List HE} (_ : Hp w0 H w) : Nat := w.heap.size
theorem zd {base : Nat} {W : World} {A : Option Addr} {n c sz b : Nat} {t' t : TypeId} {xs : List Value} {cs : Array Value} {fz : Nat × Nat} (h : HE.holds base W (.row A n c t' sz xs)) (h3 : W.heap[b]? = some (.cells cs t fz)) (hne : t' ≠ t) : (HE.row A n c t' sz xs).id ≠ some b := by
 intro hid
 rcases h.2 with ⟨h1, _⟩ | ⟨g, cap, cur, h1, _, h4, _⟩
 ·injection h1 with e1
  subst e1
  cases hid
 ·injection h1 with e1
  subst e1
  obtain rfl : g = b := Option.some.inj hid
  rw [h3] at h4
  injection h4 with h4
  injection h4 with _ h5
  exact hne h5.symm
theorem JJ.gu {w0 w W w1 : World} {H L : List HE} {t : TypeId} {cs : List Value} {b : Nat} (hJ : JJ w0 H w W) (hs : Hp w0 H w) (h2 : w.heap.size ≤ b) (h3 : W.heap[b]? = some (.cells cs.toArray t (0, 0))) (hb : w.heap.size ≤ w1.heap.size) (hL : Hp w1 L W) (hne : ∀ x ∈ L, x.id ≠ some b) : Hp w0 (.blk b t cs (0, 0) :: (L ++ H)) W := by
 have h1 := hs.join (⟨hJ.bl, fun x hx => l5 (hL.own x hx) hb, hL.nd⟩ : Hp w L W)
 refine ⟨h1.below, fun x hx => ?_, ?_⟩
 ·rcases List.mem_cons.1 hx with rfl | hx
  ·exact ⟨Nat.le_trans hs.size h2, h3, .inr (Nat.le_refl _)⟩
  ·exact h1.own x hx
 ·rw [List.filterMap_cons]
  show (b :: (L ++ H).filterMap HE.id).Nodup
  refine List.nodup_cons.2 ⟨fun hm => ?_, h1.nd⟩
  obtain ⟨y, hy, hyb⟩ := List.mem_filterMap.1 hm
  rcases List.mem_append.1 hy with hy | hy
  ·exact hne y hy hyb
  ·have := (ew (hs.own y hy) hyb).2
   omega
def Bd (base : Nat) (t : TypeId) (n sz : Nat) (cs : List Value) : VP := fun v W => ∃ A c, v = .slice A n c ∧ W.ownsRow base t sz (.slice A n c) n cs
def AP (base : Nat) (t1 t2 : TypeId) (n1 s1 n2 s2 : Nat) (xs1 xs2 : List Value) : VP := fun v W => ∃ A c B k, v = .agg #[.slice A n1 c, .slice B n2 k] ∧ W.ownsRow base t1 s1 (.slice A n1 c) n1 xs1 ∧ W.ownsRow base t2 s2 (.slice B n2 k) n2 xs2
end Go.Proofs.YtkgdagjklakajaaGreatDoor
/- The walk through poly.sorted. -/
namespace Go.Proofs.YtkgdagjklakajaaGreatDoor
open Go.RowKit
structure RX where
 A : Option Addr
 n : Nat
 c : Nat
 ts : List TR
def ic (k : Nat) (l : List TR) : VP := fun v W => ∃ g : RX, v = .slice g.A g.n g.c ∧ (g.n ≤ g.c ∧ g.ts.length = g.n ∧ MD k l g.ts ∧ Sl W g.A g.n 4 (a8 TR.cells g.ts))
theorem ic.ext {k : Nat} {l : List TR} (v : Value) (w w' : World) (h : ic k l v w) (hb : Below w.heap.size w w') : ic k l v w' := let ⟨g, h1, h2, h3, h4, h5⟩ := h; ⟨g, h1, h2, h3, h4, h5.ext hb⟩
theorem MD.wU {k k1 k2 j : Nat} {l1 l2 L1 L2 L : List TR} (h1 : MD k1 l1 L1) (h2 : MD k2 l2 L2) (h : MD k (L1 ++ L2) L) (hk : k ≤ j) : MD j (l1 ++ l2) L :=
 ⟨h.pO, fun m => by rw [h.co, cm, h1.co, h2.co, cm], by have a := h.len; have b := h1.len; have c := h2.len; rw [List.length_append] at a ⊢; omega, h.ok.mono hk, fun t ht => by
  obtain ⟨s, hs, e⟩ := h.mem t ht
  rcases List.mem_append.1 hs with hs | hs
  ·obtain ⟨u, hu, e2⟩ := h1.mem s hs
   exact ⟨u, List.mem_append_left _ hu, e2.trans e⟩
  ·obtain ⟨u, hu, e2⟩ := h2.mem s hs
   exact ⟨u, List.mem_append_right _ hu, e2.trans e⟩⟩
theorem jq (k : Nat) : ∀ (N : Nat) (A : Option Addr) (n c : Nat) (l : List TR) (w : World), n ≤ N → gM w → Sl w A n 4 (a8 TR.cells l) → n ≤ c → n ≤ 1000000 → k + n ≤ 3999980 → gi k l →
  Calls Tryz.prog 167 #[.slice A n c, .func (.func 108) #[] #[], .func (.func 109) #[] #[]] w fun r w' => (n < 2 ∧ r = .returned (.slice A n c) ∧ Below w.heap.size w w') ∨ (2 ≤ n ∧ ∃ (L : List TR) (A' : Option Addr) (c' : Nat), MD (k + n) l L ∧ r = .returned (.slice A' L.length c') ∧ Hp w [.row A' L.length c' 58 4 (a8 TR.cells L)] w')
 | 0, A, n, c, l, w, hN, hT, hS, hc, hn, hk, hok => by
  have hh := Hp.start w
  obtain rfl : n = 0 := by omega
  refine ak (N := 30) (l := [.slice A 0 c, .func (.func 108) #[] #[], .func (.func 109) #[] #[]]) Tryz.func167 rfl rfl (by simp) ?_
  refine sr (aL (aa (ai (sr (mL (a5 ?_))))))
  refine aZ (aa (cT (sr (mL (aL (aa (ao (aM ?_))))))))
  refine cd ?_
  exact .inl ⟨by omega, rfl, hh.below⟩
 | N + 1, A, n, c, l, w, hN, hT, hS, hc, hn, hk, hok => by
  have hh := Hp.start w
  have hl := hS.ck TR.len (by decide)
  by_cases h2 : n < 2
  ·refine ak (N := 30) (l := [.slice A n c, .func (.func 108) #[] #[], .func (.func 109) #[] #[]]) Tryz.func167 rfl rfl (by simp) ?_
   refine sr (aL (aa (ai (sr (mL (a5 ?_))))))
   refine aZ (aa (cT (sr (mL (aL (aa (ao (aM ?_))))))))
   refine cd ?_
   exact .inl ⟨h2, rfl, hh.below⟩
  ·obtain ⟨h, hhalf⟩ : ∃ h, h = n / 2 := ⟨_, rfl⟩
   have hh1 : 1 ≤ h := by omega
   have hh2 : h + h ≤ n := by omega
   have hh3 : n ≤ h + h + 1 := by omega
   have hq : ((n : Int)) / 2 = (h : Int) := by omega
   have hS1 := hS.front (m := h) (by omega)
   rw [show (a8 TR.cells l).take (h * 4) = a8 TR.cells (l.take h) from lQ TR.len l h] at hS1
   have hS2 := hS.back (l := h) (by omega) hc
   rw [show (a8 TR.cells l).drop (h * 4) = a8 TR.cells (l.drop h) from jI TR.len l h] at hS2
   have o1 : gi k (l.take h) := fun t ht => hok t (List.mem_of_mem_take ht)
   have o2 : gi k (l.drop h) := fun t ht => hok t (List.mem_of_mem_drop ht)
   have rd : ∀ {A' : Option Addr} {n' c' : Nat} {l' : List TR} {r : Ending} {w1 w' : World}, Sl w1 A' n' 4 (a8 TR.cells l') → n' ≤ c' → gi k l' → ((n' < 2 ∧ r = .returned (.slice A' n' c') ∧ Below w1.heap.size w1 w') ∨ (2 ≤ n' ∧ ∃ (L : List TR) (B : Option Addr) (b : Nat), MD (k + n') l' L ∧ r = .returned (.slice B L.length b) ∧ Hp w1 [.row B L.length b 58 4 (a8 TR.cells L)] w')) → ∃ v, r = .returned v ∧ Below w1.heap.size w1 w' ∧ ic (k + n') l' v w' := by
    rintro A' n' c' l' r w1 w' hs hc' ho (⟨h1, rfl, hb⟩ | ⟨h1, L, B, b, hm, rfl, h3⟩)
    ·have e := hs.ck TR.len (by decide)
     exact ⟨_, rfl, hb, ⟨A', n', c', l'⟩, rfl, hc', e, (MD.self (oF (by omega)) ho).mono (by omega), hs.ext hb⟩
    ·exact ⟨_, rfl, h3.below, ⟨B, L.length, b, L⟩, rfl, h3.dI (i := 0) rfl, rfl, hm, h3.az (i := 0) rfl⟩
   have ih1 := fun w1 (hT1 : gM w1) (hb : Below w.heap.size w w1) => jq k N A h c (l.take h) w1 (by omega) hT1 (hS1.ext hb) (by omega) (by omega) (by omega) o1
   have ih2 := fun w1 (hT1 : gM w1) (hb : Below w.heap.size w w1) => jq k N _ (n - h) (c - h) (l.drop h) w1 (by omega) hT1 (hS2.ext hb) (by omega) (by omega) (by omega) o2
   refine ak (N := 30) (l := [.slice A n c, .func (.func 108) #[] #[], .func (.func 109) #[] #[]]) Tryz.func167 rfl rfl (by simp) ?_
   refine sr (aL (aa (ai (sr (mL (a5 ?_))))))
   refine aZ (aa (cF (al (aj (sr (mL (a5 ?_)))))))
   refine ie rfl rfl (by omega) (by omega) (by omega) (by decide) ?_
   refine aI (aa (ai ?_))
   rw [hq]
   refine bf 14 [[(0, none)], [(7, none)], [(15, some 0), (16, some 1)], [(1, none)], [(2, none)], [(17, some 2), (18, some 3), (19, some 4)], [(0, none)], [(7, none)], [(21, some 6), (22, some 7)], [(1, none)], [(2, none)], [(23, some 8), (24, some 9), (25, some 10)], [(1, none)], [(2, none)]] [(13, 28), (12, 27), (11, 26), (10, 25), (9, 24), (8, 23), (7, 22), (6, 21), (5, 20), (4, 19), (3, 18), (2, 17), (1, 16), (0, 15)] hh mixed (by kernel_rfl) ?_
   refine iB ?_
   refine fe ?_
   refine bm (i := 2) (fun ρ1 w1 hj hR => ra (h := h) aJ.out aC.size (show ρ1 15 = Value.slice _ _ _ from hR.1) (show ρ1 16 = Value.int _ _ from hR.2.1) (by omega) (by omega)) ?_
   refine yb ?_
   refine yb ?_
   refine bz (i := 5) (ic (k + h) (l.take h)) (ic.ext) ?_ ?_
   ·intro ρ1 w1 hj hR
    exact cG rfl (bh ar.out (aF (show ρ1 17 = Value.slice _ _ _ from hR.1) (aF (show ρ1 18 = Value.func _ _ _ from hR.2.1) (aF (show ρ1 19 = Value.func _ _ _ from hR.2.2.1) bj)))) (ih1 w1 (hT.hp hj.hp) hj.hp.below) (fun _ _ hq => rd (hS1.ext hj.hp.below) (by omega) o1 hq)
   refine iB ?_
   refine fe ?_
   refine bm (i := 8) (fun ρ1 w1 hj hR => ix (l := h) aJ.out aC.size (show ρ1 21 = Value.slice _ _ _ from hR.1) (show ρ1 22 = Value.int _ _ from hR.2.1) (by omega) (by omega) (by omega)) ?_
   refine yb ?_
   refine yb ?_
   refine bz (i := 11) (ic (k + (n - h)) (l.drop h)) (ic.ext) ?_ ?_
   ·intro ρ1 w1 hj hR
    exact cG rfl (bh ar.out (aF (show ρ1 23 = Value.slice _ _ _ from hR.1) (aF (show ρ1 24 = Value.func _ _ _ from hR.2.1) (aF (show ρ1 25 = Value.func _ _ _ from hR.2.2.1) bj)))) (ih2 w1 (hT.hp hj.hp) hj.hp.below) (fun _ _ hq => rd (hS2.ext hj.hp.below) (by omega) o2 hq)
   refine yb ?_
   refine yb ?_
   refine bo ?_
   intro f W hJ hV
   have hb_4 := hJ.bl
   obtain ⟨v28, v27, v26, v25, v24, v23, v22, v21, v20, v19, v18, v17, v16, v15, _⟩ := hV
   obtain ⟨g20, e20, o20⟩ : ic (k + h) (l.take h) (f 5) W := v20
   obtain ⟨g26, e26, o26⟩ : ic (k + (n - h)) (l.drop h) (f 11) W := v26
   replace hh := hJ.hp
   refine a7 (bu (ah v28 (ah v27 (ah e26 (ah v25 (ah v24 (ah v23 (ah v22 (ah v21 (ah e20 (ah v19 (ah v18 (ah v17 (ah v16 (ah v15 a6))))))))))))))) ?_
   dsimp only [cJ]
   clear e20 e26 hJ
   obtain ⟨p1, p2, p3, p4⟩ := o20
   obtain ⟨q1, q2, q3, q4⟩ := o26
   have l1 := p3.len
   have l2 := q3.len
   rw [List.length_take] at l1
   rw [List.length_drop] at l2
   refine aH (kD g20.A g20.n g20.c g20.ts g26.A g26.n g26.c g26.ts (k + (n - h)) _ (hT.hp hh) p4 q4 p1 q1 (by omega) (by omega) (by omega) p3.pO q3.pO (p3.ok.mono (by omega)) (q3.ok.mono (by omega))) ar.out rfl (by decide) ?_
   rintro e_ w29 ⟨L, A', c', hm, rfl, h3⟩
   refine ⟨_, rfl, ?_⟩
   replace hh := hh.join h3
   refine aL (aa (ao ?_))
   refine cd ?_
   refine .inr ⟨by omega, L, A', c', ?_, rfl, hh⟩
   have := p3.wU q3 hm (j := k + n) (by omega)
   rwa [List.take_append_drop] at this
end Go.Proofs.YtkgdagjklakajaaGreatDoor
/- A part of a row of one's own: append in place, clear of the tail. Plain lemmas, no program in sight. -/
namespace Go.Proofs.YtkgdagjklakajaaGreatDoor
open Go.RowKit
variable {ro : Mode}
section
variable {P : Program} {N : Nat} {ops : Array Oper} {Q : Kq} {ρ : Rf} {w w0 : World} {rest : List Oper} {H : List HE} {ty d : Nat} {pos : String} {af : Array Edge}
theorem pG (hh : Hp w0 H w) {t e : TypeId} {x : Operand} {i p c m c' o sz by' g : Nat} {ag : Bool} {zc xs : List Value} (hi : H[i]? = some (.row (some ⟨g, 0, none⟩) p c e sz xs)) (hx : ev ρ x = .slice (some ⟨g, o, none⟩) m c') (ho : p * sz ≤ o) (hom : o + m * sz ≤ c * sz) (hm : 0 < m)
  (ht : P.underlying t = some (.slice e)) (hte : cZ P e = some (sz, ag, by', zc)) (hzl : zc.length = sz) (h1 : (zc.all Value.oneCell') = true)
  (k : ∀ w', Hp w0 H w' → WL ro P N ops Q rest ρ w') : WL ro P N ops Q (⟨none, .call ⟨.builtin .clear, #[x], #[t]⟩, ty, pos, af, none⟩ :: rest) ρ w := by
 obtain ⟨z, hz, hzc⟩ := dz (w := w) hte
 obtain ⟨hlen, h2⟩ := hh.at_ hi
 rcases h2 with ⟨h2, _⟩ | ⟨g', cap, cur, hv, hg, hheap, hmc, hcm, hcur, htake⟩
 ·cases h2
 ·injection hv with hA hn hcap
  injection hA with hA
  injection hA with hA
  subst hA; subst hcap
  have hcl : cur.size = cur.toList.length := by simp
  have hzr : (fj m zc).length = m * sz := by rw [jn, hzl]
  have hall : ∀ v ∈ fj m zc, v.oneCell' = true := fun v hv => by
   obtain ⟨j, hj⟩ := List.mem_iff_getElem?.1 hv
   have hj2 := (List.getElem?_eq_some_iff.1 hj).1
   rw [jn] at hj2
   rw [pL m zc j hj2] at hj
   exact List.all_eq_true.1 h1 v (List.mem_of_getElem? hj)
  obtain ⟨w', hr, hb', hgr, hs⟩ := e6 (P := P) (b := g) (t := e) (fz := (0, 0)) o (fj m zc) 0 cur.toList w (by simpa using hheap) (.inr (Nat.le_refl _)) (by rw [← hcl, hzr]; omega) hall
  have hset := vB hi
  refine ye rfl rfl (w' := w') (v := .tuple #[]) ?_ (k w' (hset ▸ hh.grown hi hgr (.inl rfl) ⟨hlen, .inr ⟨g, c, (bV cur.toList (o + 0) (fj m zc)).toArray, rfl, hg, by simpa using hb', hmc, hcm, ?_, ?_⟩⟩))
  ·simp only [execOp, resolve, invoke, hx, List.map_toArray, List.map_cons, List.map_nil]
   have hzz : Builtin.zeroCells z.cells m = (fj m zc).toArray := by
    rw [Builtin.zeroCells, hzc, List.size_toArray]; exact jy m zc
   obtain ⟨q, rfl⟩ : ∃ q, m = q + 1 := ⟨m - 1, by omega⟩
   simp [builtin, Builtin.clear_, run_underlying ht, hz, hzz, hr]
  ·simp only [List.size_toArray]
   rw [eA (by rw [← hcl, hzr]; omega), ← hcl, hcur]
  ·simp only [bV]
   rw [List.append_assoc, List.take_append_of_le_length (by rw [List.length_take, ← hcl]; omega), List.take_take, Nat.min_eq_left (by omega)]
   exact htake
end
end Go.Proofs.YtkgdagjklakajaaGreatDoor
/- Append to a slice without room, whose memory nobody needs. Plain lemmas, no program in sight. -/
namespace Go.Proofs.YtkgdagjklakajaaGreatDoor
open Go.RowKit
variable {ro : Mode}
section
variable {P : Program} {N : Nat} {ops : Array Oper} {Q : Kq} {ρ : Rf} {w w0 : World} {rest : List Oper} {d : Nat} {ty : TypeId} {pos : String} {af : Array Edge}
theorem tK {t e u : TypeId} {x y : Operand} {A : Option Addr} {n c n' c' : Nat} (ht : P.underlying t = some (.slice e)) (hx : ev ρ x = .slice A n c) (hy : ev ρ y = .slice none n' c') (hN : d < N)
  (kk : WL ro P N ops Q rest (cv ρ d (.bool A.isNone)) w) : WL ro P N ops Q (⟨some d, .binOp .eql t x y u, ty, pos, af, none⟩ :: rest) ρ w :=
 aY rfl rfl hN (by
  have h1 := Go.Lib.run_eql_slice_nil (P := P) w t e A n c n' c' ht
  simp only [execOp, hx, hy]
  simp [eqGuard, h1]) kk
end
end Go.Proofs.YtkgdagjklakajaaGreatDoor
/- The walks through slices.IndexFunc, ContainsFunc, DeleteFunc, Clone of terms. -/
namespace Go.Proofs.YtkgdagjklakajaaGreatDoor
open Go.RowKit
theorem mJ (A : Option Addr) (n c : Nat) (l : List TR) (g : FuncId) (cap : List Value) (p : TR → Bool) (w : World) (hS : Sl w A n 4 (a8 TR.cells l)) (hn : n ≤ 1000000) [ar Tryz.prog g]
  (hg : ∀ (z : TR) (w1 : World), z ∈ l → Below w.heap.size w w1 → Calls Tryz.prog g (.agg #[.string z.m, .bool z.c.neg, .string z.c.cC, .int .i64 z.c.e] :: cap).toArray w1 fun r w' => r = .returned (.bool (p z)) ∧ Below w1.heap.size w1 w') :
  Calls Tryz.prog 165 #[.slice A n c, .func (.func g) #[] cap.toArray] w fun r w' => ∃ v, r = .returned (.int .i64 v) ∧ ((l.any p = false ∧ v = -1) ∨ ∃ (i : Nat) (z : TR), i < n ∧ v = i ∧ (l.take i).any p = false ∧ l[i]? = some z ∧ p z = true) ∧ Below w.heap.size w w' := by
 have hh := Hp.start w
 have hln := hS.ck TR.len (by decide)
 refine ak (N := 19) (l := [.slice A n c, .func (.func g) #[] cap.toArray]) Tryz.func165 rfl rfl (by simp) ?_
 refine sr (aI (aa (ai (sr (mL (a5 (mI (aa (aq ?_)))))))))
 refine bD [4, 5, 8, 9, 10, 11, 12, 13, 14, 15, 16, 17, 18] 8
  (fun v w' => ∃ i : Nat, i ≤ n ∧ v = .int .i64 i ∧ (l.take i).any p = false ∧ Hp w [] w')
  (fun v _ => n - (intOf v).toNat) ?_ ?_
 ·exact ⟨0, Nat.zero_le _, rfl, rfl, hh⟩
 ·clear hh
  rintro ρ' v w' ⟨i, hi, rfl, hall, hh⟩
  by_cases hlt : i < n
  ·obtain ⟨z, hz⟩ := aR (l := l) (k := i) (by omega)
   obtain ⟨ad, rfl, hr⟩ := hS.at_ (by omega)
   have hc := fun w1 => hg z w1 (List.mem_of_getElem? hz)
   cases gz : p z with
   | true =>
    rw [gz] at hc
    refine sr ?_
    refine aZ (aa (ai (cT (al (aj (ai (aq (sr (mI (aI (aa ?_)))))))))))
    refine sr ?_
    refine fL (by first | exact gm rfl | exact ev_nilf rfl) (by decide) ?_
    refine mL (mI ?_)
    refine a0 (k := i) aJ.out aC.size rfl rfl (by omega) (by omega) (by decide) ?_
    refine cb (vs := [_, _, _, _]) aC.out rfl ((hr.ext hh.below).recAt TR.len hz) rfl (by decide) ?_
    refine fg (hc _ hh.below) ar.out rfl rfl (by decide) ?_
    rintro e_ w16 ⟨rfl, hb_⟩
    refine ⟨_, rfl, ?_⟩
    replace hh := hh.ext hb_
    refine aa (cT (sr (mI (aI (aa (ao (bU (aM (aM (bU (aM ?_)))))))))))
    refine cd ?_
    exact ⟨_, rfl, .inr ⟨i, z, hlt, rfl, hall, hz, gz⟩, hh.below⟩
   | false =>
    rw [gz] at hc
    refine sr ?_
    refine aZ (aa (ai (cT (al (aj (ai (aq (sr (mI (aI (aa ?_)))))))))))
    refine sr ?_
    refine fL (by first | exact gm rfl | exact ev_nilf rfl) (by decide) ?_
    refine mL (mI ?_)
    refine a0 (k := i) aJ.out aC.size rfl rfl (by omega) (by omega) (by decide) ?_
    refine cb (vs := [_, _, _, _]) aC.out rfl ((hr.ext hh.below).recAt TR.len hz) rfl (by decide) ?_
    refine fg (hc _ hh.below) ar.out rfl rfl (by decide) ?_
    rintro e_ w16 ⟨rfl, hb_⟩
    refine ⟨_, rfl, ?_⟩
    replace hh := hh.ext hb_
    refine aa (cF (al (a3 (aj (au ?_)))))
    refine bO (mI (aK (aj ?_)))
    refine ⟨⟨i + 1, by omega, rfl, by rw [aW hz, List.any_append, hall, List.any_cons, List.any_nil, gz]; rfl, hh⟩, by show n - (i + 1) < n - i; omega, ?_⟩
    (repeat (first | exact aA _ _ _ | refine aE rfl ?_ | refine ax rfl ?_))
  ·rw [List.take_of_length_le (by omega)] at hall
   refine sr ?_
   refine aZ (aa (ai (cF ?_)))
   refine a4 ?_
   refine aD (aD (bp (aj (sr (aI (aa (ao ?_)))))))
   refine cd ?_
   exact ⟨_, rfl, .inl ⟨hall, rfl⟩, hh.below⟩
theorem tf (A : Option Addr) (n c : Nat) (l : List TR) (g : FuncId) (cap : List Value) (p : TR → Bool) (w : World) (hS : Sl w A n 4 (a8 TR.cells l)) (hn : n ≤ 1000000) [ar Tryz.prog g]
  (hg : ∀ (z : TR) (w1 : World), z ∈ l → Below w.heap.size w w1 → Calls Tryz.prog g (.agg #[.string z.m, .bool z.c.neg, .string z.c.cC, .int .i64 z.c.e] :: cap).toArray w1 fun r w' => r = .returned (.bool (p z)) ∧ Below w1.heap.size w1 w') :
  Calls Tryz.prog 90 #[.slice A n c, .func (.func g) #[] cap.toArray] w fun r w' => r = .returned (.bool (l.any p)) ∧ Below w.heap.size w w' := by
 have hh := Hp.start w
 refine ak (N := 9) (l := [.slice A n c, .func (.func g) #[] cap.toArray]) Tryz.func90 rfl rfl (by simp) ?_
 refine sr (aB (aa (sr (mL ?_))))
 refine fL (by first | exact gm rfl | exact ev_nilf rfl) (by decide) ?_
 refine aH (mJ A n c l g cap p _ (hS.ext hh.below) hn hg) ar.out rfl (by decide) ?_
 rintro e_ w7 ⟨v_, rfl, hv_, hb_⟩
 refine ⟨_, rfl, ?_⟩
 replace hh := hh.ext hb_
 rcases hv_ with ⟨ha, rfl⟩ | ⟨i, z, hi, rfl, ht, hz, hp⟩
 ·rw [ha]
  refine dx (aB (aa (ao ?_)))
  refine cd ?_
  exact ⟨rfl, hh.below⟩
 ·rw [show l.any p = true from List.any_eq_true.2 ⟨z, List.mem_of_getElem? hz, hp⟩]
  refine dx (aB (aa (ao ?_)))
  refine cd ?_
  exact ⟨rfl, hh.below⟩
theorem iO (A : Option Addr) (n c : Nat) (l : List TR) (w : World) (hS : Sl w A n 4 (a8 TR.cells l)) (hn : n ≤ 1000000) :
  Calls Tryz.prog 94 #[.slice A n c] w fun r w' => ∃ A' c', r = .returned (.slice A' n c') ∧ w'.ownsRow w.heap.size 58 4 (.slice A' n c') n (a8 TR.cells l) ∧ Below w.heap.size w w' := by
 have hh := Hp.start w
 have oX := cz TR.one l
 rcases A with _ | ad
 ·have hn0 : n = 0 := by
   rcases Nat.eq_zero_or_pos n with h | h
   ·exact h
   ·obtain ⟨_, h1, _⟩ := hS.2 h; cases h1
  subst hn0
  have hl : l = [] := List.eq_nil_of_length_eq_zero (by have := hS.ck TR.len (by decide); omega)
  subst hl
  refine ak (N := 8) (l := [.slice none 0 c]) Tryz.func94 rfl rfl (by simp) ?_
  refine sr (aL (aa (ai (sr (mL ?_)))))
  refine tK aJ.out rfl rfl (by decide) ?_
  refine aa (cT (sr (aL (aa (ao (aM ?_))))))
  refine cd ?_
  exact ⟨_, _, rfl, World.ownsRow_nil _ _ _ _, hh.below⟩
 ·refine ak (N := 8) (l := [.slice (some ad) n c]) Tryz.func94 rfl rfl (by simp) ?_
  refine sr (aL (aa (ai (sr (mL ?_)))))
  refine tK aJ.out rfl rfl (by decide) ?_
  refine aa (cF (al (aj (sr ?_))))
  refine m5 hh aJ.out aC.out (by decide) ?_
  intro b5 w5 hh
  refine mL ?_
  refine cO hh (i := 0) rfl rfl rfl (hS.ext hh.below) aJ.out aC.out rfl (by decide) ?one7 (by omega) (by omega) (by decide) ?kk7
  case one7 => first | rfl | assumption | exact oneCells_i64s _ | exact oneCells_u8s _
  intro A7 c7 w7 hh
  simp only [List.set_cons_zero] at hh
  rw [Nat.zero_add] at hh ⊢
  rw [List.nil_append] at hh
  refine aL (aa (ao ?_))
  refine cd ?_
  exact ⟨_, _, rfl, hh.at_ (i := 0) rfl, hh.below⟩
theorem qz {α : Type} {l : List α} {i j : Nat} (h : i < j) (x : α) : (l.set i x).drop j = l.drop j := by
 refine List.ext_getElem? fun k => ?_
 rw [List.getElem?_drop, List.getElem?_drop, List.getElem?_set, if_neg (by omega)]
theorem nW {α : Type} {l : List α} {i : Nat} (h : i < l.length) (x : α) : (l.set i x).take (i + 1) = l.take i ++ [x] := by
 rw [aW (show (l.set i x)[i]? = some x by rw [List.getElem?_set, if_pos rfl, if_pos h]), List.take_set_of_le (Nat.le_refl _)]
theorem sc {w0 : World} {Hr : List HE} (A : Option Addr) (n c : Nat) (l : List TR) (g : FuncId) (p : TR → Bool) (w : World) (hh : Hp w0 (.row A n c 58 4 (a8 TR.cells l) :: Hr) w) (hl : l.length = n) (hn : n ≤ 1000000) [ar Tryz.prog g]
  (hg : ∀ (z : TR) (w1 : World), z ∈ l → Calls Tryz.prog g (.agg #[.string z.m, .bool z.c.neg, .string z.c.cC, .int .i64 z.c.e] :: []).toArray w1 fun r w' => r = .returned (.bool (p z)) ∧ Below w1.heap.size w1 w') :
  Calls Tryz.prog 166 #[.slice A n c, .func (.func g) #[] #[]] w fun r w' => r = .returned (.slice A (l.filter fun z => !p z).length c) ∧ Hp w0 (.row A (l.filter fun z => !p z).length c 58 4 (a8 TR.cells (l.filter fun z => !p z)) :: Hr) w' := by
 have hc := hh.dI (i := 0) rfl
 have hsl := hh.az (i := 0) rfl
 refine ak (N := 42) (l := [.slice A n c, .func (.func g) #[] #[]]) Tryz.func166 rfl rfl (by simp) ?_
 refine sr (aL (aa (sr (mL ?_))))
 refine fL (by first | exact gm rfl | exact ev_nilf rfl) (by decide) ?_
 refine aH (mJ A n c l g [] p _ hsl hn (fun z w1 hz _ => hg z w1 hz)) ar.out rfl (by decide) ?_
 rintro e_ w10 ⟨v_, rfl, hv_, hb_⟩
 refine ⟨_, rfl, ?_⟩
 replace hh := hh.ext hb_
 rcases hv_ with ⟨ha, rfl⟩ | ⟨i0, z0, hi0, rfl, ht0, hz0, hp0⟩
 ·have hf : (l.filter fun z => !p z) = l := List.filter_eq_self.2 fun z hz => by
   have := List.any_eq_false.1 ha z hz
   simpa using this
  rw [hf, hl]
  refine aI (aa (ai (sr (mI ?_))))
  refine cI (aa (cT (sr (mL (aL (aa (ao (aM ?_))))))))
  refine cd ?_
  exact ⟨rfl, hh⟩
 ·have hf0 : ((l.take (i0 + 1)).filter fun z => !p z) = l.take i0 := by
   rw [aW hz0, List.filter_append, List.filter_cons_of_neg (by rw [hp0]; decide), List.filter_nil, List.append_nil]
   exact List.filter_eq_self.2 fun z hz => by
    have := List.any_eq_false.1 ht0 z hz
    simpa using this
  obtain ⟨g0, rfl⟩ := hh.gH (i := 0) rfl (by omega)
  refine aI (aa (ai (sr (mI ?_))))
  refine cI (aa (cF (al (aj (ai (sr (mI ?_)))))))
  refine bO (aI (aa (aq ?_)))
  refine cY [5, 6, 7, 16, 17, 18, 19, 20, 21, 22, 23, 24, 25, 26, 27, 28, 29, 30, 31, 32, 33, 34, 35] 5 6
   (fun v5 v6 w' => ∃ (i j : Nat) (X : List TR), i < j ∧ j ≤ n ∧ v5 = .int .i64 i ∧ v6 = .int .i64 j ∧ X.length = n ∧ i = ((l.take j).filter fun z => !p z).length ∧ X.take i = ((l.take j).filter fun z => !p z) ∧ X.drop j = l.drop j ∧ Hp w0 (.row (some ⟨g0, 0, none⟩) n c 58 4 (a8 TR.cells X) :: Hr) w')
   (fun _ v _ => n - (intOf v).toNat) ?_ ?_
  ·exact ⟨i0, i0 + 1, l, by omega, by omega, rfl, rfl, hl, by rw [hf0, List.length_take]; omega, hf0.symm, rfl, hh⟩
  ·clear hh
   rintro ρ' v5 v6 w' ⟨i, j, X, hij, hj, rfl, rfl, hX, hi, htk, hdr, hh⟩
   by_cases hlt : j < n
   ·obtain ⟨z, hz⟩ := aR (l := l) (k := j) (by omega)
    have hXj : X[j]? = some z := by
     have h1 : (X.drop j)[0]? = (l.drop j)[0]? := by rw [hdr]
     rw [List.getElem?_drop, List.getElem?_drop, Nat.add_zero] at h1
     rw [h1, hz]
    have hgz := fun w1 => hg z w1 (List.mem_of_getElem? hz)
    have hdr2 : X.drop (j + 1) = l.drop (j + 1) := by rw [← List.drop_drop, ← List.drop_drop, hdr]
    have hrl := ij TR.len X
    refine ai (sr (mI (mL (a5 ?_))))
    refine aZ (aa (cT (al (aj (ai (aq (sr (mL (mI ?_)))))))))
    refine bs (k := j) aJ.out aC.size rfl rfl (by omega) (by omega) (by decide) ?_
    refine cb (vs := [_, _, _, _]) aC.out rfl (hh.td (f := TR.cells) (x := z) (l := X) (i := 0) rfl TR.len (by decide) hXj) rfl (by decide) ?_
    refine cj hh ?_
    intro b7 w7 hh
    refine bK hh 0 [_,_,_,_] ?_
    intro ws hh
    replace hh : Hp _ (.blk _ _ [_, _, _, _] _ :: _) _ := hh
    refine aa (sr ?_)
    refine fL (by first | exact gm rfl | exact ev_nilf rfl) (by decide) ?_
    refine cf hh 0 [_,_,_,_] ?_
    cases hpz : p z with
    | true =>
     rw [hpz] at hgz
     have hfl : ((l.take (j + 1)).filter fun z => !p z) = ((l.take j).filter fun z => !p z) := by rw [aW hz, List.filter_append, List.filter_cons_of_neg (by rw [hpz]; decide), List.filter_nil, List.append_nil]
     refine fg (hgz _) ar.out rfl rfl (by decide) ?_
     rintro e_ w28 ⟨rfl, hb_⟩
     refine ⟨_, rfl, ?_⟩
     replace hh := hh.ext hb_
     refine eo ?_
     refine aa (cF (al (a3 (aj (au (mI ?_))))))
     refine bO (aI (aK (aj ?_)))
     replace hh := hh.sub (List.Sublist.cons _ (List.Sublist.cons_cons _ (List.Sublist.refl _)))
     refine ⟨⟨i, j + 1, X, by omega, by omega, rfl, rfl, hX, by rw [hfl]; exact hi, by rw [hfl]; exact htk, hdr2, hh⟩, by show n - (j + 1) < n - j; omega, ?_⟩
     (repeat (first | exact aA _ _ _ | refine aE rfl ?_ | refine ax rfl ?_))
    | false =>
     rw [hpz] at hgz
     have hfl : ((l.take (j + 1)).filter fun z => !p z) = ((l.take j).filter fun z => !p z) ++ [z] := by rw [aW hz, List.filter_append, List.filter_cons_of_pos (by rw [hpz]; decide), List.filter_nil]
     refine fg (hgz _) ar.out rfl rfl (by decide) ?_
     rintro e_ w28 ⟨rfl, hb_⟩
     refine ⟨_, rfl, ?_⟩
     replace hh := hh.ext hb_
     refine eo ?_
     refine aa (cT (sr (mL (mI ?_))))
     refine cf hh 0 [_,_,_,_] ?_
     refine bs (k := i) aJ.out aC.size rfl rfl (by omega) (by omega) (by decide) ?_
     refine br hh (i := 1) (vs := [_, _, _, _]) rfl rfl (bq rfl) rfl aC.out rfl (by omega) rfl ?_
     intro ws hh
     simp only [List.set_cons_zero, List.set_cons_succ] at hh
     rw [show bV (a8 TR.cells X) (i * 4) [.string z.m, .bool z.c.neg, .string z.c.cC, .int .i64 z.c.e] = a8 TR.cells (X.set i z) from lX TR.len (by omega)] at hh
     refine aa (au (mI ?_))
     refine bO (aI (aK (a3 (aj (au (mI ?_))))))
     refine bO (aI (aK (aj ?_)))
     replace hh := hh.sub (List.Sublist.cons _ (List.Sublist.cons_cons _ (List.Sublist.refl _)))
     refine ⟨⟨i + 1, j + 1, X.set i z, by omega, by omega, rfl, rfl, by rw [List.length_set]; exact hX, by rw [hfl, List.length_append, ← hi]; rfl, by rw [hfl, nW (by omega), htk], by rw [qz (by omega)]; exact hdr2, hh⟩, by show n - (j + 1) < n - j; omega, ?_⟩
     (repeat (first | exact aA _ _ _ | refine aE rfl ?_ | refine ax rfl ?_))
   ·obtain rfl : j = n := by omega
    rw [show l.take j = l from List.take_of_length_le (by omega)] at hi htk
    have hcap := hh.dI (i := 0) rfl
    have hp31 : (if c = i then some (⟨g0, 0, none⟩ : Addr) else (some (⟨g0, 0, none⟩ : Addr)).map (·.add (i * 4))) = some ⟨g0, i * 4, none⟩ := by
     rw [if_neg (by omega)]
     show some ((⟨g0, 0, none⟩ : Addr).add (i * 4)) = _
     rw [eu, Nat.zero_add]
    have htt : (a8 TR.cells X).take (i * 4) = a8 TR.cells (l.filter fun z => !p z) := by rw [lQ TR.len, htk]
    refine ai (sr (mI (mL (a5 ?_))))
    refine aZ (aa (cF ?_))
    refine a4 ?_
    refine aD (aD (bp (aj (sr (mL (mI ?_))))))
    refine aY rfl rfl (by decide) (gD (l := i) (h := j) aJ.out aC.size rfl ⟨_, _, rfl, rfl⟩ rfl (by omega) (by omega)) ?_
    rw [hp31]
    replace hh := hh.sx (k := i) (by omega)
    rw [htt] at hh
    refine pG hh (i := 0) (o := i * 4) (m := j - i) rfl rfl (by omega) (by omega) (by omega) aJ.out aC.out rfl rfl ?_
    intro w38 hh
    refine aa (sr (mL (mI ?_)))
    refine k7 (h := i) aJ.out aC.size rfl rfl (by omega) (by omega) (by decide) ?_
    refine aL (aa (ao ?_))
    refine cd ?_
    rw [← hi]
    exact ⟨rfl, hh⟩
end Go.Proofs.YtkgdagjklakajaaGreatDoor
/- The walk through poly.clean. -/
namespace Go.Proofs.YtkgdagjklakajaaGreatDoor
open Go.RowKit
structure PX where
 v : Int
 A : Option Addr
 n : Nat
 c : Nat
 ts : List TR
def PX.row (g : PX) : HE := .row g.A g.n g.c 58 4 (a8 TR.cells g.ts)
def PX.at_ (g : PX) (w : World) : Prop := Sl w g.A g.n 4 (a8 TR.cells g.ts)
theorem PX.at_.ext {g : PX} {w w' : World} (h : g.at_ w) (hb : Below w.heap.size w w') : g.at_ w' := Sl.ext h hb
theorem PX.at_.ln {g : PX} {w : World} (h : g.at_ w) : g.ts.length = g.n := Sl.ck h TR.len (by decide)
structure dm (E v : Int) (ts : List TR) (g : PX) : Prop where
 v : g.v = if E = 0 then v else 0
 ts : g.ts = if E = 0 then ts else []
def PX.nil : PX := ⟨0, none, 0, 0, []⟩
theorem dm.err {E v : Int} {ts : List TR} (h : E ≠ 0) : dm E v ts PX.nil := ⟨by rw [if_neg h]; rfl, by rw [if_neg h]; rfl⟩
theorem Hp.ja {w0 w : World} {H : List HE} (h : Hp w0 H w) : Hp w0 (PX.nil.row :: H) w := h.fE 58 4
theorem nZ {w0 : World} {Hr : List HE} (A : Option Addr) (n c : Nat) (l : List TR) (k : Nat) (w : World) (hT : gM w) (hh : Hp w0 (.row A n c 58 4 (a8 TR.cells l) :: Hr) w) (hl : l.length = n) (hn : n ≤ 1000000) (hk : k + n ≤ 3999980) (ho : gi k l) :
  Calls Tryz.prog 167 #[.slice A n c, .func (.func 108) #[] #[], .func (.func 109) #[] #[]] w fun r w' => ∃ (L : List TR) (A' : Option Addr) (c' : Nat), MD (k + n) l L ∧ r = .returned (.slice A' L.length c') ∧ Hp w0 (.row A' L.length c' 58 4 (a8 TR.cells L) :: Hr) w' := by
 refine (jq k n A n c l w (Nat.le_refl _) hT (hh.az (i := 0) rfl) (hh.dI (i := 0) rfl) hn hk ho).mono fun r w' h => ?_
 rcases h with ⟨h1, rfl, hb⟩ | ⟨h1, L, A', c', hm, rfl, h3⟩
 ·exact ⟨l, A, c, (MD.self (oF (by omega)) ho).mono (by omega), by rw [hl], by rw [hl]; exact hh.ext hb⟩
 ·refine ⟨L, A', c', hm, rfl, ?_⟩
  exact (hh.join h3).sub (List.Sublist.cons_cons _ (List.Sublist.cons _ (List.Sublist.refl _)))
def As (t : TR) : Bool := decide (t.c.d = 0)
theorem s8 (l : List TR) : (l.filter fun z => !As z) = l.filter qt := rfl
theorem pZ (z : TR) (w : World) : Calls Tryz.prog 168 #[.agg #[.string z.m, .bool z.c.neg, .string z.c.cC, .int .i64 z.c.e]] w fun r w' => r = .returned (.bool (As z)) ∧ Below w.heap.size w w' := by
 have hh := Hp.start w
 refine ak (N := 7) (l := [.agg #[.string z.m, .bool z.c.neg, .string z.c.cC, .int .i64 z.c.e]]) Tryz.func168 rfl rfl (by simp) ?_
 refine sr ?_
 refine dp hh [_,_,_,_] ?_
 intro b1 w1 hh
 refine aB (aa (sr (bP ?_)))
 refine cf hh 0 [_,_,_] ?_
 refine bE hh (ma z.c _) rfl ?_
 intro w5 hh
 have hz : z.c.i.sign = 0 ↔ z.c.d = 0 := by
  rw [Int.sign_eq_zero_iff_zero]
  exact ⟨fun h => by unfold NR.d; rw [h]; rfl, jb⟩
 unfold As
 by_cases h0 : z.c.d = 0
 ·have hs := hz.2 h0
  rw [decide_eq_true h0]
  refine cI (aB (aa (ao ?_)))
  refine cd ?_
  exact ⟨rfl, hh.below⟩
 ·have hs : ¬ z.c.i.sign = 0 := fun h => h0 (hz.1 h)
  rw [decide_eq_false h0]
  refine cI (aB (aa (ao ?_)))
  refine cd ?_
  exact ⟨rfl, hh.below⟩
def gJ (l : List TR) : Int := if 4096 < (aP l).length then 3 else 0
theorem qF {xs ys : List Value} {o : Nat} {v : Value} (h : xs[o]? = some v) : bV xs o (v :: ys) = bV xs (o + 1) ys := by
 unfold bV
 rw [aW h, List.length_cons, show o + (ys.length + 1) = o + 1 + ys.length by omega]
 simp
def AQ (t : TR) : TR := ⟨t.m, nR t.c.d⟩
theorem ph {X : List TR} {i : Nat} {z : TR} (h : X[i]? = some z) (y : NR) : bV (a8 TR.cells X) (i * 4 + 1) [.bool y.neg, .string y.cC, .int .i64 y.e] = a8 TR.cells (X.set i ⟨z.m, y⟩) := by
 have h0 : (a8 TR.cells X)[i * 4]? = some (.string z.m) := by
  have h1 := m7 TR.len h
  have h2 : (((a8 TR.cells X).drop (i * 4)).take 4)[0]? = some (.string z.m) := by rw [h1]; rfl
  rwa [List.getElem?_take_of_lt (by decide), List.getElem?_drop, Nat.add_zero] at h2
 rw [← qF h0]
 exact lX TR.len (y := ⟨z.m, y⟩) (List.getElem?_eq_some_iff.1 h).1
theorem hG {w0 : World} {Hr : List HE} (v : Int) (A : Option Addr) (n c : Nat) (l : List TR) (k : Nat) (w : World) (hT : gM w0) (hh : Hp w0 (.row A n c 58 4 (a8 TR.cells l) :: Hr) w) (hl : l.length = n) (hn : n ≤ 1000000) (hk : k + n ≤ 3999980) (ho : gi k l) :
  Calls Tryz.prog 93 #[.int .i64 v, .slice A n c] w fun r w' => ∃ g : PX, dm (gJ l) v (aP l) g ∧ r = .returned (.tuple #[.agg #[.int .i64 g.v, .slice g.A g.n g.c], .int .i64 (gJ l)]) ∧ Hp w0 (g.row :: Hr) w' := by
 refine ak (N := 33) (l := [.int .i64 v, .slice A n c]) Tryz.func93 rfl rfl (by simp) ?_
 refine sr ?_
 refine cj hh ?_
 intro b4 w4 hh
 refine aI (aa (sr (mL ?_)))
 replace hh := hh.perm (List.perm_middle (l₁ := [_]))
 simp only [List.cons_append, List.nil_append] at hh
 refine aH (nZ A n c l k _ (hT.hp hh) hh hl hn hk ho) ar.out rfl (by decide) ?_
 rintro e_ w8 ⟨L, A1, c1, hmd, rfl, hh⟩
 refine ⟨_, rfl, ?_⟩
 have hlen := hmd.len
 refine aH (sc A1 L.length c1 L _ As _ hh rfl (by omega) (fun z w1 _ => pZ z w1)) ar.out rfl (by decide) ?_
 rintro e_ w9 ⟨rfl, hh⟩
 refine ⟨_, rfl, ?_⟩
 rw [s8] at hh ⊢
 have hML : (L.filter qt).length ≤ L.length := List.length_filter_le _ _
 have hgl : (aP l).length = (L.filter qt).length := by rw [← hmd.aP, List.length_map]
 have hgm := hmd.aP
 have hok : gi (k + n) (L.filter qt) := fun t ht => hmd.ok t (List.mem_filter.1 ht).1
 generalize hM : L.filter qt = M at *
 by_cases h4 : 4096 < M.length
 ·rw [show gJ l = 3 by unfold gJ; rw [if_pos (by omega)]]
  refine aL (aa (ai (sr (mL (a5 ?_)))))
  refine cg (aa (cT (sr ?_)))
  refine eM [_,_] ?_
  refine bK hh 1 [_,_] ?_
  intro ws hh
  replace hh : Hp _ (_ :: .blk _ _ [_, _] _ :: _) _ := hh
  refine aI (aa (ao (aM ?_)))
  replace hh := hh.sub (List.Sublist.cons _ (List.Sublist.cons_cons _ (List.Sublist.refl _)))
  refine lB (aU rfl (aV (vs := [_, _]) aC.out (hh.aw (i := 0) (n := 2) rfl rfl) rfl) (cB (dq rfl) bg)) ?_
  exact ⟨PX.nil, dm.err (by decide), rfl, (hh.sub (List.sublist_cons_self _ _)).ja⟩
 ·rw [show gJ l = 0 by unfold gJ; rw [if_neg (by omega)]]
  refine aL (aa (ai (sr (mL (a5 ?_)))))
  refine cg (aa (cF (al (aj (ai (sr (mL (a5 (mI (aa (aq ?_)))))))))))
  refine bD [6, 16, 17, 18, 19, 20, 21, 22, 23, 24, 25, 26, 27, 28, 29] 16
   (fun v w' => ∃ (i : Nat) (X : List TR), i ≤ M.length ∧ v = .int .i64 i ∧ X.length = M.length ∧ X = (M.take i).map AQ ++ M.drop i ∧ Hp w0 (.row A1 M.length c1 58 4 (a8 TR.cells X) :: .blk b4 31 [.int .i64 0, .slice none 0 0] (0, 0) :: Hr) w')
   (fun v _ => M.length - (intOf v).toNat) ?_ ?_
  ·exact ⟨0, M, Nat.zero_le _, rfl, rfl, rfl, hh⟩
  ·clear hh
   rintro ρ' v w' ⟨i, X, hi, rfl, hX, hXe, hh⟩
   by_cases hlt : i < M.length
   ·obtain ⟨z, hz⟩ := aR (l := M) (k := i) (by omega)
    have hXz : X[i]? = some z := by
     rw [hXe, List.getElem?_append_right (by rw [List.length_map, List.length_take]; omega), List.length_map, List.length_take, Nat.min_eq_left (by omega), Nat.sub_self, List.getElem?_drop]
     exact hz
    have hzo := hok z (List.mem_of_getElem? hz)
    have hXn : X.set i ⟨z.m, nR z.c.d⟩ = (M.take (i + 1)).map AQ ++ M.drop (i + 1) := by
     rw [aW hz, List.map_append, hXe, List.set_append_right _ _ (by rw [List.length_map, List.length_take]; omega), List.length_map, List.length_take, Nat.min_eq_left (by omega), Nat.sub_self, List.append_assoc]
     congr 1
     obtain ⟨h1, h2⟩ := List.getElem?_eq_some_iff.1 hz
     rw [List.drop_eq_getElem_cons h1, h2]
     rfl
    have hrl := ij TR.len X
    obtain ⟨g0, rfl⟩ := hh.gH (i := 0) rfl (by omega)
    refine sr ?_
    refine aZ (aa (ai (cT (al (aj (ai (aq (sr (mI (aI (aa ?_)))))))))))
    refine au (mL (mI (mL (mI ?_))))
    refine bs (k := i) aJ.out aC.size rfl rfl (by omega) (by omega) (by decide) ?_
    refine bP ?_
    refine cb (vs := [_, _, _]) aC.out rfl ((hh.td (f := TR.cells) (x := z) (l := X) (i := 0) rfl TR.len (by decide) hXz).drop 1) rfl (by decide) ?_
    refine bE hh (ea z.c _ (hT.hp hh) (by have := hzo.1.1; omega) (by have := hzo.1.2.1; omega) (by have := hzo.1.2.2; omega)) rfl ?_
    intro w26 hh
    refine bs (k := i) aJ.out aC.size rfl rfl (by omega) (by omega) (by decide) ?_
    refine bP ?_
    refine br hh (i := 0) (vs := [_, _, _]) rfl rfl (bq rfl) rfl aC.out rfl (by omega) rfl ?_
    intro ws hh
    simp only [List.set_cons_zero] at hh
    rw [ph hXz, hXn] at hh
    refine aK (a3 (aj (au ?_)))
    refine bO (mI (aK (aj ?_)))
    refine ⟨⟨i + 1, _, by omega, rfl, ?_, rfl, hh⟩, by show M.length - (i + 1) < M.length - i; omega, ?_⟩
    ·rw [← hXn, List.length_set, hX]
    ·(repeat (first | exact aA _ _ _ | refine aE rfl ?_ | refine ax rfl ?_))
   ·obtain rfl : i = M.length := by omega
    rw [List.take_of_length_le (Nat.le_refl _), List.drop_of_length_le (Nat.le_refl _), List.append_nil] at hXe
    have hXg : X = aP l := by rw [hXe]; exact hgm
    rw [hXg] at hh
    refine sr ?_
    refine aZ (aa (ai (cF ?_)))
    refine a4 ?_
    refine aD (aD (bp (aj (sr (mI (mL ?_))))))
    refine eM [_,_] ?_
    refine bK hh 1 [_,_] ?_
    intro ws hh
    replace hh : Hp _ (_ :: .blk _ _ [_, _] _ :: _) _ := hh
    refine aI (aa (ao ?_))
    refine lB (aU rfl (aV (vs := [_, _]) aC.out (hh.aw (i := 1) (n := 2) rfl rfl) rfl) (cB (dq rfl) bg)) ?_
    exact ⟨⟨v, A1, M.length, c1, aP l⟩, ⟨rfl, rfl⟩, rfl, hh.sub (List.Sublist.cons_cons _ (List.Sublist.cons _ (List.Sublist.refl _)))⟩
end Go.Proofs.YtkgdagjklakajaaGreatDoor
