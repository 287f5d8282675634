/- Lemmas for castParts, part 4. -/
import Derived.LaidMore
import Derived.Lay
import Derived.Deep.Slices
import Derived.Stop.Joined
import Derived.Deep.Strs
import Derived.Lib.SliceRun
import Derived.Test.YtioilmppidlbnaaGreatDoorZ3
/- Several texts in one: RefA, RefB, RefC, RefD. -/
namespace Go.Proofs.YtioilmppidlbnaaGreatDoor
open Go.RowKit
theorem Sl.Ak {w : World} {A : Option Addr} {n : Nat} {xs : List Nat} (h : Sl w A n 1 (ff xs)) {k : Nat} (hk : k ≤ n) : Sl w A k 1 (ff (xs.take k)) := by
 have hl := h.1
 rw [cj] at hl
 refine ⟨by rw [cj, List.length_take]; omega, fun h0 => ?_⟩
 obtain ⟨ad, he, hr⟩ := h.2 (by omega)
 exact ⟨ad, he, by rw [qP]; exact hr.take k⟩
theorem Sl.zV {w : World} {A : Option Addr} {n : Nat} {xs : List Nat} (h : Sl w A n 1 (ff xs)) : Sl w A (dh xs).length 1 (ff (dh xs)) := by
 have hl := h.1
 rw [cj] at hl
 have := eB xs
 have h2 := h.Ak (k := (dh xs).length) (by omega)
 rwa [← gO] at h2
theorem Hp.zn {w0 w : World} {H : List HE} {A : Option Addr} {n c : Nat} {t : TypeId} {xs : List Nat} (h : Hp w0 (.row A n c t 1 (ff xs) :: H) w) (hl : xs.length = n) : Hp w0 (.row A (dh xs).length c t 1 (ff (dh xs)) :: H) w := by
 have h1 := eB xs
 have h2 := h.vy (k := (dh xs).length) (by omega)
 rw [Nat.mul_one, ← qP, ← gO] at h2
 exact h2
theorem iP (A : Option Addr) (n c : Nat) (xs : List Nat) (w : World) (hx : Sl w A n 1 (ff xs)) (hc : n ≤ c) (hn : n ≤ 1000000000000) :
  Calls Tryz.prog 193 #[.slice A n c] w fun e w' => e = .returned (.slice A (dh xs).length c) ∧ Below w.heap.size w w' := by
 have hlen : xs.length = n := by have := hx.1; rw [cj] at this; omega
 have hh := Hp.start w
 refine aj (N := 21) (l := [.slice A n c]) Tryz.func193 rfl rfl (by simp) ?_
 refine sr (aL (aa (sr (mL (a7 (aI (aa (ah (al ?_)))))))))
 refine bx [3, 6, 7, 8, 9, 10, 11, 12, 13, 14, 15, 16, 17] 3
  (fun v w' => ∃ k : Nat, k ≤ n ∧ v = .int .i64 k ∧ dh (xs.take k) = dh xs ∧ w' = w)
  (fun v _ => (intOf v).toNat) ?_ ?_
 ·exact ⟨n, Nat.le_refl _, rfl, by rw [List.take_of_length_le (by omega)], rfl⟩
 ·rintro ρ' v w' ⟨k, hk, rfl, hcut, rfl⟩
  by_cases h0 : k = 0
  ·subst h0
   refine ah (sr (mI ?_))
   refine bO (mB ?_)
   first | refine gS ?_ | (refine gT ?_; refine mL ?_) | refine gV ?_
   first | refine gS ?_ | (refine gT ?_; refine mI ?_) | refine gV ?_
   first | refine gS ?_ | (refine gT ?_; refine eo ?_) | refine gV ?_
   first | refine gS ?_ | (refine gT ?_; refine cq aN.out aA.size rfl rfl (by omega) (by omega) (by decide) ?_) | refine gV ?_
   first | (refine cG (by decide) rfl rfl (by decide) ?_) | (refine wl_guard_skipV (by decide) rfl rfl ?_)
   first | refine gS ?_ | (refine gT ?_; refine cV ?_) | refine gV ?_
   first | refine db ?_ | refine de ?_
   refine aa (cF ?_)
   refine aY ?_
   refine ay (ay (bm (ai (sr (mL (mI ?_))))))
   refine nH (h := 0) aN.out aA.size rfl rfl (by omega) (by omega) (by decide) ?_
   refine aL (aa (ao ?_))
   refine cx ?_
   rw [← hcut]
   exact ⟨rfl, hh.below⟩
  ·obtain ⟨j, rfl⟩ : ∃ j, k = j + 1 := ⟨k - 1, by omega⟩
   obtain ⟨d, hd⟩ := aO (l := xs) (k := j) (by omega)
   obtain ⟨ad, rfl, hr⟩ := hx.at_ (by omega)
   have hd2 := kv hd
   rw [a9 hd] at hcut
   by_cases hz : d = 0
   ·subst hz
    rw [m5] at hcut
    refine ah (sr (mI ?_))
    refine bO (mB ?_)
    first | refine gS ?_ | (refine gT ?_; refine mL ?_) | refine gV ?_
    first | refine gS ?_ | (refine gT ?_; refine mI ?_) | refine gV ?_
    first | refine gS ?_ | (refine gT ?_; refine eo ?_) | refine gV ?_
    first | refine gS ?_ | (refine gT ?_; refine aX (k := j) aN.out aA.size rfl rfl (by omega) (by omega) (by decide) ?_) | refine gV ?_
    first | refine gS ?_ | (refine gT ?_; refine aV aA.out rfl ((hr.ext hh.below).fJ (by assumption)) (by decide) ?_) | refine gV ?_
    first | refine gS ?_ | (refine gT ?_; refine cV ?_) | refine gV ?_
    first | refine db ?_ | refine de ?_
    refine aa (cT (ak (ai (al (aq (mI ?_))))))
    refine eo (aI (aD (a0 (ai ?_))))
    refine ⟨⟨j, by omega, by show Value.int _ _ = Value.int _ _; congr 1; omega, hcut, rfl⟩, by show (((j + 1 : Nat) : Int) - 1).toNat < (((j + 1 : Nat) : Int)).toNat; omega, ?_⟩
    (repeat (first | exact aw _ _ _ | refine az rfl ?_ | refine au rfl ?_))
   ·rw [oA hz] at hcut
    refine ah (sr (mI ?_))
    refine bO (mB ?_)
    first | refine gS ?_ | (refine gT ?_; refine mL ?_) | refine gV ?_
    first | refine gS ?_ | (refine gT ?_; refine mI ?_) | refine gV ?_
    first | refine gS ?_ | (refine gT ?_; refine eo ?_) | refine gV ?_
    first | refine gS ?_ | (refine gT ?_; refine aX (k := j) aN.out aA.size rfl rfl (by omega) (by omega) (by decide) ?_) | refine gV ?_
    first | refine gS ?_ | (refine gT ?_; refine aV aA.out rfl ((hr.ext hh.below).fJ (by assumption)) (by decide) ?_) | refine gV ?_
    first | refine gS ?_ | (refine gT ?_; refine cV ?_) | refine gV ?_
    first | refine db ?_ | refine de ?_
    refine aa (cF ?_)
    refine aY ?_
    refine ay (ay (bm (ai (sr (mL (mI ?_))))))
    refine nH (h := j + 1) aN.out aA.size rfl rfl (by omega) (by omega) (by decide) ?_
    refine aL (aa (ao ?_))
    refine cx ?_
    rw [← hcut, List.length_append, List.length_take, Nat.min_eq_left (by omega)]
    exact ⟨rfl, hh.below⟩
theorem uj {s : List UInt8} {j k : Nat} {c : UInt8} (hc : (qH s)[j]? = some c.toNat) (hk : k < 8) : c.toNat / 2 ^ k % 2 = bn s / 2 ^ (8 * j + k) % 2 := by
 have h1 := mC (ph s) hc
 rw [← h1, ← bn, Nat.pow_add, Nat.pow_mul, show (2 ^ 8 : Nat) = 256 from rfl, ← Nat.div_div_eq_div_mul]
 generalize bn s / 256 ^ j = m
 have e : (256 : Nat) = 2 ^ k * 2 ^ (8 - k) := by rw [← Nat.pow_add, show k + (8 - k) = 8 by omega]
 have e2 : 2 ^ (8 - k) = 2 * 2 ^ (7 - k) := by rw [← Nat.pow_succ']; congr 1; omega
 rw [e, Nat.mod_mul_right_div_self, e2, Nat.mod_mul_right_mod]
theorem cn (a : ByteArray) (w : World) (ha : a.size ≤ 1000000000) :
  Calls Tryz.prog 152 #[.string a] w fun e w' => ∃ A c, e = .returned (.slice A (aR 2 (bN a)).length c) ∧ w'.ownsRow w.heap.size 5 1 (.slice A (aR 2 (bN a)).length c) (aR 2 (bN a)).length (ff (aR 2 (bN a))) ∧ Below w.heap.size w w' := by
 have hsz := iV a
 have hh := Hp.start w
 refine aj (N := 28) (l := [.string a]) Tryz.func152 rfl rfl (by simp) ?_
 refine sr (aL (aa (sr (aL (aa (ah (sr (mS ?_))))))))
 refine cD aN.out rfl (by decide) ?_
 refine eo (aI (aa (al ?_)))
 replace hh := hh.eW 5 1
 refine bY [3, 4, 5, 9, 10, 11, 12, 13, 14, 15, 16, 17, 18, 19, 20, 21, 22, 23, 24, 25] 3 4
  (fun o v w' => ∃ (j : Nat) (A : Option Addr) (c : Nat), j ≤ a.size ∧ v = .int .i64 ((a.size : Int) - 1 - j) ∧ o = .slice A (8 * j) c ∧ Hp w [.row A (8 * j) c 5 1 (ff (bH 2 (8 * j) (bN a)))] w')
  (fun _ v _ => (intOf v + 1).toNat) ?_ ?_
 ·exact ⟨0, none, 0, Nat.zero_le _, by show Value.int _ _ = Value.int _ _; congr 1; omega, rfl, hh⟩
 ·clear hh
  rintro ρ' o v w' ⟨j, A, c, hj, rfl, rfl, hh⟩
  by_cases hlt : j < a.size
  ·obtain ⟨ch, hc⟩ := aO (l := a.data.toList) (k := ((a.size : Int) - 1 - j).toNat) (by omega)
   have hlo := u1 (s := a.data.toList) (i := j) (c := ch) (by omega) (by rw [← hc]; congr 1; omega)
   have hc8 := ch.toNat_lt
   refine ah (sr (mI ?_))
   refine dn (aa (cT (ak (ai (ah (al (sr (aI (aa (al ?_))))))))))
   refine bY [3, 5, 13, 14, 15, 16, 17, 18, 19, 20, 21, 22, 23, 24, 25] 3 5
    (fun o v w' => ∃ (k : Nat) (A : Option Addr) (c : Nat), k ≤ 8 ∧ v = .int .i64 (k : Int) ∧ o = .slice A (8 * j + k) c ∧ Hp w [.row A (8 * j + k) c 5 1 (ff (bH 2 (8 * j + k) (bN a)))] w')
    (fun _ v _ => 8 - (intOf v).toNat) ?_ ?_
   ·exact ⟨0, A, c, Nat.zero_le _, rfl, rfl, hh⟩
   ·clear hh
    rintro ρ2 o v w2 ⟨k, A2, c2, hk, rfl, rfl, hh⟩
    by_cases hk8 : k < 8
    ·have hst := uj hlo hk8
     have hand : ∀ z : Nat, z &&& 1 = z % 2 := fun z => Nat.and_one_is_mod z
     have hcl : ch.toNat / 2 ^ (k : Int).toNat < 256 := Nat.lt_of_le_of_lt (Nat.div_le_self _ _) hc8
     refine ah (sr (mI ?_))
     refine aK (aa (cT (ak (ai (ah (al (aq (mL (mS (mI ?_))))))))))
     refine bU aN.out rfl rfl (by omega) (by assumption) (by decide) ?_
     refine mI ?_
     refine rM rfl rfl (by omega) (by decide) ?_
     refine jf (b := 1) rfl rfl (by first | assumption | omega) (by first | assumption | omega) (by decide) ?_
     refine bo hh (cs := [_]) aN.out aA.out (a6 (bM rfl) bR) rfl rfl (by decide) (by decide) (by decide) rfl (by decide) ?_
     intro b24 w24 hh
     refine df hh (i := 1) rfl rfl rfl (hh.bf (i := 0) rfl) aN.out aA.out rfl (by decide) (by first | rfl | exact dr _ | exact cH _ | exact bW _ | exact cz NR.one _) (by omega) (by omega) (by decide) ?_
     intro A25 c25 w25 hh
     simp only [List.set_cons_zero, List.set_cons_succ] at hh
     replace hh := hh.sub (List.sublist_cons_self _ _)
     refine aL (aD (a0 (ai (aq (mI ?_)))))
     refine bz (aI (aD (ai ?_)))
     have e1 : ff (bH 2 (8 * j + k) (bN a)) ++ [Value.int .u8 ((ch.toNat / 2 ^ (k : Int).toNat &&& 1 : Nat) : Int)] = ff (bH 2 (8 * j + (k + 1)) (bN a)) := by
      rw [hand, Int.toNat_natCast, hst, ← Nat.add_assoc, iD, mX]; rfl
     rw [e1] at hh
     refine ⟨⟨k + 1, A25, c25, by omega, rfl, rfl, hh⟩, by show 8 - (k + 1) < 8 - k; omega, ?_⟩
     (repeat (first | exact aw _ _ _ | refine az rfl ?_ | refine au rfl ?_))
    ·obtain rfl : k = 8 := by omega
     refine ah (sr (mI ?_))
     refine aK (aa (cF ?_))
     refine aY ?_
     refine ay (ay (bm (a0 (ai (aq (mI ?_))))))
     refine eo (aI (aD (ai ?_)))
     refine ⟨⟨j + 1, A2, c2, by omega, by show Value.int _ _ = Value.int _ _; congr 1; omega, rfl, hh⟩, by show ((a.size : Int) - 1 - j - 1 + 1).toNat < ((a.size : Int) - 1 - j + 1).toNat; omega, ?_⟩
     (repeat (first | exact aw _ _ _ | refine az rfl ?_ | refine au rfl ?_))
  ·obtain rfl : j = a.size := by omega
   refine ah (sr (mI ?_))
   refine dn (aa (cF ?_))
   refine aY ?_
   refine ay (ay (bm (ai (sr (mL ?_)))))
   refine bB hh (iP _ _ _ (bH 2 (8 * a.size) (bN a)) _ (hh.bf (i := 0) rfl) (hh.cU (i := 0) rfl) (by omega)) rfl ?_
   intro w27 hh
   refine aL (aa (ao ?_))
   refine cx ?_
   have hb := oY a
   rw [show (256 : Nat) = 2 ^ 8 from rfl, ← Nat.pow_mul] at hb
   have hd : dh (bH 2 (8 * a.size) (bN a)) = aR 2 (bN a) := by
    rw [eF (by omega) (dE (by omega) _ _), bT hb]
   have h1 := (Hp.zn (xs := bH 2 (8 * a.size) (bN a)) hh (aP _ _)).at_ (i := 0) rfl
   rw [hd] at h1
   rw [hd]
   exact ⟨_, _, rfl, h1, hh.below⟩
theorem xi {l : List Nat} {j v : Nat} (h : j < l.length) : l.reverse.set (l.length - 1 - j) v = (l.set j v).reverse := by
 apply List.ext_getElem?
 intro i
 rcases Nat.lt_or_ge i l.length with hi | hi
 ·rw [List.getElem?_reverse (by rw [List.length_set]; exact hi), List.length_set, List.getElem?_set, List.getElem?_set, List.getElem?_reverse hi, List.length_reverse]
  by_cases he : l.length - 1 - j = i
  ·rw [if_pos he, if_pos (by omega), if_pos (by omega), if_pos h]
  ·rw [if_neg he, if_neg (by omega)]
 ·rw [List.getElem?_eq_none (by simp; omega), List.getElem?_eq_none (by simp; omega)]
theorem r8 {i b k : Nat} (P : Nat) (hP : P < 2 ^ i) (hb : b < 2) (hk : i / 8 < k) : P / 256 ^ (i / 8) % 256 + b * 2 ^ (i % 8) < 256 ∧ (bH 256 k P).set (i / 8) (P / 256 ^ (i / 8) % 256 + b * 2 ^ (i % 8)) = bH 256 k (P + 2 ^ i * b) := by
 have hp : 2 ^ i = 256 ^ (i / 8) * 2 ^ (i % 8) := by
  rw [show (256 : Nat) = 2 ^ 8 from rfl, ← Nat.pow_mul, ← Nat.pow_add]; congr 1; omega
 have h1 : P / 256 ^ (i / 8) < 2 ^ (i % 8) := by
  rw [Nat.div_lt_iff_lt_mul (Nat.pow_pos (by omega)), Nat.mul_comm, ← hp]; exact hP
 have h2 : 2 ^ (i % 8) ≤ 128 := by
  have := Nat.pow_le_pow_right (show 0 < 2 by omega) (show i % 8 ≤ 7 by omega)
  omega
 have h3 : P / 256 ^ (i / 8) % 256 < 2 ^ (i % 8) := Nat.lt_of_le_of_lt (Nat.mod_le _ _) h1
 have h4 : b * 2 ^ (i % 8) ≤ 1 * 2 ^ (i % 8) := Nat.mul_le_mul_right _ (by omega)
 have h5 : 2 ^ i * b = 256 ^ (i / 8) * (b * 2 ^ (i % 8)) := by rw [hp, Nat.mul_assoc, Nat.mul_comm b]
 refine ⟨by omega, ?_⟩
 rw [h5]
 refine kA (by omega) hk ?_ (by omega)
 rw [← h5]
 have h6 : 2 ^ i * b ≤ 2 ^ i * 1 := Nat.mul_le_mul_left _ (by omega)
 have h7 : 2 ^ (i + 1) ≤ 256 ^ k := by
  rw [show (256 : Nat) = 2 ^ 8 from rfl, ← Nat.pow_mul]
  exact Nat.pow_le_pow_right (by omega) (by omega)
 rw [Nat.pow_succ] at h7
 omega
theorem du (A : Option Addr) (n c : Nat) (xs : List Nat) (w : World) (hx : Sl w A n 1 (ff xs)) (hd : Dg 2 xs) (hc : n ≤ c) (hn : n ≤ 100000000000) :
  Calls Tryz.prog 188 #[.slice A n c] w fun e w' => e = .returned (.string (sN (bq 2 xs))) ∧ Below w.heap.size w w' := by
 have hl := hx.1
 rw [cj] at hl
 have hcl := eB xs
 have hcx := hx.zV
 have hcan := eF (by omega) hd
 have hlen := sA (bq 2 xs)
 rw [hcan] at hcl hcx
 have hcd := (cZ (B := 2) (by omega) (bq 2 xs)).1
 have hcv := dm (B := 2) (by omega) (bq 2 xs)
 have hbl : (aR 2 (bq 2 xs)).length = bu (bq 2 xs) := rfl
 have hh := Hp.start w
 refine aj (N := 38) (l := [.slice A n c]) Tryz.func188 rfl rfl (by simp) ?_
 refine sr (aS (aa (sr (mL ?_))))
 refine bB hh (iP _ _ _ xs _ hx hc (by omega)) rfl ?_
 intro w6 hh
 rw [hcan]
 generalize bq 2 xs = M at *
 generalize aR 2 M = xs' at *
 refine aL (aa (sr (mL (a7 ?_))))
 refine bz ?_
 refine gk rfl rfl (by omega) (by omega) (by omega) (by decide) ?_
 refine gn (n := (xs'.length + 7) / 8) hh rfl rfl (by omega) (by omega) aN.out aA.out rfl (by omega) (by omega) (by decide) ?_
 intro b11 w11 hh
 refine aL (aa (ah (sr (aI (aa (al ?_))))))
 rw [kV] at hh
 refine bx [4, 12, 13, 14, 15, 16, 17, 18, 19, 20, 21, 22, 23, 24, 25, 26, 27, 28, 29, 30, 31, 32, 33, 34, 35] 4
  (fun v w' => ∃ i : Nat, i ≤ xs'.length ∧ v = .int .i64 i ∧ Hp w [.row (some ⟨b11, 0, none⟩) ((xs'.length + 7) / 8) ((xs'.length + 7) / 8) 5 1 (ff (bH 256 ((xs'.length + 7) / 8) (bq 2 (xs'.take i))).reverse)] w')
  (fun v _ => xs'.length - (intOf v).toNat) ?_ ?_
 ·exact ⟨0, Nat.zero_le _, rfl, by rw [List.take_zero, bq, lC, List.reverse_replicate]; exact hh⟩
 ·clear hh
  rintro ρ' v w' ⟨i, hi, rfl, hh⟩
  by_cases hlt : i < xs'.length
  ·obtain ⟨d, hdi⟩ := aO (l := xs') (k := i) (by omega)
   obtain ⟨ad, rfl, hr⟩ := hcx.at_ (by omega)
   have hd2 := kv hdi
   have hdw := hcd.at_ hdi
   have hP := fL (hcd.take i)
   rw [List.length_take, Nat.min_eq_left (by omega)] at hP
   obtain ⟨s1, s2⟩ := r8 (k := (xs'.length + 7) / 8) (bq 2 (xs'.take i)) hP hdw (by omega)
   have hg : (bH 256 ((xs'.length + 7) / 8) (bq 2 (xs'.take i))).reverse[(xs'.length + 7) / 8 - 1 - i / 8]? = some (bq 2 (xs'.take i) / 256 ^ (i / 8) % 256) := by
    rw [List.getElem?_reverse (by rw [aP]; omega), aP, show (xs'.length + 7) / 8 - 1 - ((xs'.length + 7) / 8 - 1 - i / 8) = i / 8 by omega]
    exact fV _ _ _ (by omega)
   have hg2 := kv hg
   have e1 : ((i : Int) % 8).toNat = i % 8 := by omega
   have hset := xi (l := bH 256 ((xs'.length + 7) / 8) (bq 2 (xs'.take i))) (j := i / 8) (v := bq 2 (xs'.take i) / 256 ^ (i / 8) % 256 + d * 2 ^ (i % 8)) (by rw [aP]; omega)
   rw [aP, s2] at hset
   refine ah (sr (mI (mL (a7 ?_))))
   refine aK (aa (cT (ak (ai (ah (al ?_))))))
   refine aE 16 [[(3, none)], [(3, none)], [(19, some 1)], [(20, some 2)], [(4, none)], [(22, some 4)], [(21, some 3), (23, some 5)], [(18, some 0), (24, some 6)], [(25, some 7)], [(0, none)], [(4, none)], [(27, some 9), (28, some 10)], [(29, some 11)], [(4, none)], [(31, some 13)], [(30, some 12), (32, some 14)]] [(15, 33), (14, 32), (13, 31), (12, 30), (11, 29), (10, 28), (9, 27), (8, 26), (7, 25), (6, 24), (5, 23), (4, 22), (3, 21), (2, 20), (1, 19), (0, 18)] hh mixed (by kernel_rfl) ?_
   refine g6 ?_
   refine g6 ?_
   refine qa ?_
   refine kg ?_
   refine dk ?_
   refine bh (i := 5) (fun ρ1 w1 hj hR => jv (show ρ1 22 = Value.int _ _ from hR.1) rfl (by omega) (by omega) (by omega)) ?_
   refine kg ?_
   refine wJ ((xs'.length + 7) / 8 - 1 - i / 8) ?_
   refine bh (i := 8) (fun ρ1 w1 hj hR => dt aA.out (show ρ1 25 = Value.pointer _ from hR.1) (hj.hp.cE (i := 0) rfl (by rw [Nat.mul_one]; exact hg2))) ?_
   refine g6 ?_
   refine dk ?_
   refine l7 (i) ?_
   refine pJ (fun _ hj => (hr.ext hj.hp.below).fJ hd2) ?_
   refine dk ?_
   refine bh (i := 14) (fun ρ1 w1 hj hR => j9 (show ρ1 31 = Value.int _ _ from hR.1) rfl (by omega) (by omega)) ?_
   refine bh (i := 15) (fun ρ1 w1 hj hR => nS (show ρ1 30 = Value.int _ _ from hR.1) (show ρ1 32 = Value.int _ _ from hR.2.1) (by omega)) ?_
   refine aW ?_
   intro f W hJ hV
   have hb_6 := hJ.bl
   obtain ⟨v33, v32, v31, v30, v29, v28, v27, v26, v25, v24, v23, v22, v21, v20, v19, v18, _⟩ := hV
   replace hh := hJ.hp
   refine aJ (aZ (ae v33 (ae v32 (ae v31 (ae v30 (ae v29 (ae v28 (ae v27 (ae v26 (ae v25 (ae v24 (ae v23 (ae v22 (ae v21 (ae v20 (ae v19 (ae v18 aH))))))))))))))))) ?_
   dsimp only [bQ]
   clear hJ
   refine fQ rfl rfl (by decide) ?_
   refine bA (k := (xs'.length + 7) / 8 - 1 - i / 8) aN.out aA.size rfl rfl (by omega) (by omega) (by decide) ?_
   refine bF hh (i := 0) (vs := [_]) rfl rfl (bM rfl) rfl aA.out rfl (by rw [cj, List.length_reverse, aP]; omega) rfl ?_
   intro ws hh
   simp only [List.set_cons_zero] at hh
   rw [e1, Nat.mod_eq_of_lt (show d * 2 ^ (i % 8) < 256 by omega), Nat.mod_eq_of_lt s1, Nat.mul_one, cd (by rw [cj, List.length_reverse, aP]; omega), jQ, hset, ← dP hdi] at hh
   refine aD (a0 (ai (aq (mI ?_))))
   refine bz (aI (aD (ai ?_)))
   refine ⟨⟨i + 1, by omega, rfl, hh⟩, by show xs'.length - (i + 1) < xs'.length - i; omega, ?_⟩
   (repeat (first | exact aw _ _ _ | refine az rfl ?_ | refine au rfl ?_))
  ·obtain rfl : i = xs'.length := by omega
   rw [List.take_length, hcv, hbl] at hh
   have hfin : ff (bH 256 ((bu M + 7) / 8) M).reverse = ky (sb M) := by
    rw [← hlen]
    have h1 : M < 256 ^ (aR 256 M).length := jL (by omega) M
    rw [qY (by omega) h1, Nat.sub_self, List.replicate_zero, List.append_nil, oN (fun d hd => (cZ (B := 256) (by omega) M).1 d (List.mem_reverse.1 hd)), sb, List.map_reverse]
   rw [hfin, ← hbl] at hh
   refine ah (sr (mI (mL (a7 ?_))))
   refine aK (aa (cF ?_))
   refine aY ?_
   refine ay (ay (bm (ai (sr (mL ?_)))))
   refine lZ aN.out aN.out aN.out rfl (hh.bf (i := 0) rfl) (by decide) ?_
   refine aS (aa (ao ?_))
   refine cx ?_
   exact ⟨rfl, hh.below⟩
end Go.Proofs.YtioilmppidlbnaaGreatDoor
namespace Go.Proofs.YtioilmppidlbnaaGreatDoor
open Go.RowKit
theorem wP {xs : List Nat} (h : Dg 2 xs) (i : Nat) : bq 2 xs / 2 ^ i % 2 = (xs[i]?).getD 0 := by
 cases hi : xs[i]? with
 | some d => exact mC h hi
 | none =>
  rw [mW h (List.getElem?_eq_none_iff.1 hi) (by omega)]; rfl
theorem cI (A : Option Addr) (n c i : Nat) (xs : List Nat) (w : World) (hx : Sl w A n 1 (ff xs)) (hd : Dg 2 xs) (hn : n ≤ 1000000000000) (hi : i ≤ 1000000000000) :
  Calls Tryz.prog 217 #[.slice A n c, .int .i64 (i : Int)] w fun e w' => e = .returned (.int .u8 ((bq 2 xs / 2 ^ i % 2 : Nat) : Int)) ∧ Below w.heap.size w w' := by
 have hl := hx.1
 rw [cj] at hl
 have hh := Hp.start w
 rw [wP hd]
 by_cases hlt : i < n
 ·obtain ⟨d, hdi⟩ := aO (l := xs) (k := i) (by omega)
  obtain ⟨ad, rfl, hr⟩ := hx.at_ (by omega)
  have hd2 := kv hdi
  rw [hdi]
  refine aj (N := 13) (l := [.slice (some ad) n c, .int .i64 (i : Int)]) Tryz.func217 rfl rfl (by simp) ?_
  refine sr (aI (aa (ah (sr (mI (mL (a7 ?_)))))))
  refine aK (aa (cT (sr (mL (mI ?_)))))
  refine aX (k := i) aN.out aA.size rfl rfl (by omega) (by omega) (by decide) ?_
  refine aV aA.out rfl ((hr.ext hh.below).fJ (by assumption)) (by decide) ?_
  refine aI (aa (ao (aQ ?_)))
  refine cx ?_
  exact ⟨rfl, hh.below⟩
 ·rw [List.getElem?_eq_none (by omega)]
  refine aj (N := 13) (l := [.slice A n c, .int .i64 (i : Int)]) Tryz.func217 rfl rfl (by simp) ?_
  refine sr (aI (aa (ah (sr (mI (mL (a7 ?_)))))))
  refine aK (aa (cF (ak (ai (sr (aI (aa (ao ?_))))))))
  refine cx ?_
  exact ⟨rfl, hh.below⟩
theorem iQ (X i : Nat) : X / 2 ^ i = 2 * (X / 2 ^ (i + 1)) + X / 2 ^ i % 2 := by
 rw [Nat.pow_succ, ← Nat.div_div_eq_div_mul]; omega
theorem oI {X Y k : Nat} (h : X / 2 ^ k < Y / 2 ^ k) : X < Y := by
 refine Nat.lt_of_not_le fun h2 => ?_
 have := Nat.div_le_div_right (c := 2 ^ k) h2
 omega
theorem ju (A B : Option Addr) (n c m c' : Nat) (xs ys : List Nat) (w : World) (hx : Sl w A n 1 (ff xs)) (hy : Sl w B m 1 (ff ys)) (hdx : Dg 2 xs) (hdy : Dg 2 ys) (hn : n ≤ 100000000000) (hm : m ≤ 100000000000) :
  Calls Tryz.prog 216 #[.slice A n c, .slice B m c'] w fun e w' => e = .returned (.int .i64 (il (bq 2 xs) (bq 2 ys))) ∧ Below w.heap.size w w' := by
 have hlx := hx.1
 have hly := hy.1
 rw [cj] at hlx hly
 have hh := Hp.start w
 have e1 : (if (m : Int) > (n : Int) then (m : Int) else (n : Int)) - 1 = ((max n m : Nat) : Int) - 1 := by split <;> omega
 refine aj (N := 30) (l := [.slice A n c, .slice B m c']) Tryz.func216 rfl rfl (by simp) ?_
 refine sr (aI (aa (ah (sr (mL (a7 (mL (a7 ?_))))))))
 refine jb rfl rfl (by decide) ?_
 refine eo (aI (aa (al ?_)))
 rw [e1]
 refine bx [4, 5, 12, 13, 14, 15, 16, 17, 18, 19, 20, 21, 22, 23, 24, 25, 26, 27, 28, 29] 5
  (fun v w' => ∃ k : Nat, k ≤ max n m ∧ v = .int .i64 ((k : Int) - 1) ∧ bq 2 xs / 2 ^ k = bq 2 ys / 2 ^ k ∧ Hp w [] w')
  (fun v _ => (intOf v + 1).toNat) ?_ ?_
 ·exact ⟨max n m, Nat.le_refl _, rfl, by rw [mW hdx (by omega) (by omega), mW hdy (by omega) (by omega)], hh⟩
 ·clear hh
  rintro ρ' v w' ⟨k, hk, rfl, heq, hh⟩
  by_cases h0 : k = 0
  ·subst h0
   refine ah (sr (mI ?_))
   refine dn (aa (cF ?_))
   refine aY ?_
   refine ay (ay (bm (ai (sr (aI (aa (ao ?_)))))))
   refine cx ?_
   rw [Nat.pow_zero, Nat.div_one, Nat.div_one] at heq
   exact ⟨by rw [s7 heq], hh.below⟩
  ·obtain ⟨j, rfl⟩ : ∃ j, k = j + 1 := ⟨k - 1, by omega⟩
   have hj : ((j + 1 : Nat) : Int) - 1 = (j : Int) := by omega
   have hXb := iQ (bq 2 xs) j
   have hYb := iQ (bq 2 ys) j
   by_cases hlt : bq 2 xs / 2 ^ j % 2 < bq 2 ys / 2 ^ j % 2
   ·have hf : bq 2 xs < bq 2 ys := oI (k := j) (by omega)
    rw [hj]
    refine ah (sr (mI ?_))
    refine dn (aa (cT (ak (ai (ah (al (ah (sr (mL (mI ?_))))))))))
    refine bB hh (cI A n c j xs _ (hx.ext hh.below) hdx (by omega) (by omega)) rfl ?_
    intro w18 hh
    refine mL (mI ?_)
    refine bB hh (cI B m c' j ys _ (hy.ext hh.below) hdy (by omega) (by omega)) rfl ?_
    intro w21 hh
    refine aK (aa (cT (sr (aI (aa (ao (aQ (bZ (aQ (aQ (bZ ?_)))))))))))
    refine aQ ?_
    refine cx ?_
    exact ⟨by rw [iU hf], hh.below⟩
   ·by_cases hgt : bq 2 ys / 2 ^ j % 2 < bq 2 xs / 2 ^ j % 2
    ·have hf : bq 2 ys < bq 2 xs := oI (k := j) (by omega)
     rw [hj]
     refine ah (sr (mI ?_))
     refine dn (aa (cT (ak (ai (ah (al (ah (sr (mL (mI ?_))))))))))
     refine bB hh (cI A n c j xs _ (hx.ext hh.below) hdx (by omega) (by omega)) rfl ?_
     intro w18 hh
     refine mL (mI ?_)
     refine bB hh (cI B m c' j ys _ (hy.ext hh.below) hdy (by omega) (by omega)) rfl ?_
     intro w21 hh
     refine aK (aa (cF (ak (ai (sr (mL (mI ?_)))))))
     refine bB hh (cI A n c j xs _ (hx.ext hh.below) hdx (by omega) (by omega)) rfl ?_
     intro w25 hh
     refine mL (mI ?_)
     refine bB hh (cI B m c' j ys _ (hy.ext hh.below) hdy (by omega) (by omega)) rfl ?_
     intro w28 hh
     refine bO (aa (cT (sr (aI (aa (ao (bZ (aQ (aQ (bZ (aQ ?_)))))))))))
     refine cx ?_
     exact ⟨by rw [pz hf], hh.below⟩
    ·rw [hj]
     refine ah (sr (mI ?_))
     refine dn (aa (cT (ak (ai (ah (al (ah (sr (mL (mI ?_))))))))))
     refine bB hh (cI A n c j xs _ (hx.ext hh.below) hdx (by omega) (by omega)) rfl ?_
     intro w18 hh
     refine mL (mI ?_)
     refine bB hh (cI B m c' j ys _ (hy.ext hh.below) hdy (by omega) (by omega)) rfl ?_
     intro w21 hh
     refine aK (aa (cF (ak (ai (sr (mL (mI ?_)))))))
     refine bB hh (cI A n c j xs _ (hx.ext hh.below) hdx (by omega) (by omega)) rfl ?_
     intro w25 hh
     refine mL (mI ?_)
     refine bB hh (cI B m c' j ys _ (hy.ext hh.below) hdy (by omega) (by omega)) rfl ?_
     intro w28 hh
     refine bO (aa (cF (ak (a0 (ai (aq (mI ?_)))))))
     refine eo (aI (aD (ai ?_)))
     refine ⟨⟨j, by omega, rfl, by omega, hh⟩, by show ((j : Int) - 1 + 1).toNat < ((j : Int) + 1).toNat; omega, ?_⟩
     (repeat (first | exact aw _ _ _ | refine az rfl ?_ | refine au rfl ?_))
theorem xe (S T i : Nat) : (S + T) / 2 ^ i % 2 = (S / 2 ^ i % 2 + (S % 2 ^ i + T % 2 ^ i) / 2 ^ i + T / 2 ^ i % 2) % 2 ∧ (S % 2 ^ (i + 1) + T % 2 ^ (i + 1)) / 2 ^ (i + 1) = (S / 2 ^ i % 2 + (S % 2 ^ i + T % 2 ^ i) / 2 ^ i + T / 2 ^ i % 2) / 2 ∧ (S % 2 ^ i + T % 2 ^ i) / 2 ^ i ≤ 1 := by
 have hS := Nat.div_add_mod S (2 ^ i)
 have hT := Nat.div_add_mod T (2 ^ i)
 have hp : 0 < 2 ^ i := Nat.pow_pos (by omega)
 have hS2 : S % 2 ^ (i + 1) = S % 2 ^ i + 2 ^ i * (S / 2 ^ i % 2) := by rw [Nat.pow_succ, Nat.mod_mul]
 have hT2 : T % 2 ^ (i + 1) = T % 2 ^ i + 2 ^ i * (T / 2 ^ i % 2) := by rw [Nat.pow_succ, Nat.mod_mul]
 have hSl := Nat.mod_lt S hp
 have hTl := Nat.mod_lt T hp
 have hc := Nat.div_add_mod (S % 2 ^ i + T % 2 ^ i) (2 ^ i)
 have hcl := Nat.mod_lt (S % 2 ^ i + T % 2 ^ i) hp
 have hc1 : (S % 2 ^ i + T % 2 ^ i) / 2 ^ i ≤ 1 := by
  have : (S % 2 ^ i + T % 2 ^ i) / 2 ^ i < 2 := by rw [Nat.div_lt_iff_lt_mul hp]; omega
  omega
 have e1 : (S + T) / 2 ^ i = S / 2 ^ i + T / 2 ^ i + (S % 2 ^ i + T % 2 ^ i) / 2 ^ i := by
  have : S + T = (S % 2 ^ i + T % 2 ^ i) % 2 ^ i + 2 ^ i * (S / 2 ^ i + T / 2 ^ i + (S % 2 ^ i + T % 2 ^ i) / 2 ^ i) := by
   rw [Nat.mul_add, Nat.mul_add]; omega
  conv => lhs; rw [this]
  rw [Nat.add_mul_div_left _ _ hp, Nat.div_eq_of_lt hcl, Nat.zero_add]
 refine ⟨by rw [e1]; omega, ?_, hc1⟩
 rw [hS2, hT2]
 have e2 : S % 2 ^ i + 2 ^ i * (S / 2 ^ i % 2) + (T % 2 ^ i + 2 ^ i * (T / 2 ^ i % 2)) = (S % 2 ^ i + T % 2 ^ i) % 2 ^ i + 2 ^ i * (S / 2 ^ i % 2 + (S % 2 ^ i + T % 2 ^ i) / 2 ^ i + T / 2 ^ i % 2) := by
  rw [Nat.mul_add, Nat.mul_add]; omega
 rw [e2, Nat.pow_succ, ← Nat.div_div_eq_div_mul, Nat.add_mul_div_left _ _ hp, Nat.div_eq_of_lt hcl, Nat.zero_add]
theorem zi (Y up i : Nat) : Y * 2 ^ up / 2 ^ i % 2 = if up ≤ i then Y / 2 ^ (i - up) % 2 else 0 := by
 split
 ·rename_i h
  have e : 2 ^ i = 2 ^ up * 2 ^ (i - up) := by rw [← Nat.pow_add]; congr 1; omega
  rw [e, ← Nat.div_div_eq_div_mul, Nat.mul_div_cancel _ (Nat.pow_pos (by omega))]
 ·rename_i h
  have e : 2 ^ up = 2 ^ i * 2 * 2 ^ (up - i - 1) := by rw [← Nat.pow_succ, ← Nat.pow_add]; congr 1; omega
  have e2 : Y * 2 ^ up = 2 ^ i * (2 * (Y * 2 ^ (up - i - 1))) := by rw [e]; simp only [Nat.mul_assoc, Nat.mul_left_comm]
  rw [e2, Nat.mul_div_cancel_left _ (Nat.pow_pos (by omega))]
  omega
theorem yd {K i N : Nat} (h : i < K) : (bH 2 i N ++ List.replicate (K - i) 0).set i (N / 2 ^ i % 2) = bH 2 (i + 1) N ++ List.replicate (K - (i + 1)) 0 := by
 rw [show K - i = (K - (i + 1)) + 1 by omega, List.replicate_succ, List.set_append_right _ _ (by rw [aP]; omega), aP, Nat.sub_self, List.set_cons_zero, iD]
 simp
theorem jd (A B : Option Addr) (n c m c' up : Nat) (xs ys : List Nat) (w : World) (hx : Sl w A n 1 (ff xs)) (hy : Sl w B m 1 (ff ys)) (hdx : Dg 2 xs) (hdy : Dg 2 ys) (hn : n ≤ 100000000000) (hm : m ≤ 100000000000) (hup : up ≤ 100000000000) :
  Calls Tryz.prog 190 #[.slice A n c, .slice B m c', .int .i64 (up : Int)] w fun e w' => ∃ b, e = .returned (.slice (some ⟨b, 0, none⟩) (max n (m + up) + 1) (max n (m + up) + 1)) ∧ w'.ownsRow w.heap.size 5 1 (.slice (some ⟨b, 0, none⟩) (max n (m + up) + 1) (max n (m + up) + 1)) (max n (m + up) + 1) (ff (bH 2 (max n (m + up) + 1) (bq 2 xs + bq 2 ys * 2 ^ up))) ∧ Below w.heap.size w w' := by
 have hlx := hx.1
 have hly := hy.1
 rw [cj] at hlx hly
 have hh := Hp.start w
 have e1 : (if ((m : Int) + (up : Int)) > (n : Int) then ((m : Int) + (up : Int)) else (n : Int)) + 1 = ((max n (m + up) + 1 : Nat) : Int) := by split <;> omega
 have hand : ∀ z : Nat, z &&& 1 = z % 2 := fun z => Nat.and_one_is_mod z
 refine aj (N := 49) (l := [.slice A n c, .slice B m c', .int .i64 (up : Int)]) Tryz.func190 rfl rfl (by simp) ?_
 refine sr (aL (aa (sr (mL (a7 (mL (a7 (mI ?_))))))))
 refine bz ?_
 refine jb rfl rfl (by decide) ?_
 refine bz ?_
 rw [e1]
 generalize hK : max n (m + up) + 1 = K at *
 refine gn (n := K) hh rfl rfl (by omega) (by omega) aN.out aA.out rfl (by omega) (by omega) (by decide) ?_
 intro b19 w19 hh
 refine aL (aa (sr (aI (aa (ah (sr (aI (aa (al ?_)))))))))
 rw [kV] at hh
 refine bY [8, 9, 10, 20, 21, 22, 23, 24, 25, 26, 27, 28, 29, 30, 31, 32, 33, 34, 35, 36, 37, 38, 39, 40, 41, 42, 43, 44, 45, 46, 47] 8 9
  (fun cr v w' => ∃ i : Nat, i ≤ K ∧ v = .int .i64 (i : Int) ∧ cr = .int .u8 (((bq 2 xs % 2 ^ i + bq 2 ys * 2 ^ up % 2 ^ i) / 2 ^ i : Nat) : Int) ∧ Hp w [.row (some ⟨b19, 0, none⟩) K K 5 1 (ff (bH 2 i (bq 2 xs + bq 2 ys * 2 ^ up) ++ List.replicate (K - i) 0))] w')
  (fun _ v _ => K - (intOf v).toNat) ?_ ?_
 ·exact ⟨0, Nat.zero_le _, rfl, by simp [Nat.mod_one]; rfl, hh⟩
 ·clear hh
  rintro ρ' cr v w' ⟨i, hi, rfl, rfl, hh⟩
  by_cases hlt : i < K
  ·obtain ⟨b1, b2, b3⟩ := xe (bq 2 xs) (bq 2 ys * 2 ^ up) i
   have hbu := zi (bq 2 ys) up i
   have hxb : bq 2 xs / 2 ^ i % 2 < 2 := Nat.mod_lt _ (by omega)
   have hyb : bq 2 ys / 2 ^ (i - up) % 2 < 2 := Nat.mod_lt _ (by omega)
   have hll : (ff (bH 2 i (bq 2 xs + bq 2 ys * 2 ^ up) ++ List.replicate (K - i) 0)).length = K := by rw [cj, List.length_append, aP, List.length_replicate]; omega
   have hfk := yd (N := bq 2 xs + bq 2 ys * 2 ^ up) hlt
   generalize hC : (bq 2 xs % 2 ^ i + bq 2 ys * 2 ^ up % 2 ^ i) / 2 ^ i = C at *
   generalize hX : bq 2 xs / 2 ^ i % 2 = X at *
   refine ah (sr (mI (mL (a7 ?_))))
   refine aK (aa (cT (ak (ai (ah (al (sr (mL (mI ?_)))))))))
   refine bB hh (cI A n c i xs _ (hx.ext hh.below) hdx (by omega) (by omega)) rfl ?_
   intro w28 hh
   rw [hX]
   by_cases hiu : up ≤ i
   ·rw [if_pos hiu] at hbu
    rw [hbu] at b1 b2
    generalize hY : bq 2 ys / 2 ^ (i - up) % 2 = Y at *
    have es : ((X + C) % 256 + Y) % 256 = X + C + Y := by omega
    have ei : (i : Int) - (up : Int) = ((i - up : Nat) : Int) := by omega
    refine mI ?_
    refine fQ rfl rfl (by decide) ?_
    refine aI (aa (ah (sr (mI (mI ?_)))))
    refine dn (aa (cT (aq (mI (mL (mI (mI ?_)))))))
    refine eo ?_
    rw [ei]
    refine bB hh (cI B m c' (i - up) ys _ (hy.ext hh.below) hdy (by omega) (by omega)) rfl ?_
    intro w39 hh
    rw [hY]
    refine fQ rfl rfl (by decide) ?_
    refine aI (aa (sr (mL (mI (mI ?_)))))
    refine jf (b := 1) rfl rfl (by first | assumption | omega) (by first | assumption | omega) (by decide) ?_
    refine bA (k := i) aN.out aA.size rfl rfl (by omega) (by omega) (by decide) ?_
    refine bF hh (i := 0) (vs := [_]) rfl rfl (bM rfl) rfl aA.out rfl (by rw [hll]; omega) rfl ?_
    intro ws hh
    simp only [List.set_cons_zero] at hh
    rw [hand, es, Nat.mul_one, cd (by rw [hll]; omega), jQ, ← b1, hfk] at hh
    refine aa (aq (mI ?_))
    refine dY (s := 1) (m := 2) rfl rfl (by decide) (by decide) (by decide) ?_
    refine aI (aD (a0 (ai (aq (mI ?_)))))
    refine bz (aI (aD (ai ?_)))
    rw [es]
    refine ⟨⟨i + 1, by omega, rfl, by rw [b2]; rfl, hh⟩, by show K - (i + 1) < K - i; omega, ?_⟩
    (repeat (first | exact aw _ _ _ | refine az rfl ?_ | refine au rfl ?_))
   ·rw [if_neg hiu] at hbu
    rw [hbu] at b1 b2
    have es : (X + C) % 256 = X + C + 0 := by omega
    refine mI ?_
    refine fQ rfl rfl (by decide) ?_
    refine aI (aa (ah (sr (mI (mI ?_)))))
    refine dn (aa (cF (ak (ai (sr (mL (mI (mI ?_))))))))
    refine jf (b := 1) rfl rfl (by first | assumption | omega) (by first | assumption | omega) (by decide) ?_
    refine bA (k := i) aN.out aA.size rfl rfl (by omega) (by omega) (by decide) ?_
    refine bF hh (i := 0) (vs := [_]) rfl rfl (bM rfl) rfl aA.out rfl (by rw [hll]; omega) rfl ?_
    intro ws hh
    simp only [List.set_cons_zero] at hh
    rw [hand, es, Nat.mul_one, cd (by rw [hll]; omega), jQ, ← b1, hfk] at hh
    refine aa (aq (mI ?_))
    refine dY (s := 1) (m := 2) rfl rfl (by decide) (by decide) (by decide) ?_
    refine aI (aD (a0 (ai (aq (mI ?_)))))
    refine bz (aI (aD (ai ?_)))
    rw [es]
    refine ⟨⟨i + 1, by omega, rfl, by rw [b2]; rfl, hh⟩, by show K - (i + 1) < K - i; omega, ?_⟩
    (repeat (first | exact aw _ _ _ | refine az rfl ?_ | refine au rfl ?_))
  ·obtain rfl : i = K := by omega
   rw [Nat.sub_self, List.replicate_zero, List.append_nil] at hh
   refine ah (sr (mI (mL (a7 ?_))))
   refine aK (aa (cF ?_))
   refine aY ?_
   refine ay (ay (bm (ai (sr (mL (aL (aa (ao ?_))))))))
   refine cx ?_
   exact ⟨_, rfl, hh.at_ (i := 0) rfl, hh.below⟩
end Go.Proofs.YtioilmppidlbnaaGreatDoor
namespace Go.Proofs.YtioilmppidlbnaaGreatDoor
open Go.RowKit
theorem xD {X Y : Nat} (h : Y ≤ X) (i : Nat) : ((2 + X / 2 ^ i % 2 + 256 - Y / 2 ^ i % 2) % 256 + 256 - (if X % 2 ^ i < Y % 2 ^ i then 1 else 0)) % 256 % 2 = (X - Y) / 2 ^ i % 2 ∧
  (1 + 256 - ((2 + X / 2 ^ i % 2 + 256 - Y / 2 ^ i % 2) % 256 + 256 - (if X % 2 ^ i < Y % 2 ^ i then 1 else 0)) % 256 / 2) % 256 = (if X % 2 ^ (i + 1) < Y % 2 ^ (i + 1) then 1 else 0) := by
 have hX := Nat.div_add_mod X (2 ^ i)
 have hY := Nat.div_add_mod Y (2 ^ i)
 have hp : 0 < 2 ^ i := Nat.pow_pos (by omega)
 have hX2 : X % 2 ^ (i + 1) = X % 2 ^ i + 2 ^ i * (X / 2 ^ i % 2) := by rw [Nat.pow_succ, Nat.mod_mul]
 have hY2 : Y % 2 ^ (i + 1) = Y % 2 ^ i + 2 ^ i * (Y / 2 ^ i % 2) := by rw [Nat.pow_succ, Nat.mod_mul]
 have hXl := Nat.mod_lt X hp
 have hYl := Nat.mod_lt Y hp
 rw [hX2, hY2]
 generalize hx1 : X / 2 ^ i = x1 at *
 generalize hy1 : Y / 2 ^ i = y1 at *
 generalize hx0 : X % 2 ^ i = x0 at *
 generalize hy0 : Y % 2 ^ i = y0 at *
 have key : ∀ b : Nat, b = (if x0 < y0 then 1 else 0) → (X - Y) / 2 ^ i = x1 - y1 - b ∧ y1 + b ≤ x1 := by
  intro b hb
  have hle : y1 + b ≤ x1 := by
   refine Nat.le_of_not_lt fun hlt => ?_
   have h1 : 2 ^ i * (x1 + 1) ≤ 2 ^ i * (y1 + b) := Nat.mul_le_mul_left _ hlt
   rw [Nat.mul_add, Nat.mul_add] at h1
   split at hb
   ·subst hb; omega
   ·subst hb; omega
  refine ⟨?_, hle⟩
  have e : X - Y = (x0 + 2 ^ i * b - y0) + 2 ^ i * (x1 - y1 - b) := by
   have h2 : 2 ^ i * (x1 - y1 - b) = 2 ^ i * x1 - 2 ^ i * y1 - 2 ^ i * b := by rw [Nat.mul_sub, Nat.mul_sub]
   have h3 : 2 ^ i * (y1 + b) ≤ 2 ^ i * x1 := Nat.mul_le_mul_left _ hle
   rw [Nat.mul_add] at h3
   split at hb
   ·subst hb; omega
   ·subst hb; omega
  rw [e, Nat.add_mul_div_left _ _ hp, Nat.div_eq_of_lt, Nat.zero_add]
  split at hb
  ·subst hb; omega
  ·subst hb; omega
 obtain ⟨k1, k2⟩ := key _ rfl
 rw [k1]
 have hlt : (x0 + 2 ^ i * (x1 % 2) < y0 + 2 ^ i * (y1 % 2)) ↔ (x1 % 2 < y1 % 2 ∨ x1 % 2 = y1 % 2 ∧ x0 < y0) := by
  rcases Nat.mod_two_eq_zero_or_one x1 with h1 | h1 <;> rcases Nat.mod_two_eq_zero_or_one y1 with h2 | h2 <;> rw [h1, h2] <;> omega
 by_cases hb : x0 < y0
 ·rw [if_pos hb] at k2 ⊢
  refine ⟨by omega, ?_⟩
  by_cases hc : x0 + 2 ^ i * (x1 % 2) < y0 + 2 ^ i * (y1 % 2)
  ·rw [if_pos hc]; rw [hlt] at hc; omega
  ·rw [if_neg hc]; rw [hlt] at hc; omega
 ·rw [if_neg hb] at k2 ⊢
  refine ⟨by omega, ?_⟩
  by_cases hc : x0 + 2 ^ i * (x1 % 2) < y0 + 2 ^ i * (y1 % 2)
  ·rw [if_pos hc]; rw [hlt] at hc; omega
  ·rw [if_neg hc]; rw [hlt] at hc; omega
theorem kP (A B : Option Addr) (n c m c' : Nat) (xs ys : List Nat) (w : World) (hx : Sl w A n 1 (ff xs)) (hy : Sl w B m 1 (ff ys)) (hdx : Dg 2 xs) (hdy : Dg 2 ys) (hn : n ≤ 100000000000) (hm : m ≤ 100000000000) (hle : bq 2 ys ≤ bq 2 xs) :
  Calls Tryz.prog 192 #[.slice A n c, .slice B m c'] w fun e w' => ∃ b, e = .returned (.slice (some ⟨b, 0, none⟩) n n) ∧ w'.ownsRow w.heap.size 5 1 (.slice (some ⟨b, 0, none⟩) n n) n (ff (bH 2 n (bq 2 xs - bq 2 ys))) ∧ Below w.heap.size w w' := by
 have hlx := hx.1
 have hly := hy.1
 rw [cj] at hlx hly
 have hh := Hp.start w
 have hand : ∀ z : Nat, z &&& 1 = z % 2 := fun z => Nat.and_one_is_mod z
 refine aj (N := 37) (l := [.slice A n c, .slice B m c']) Tryz.func192 rfl rfl (by simp) ?_
 refine sr (aL (aa (sr (mL (a7 ?_)))))
 refine gn (n := n) hh rfl rfl (by omega) (by omega) aN.out aA.out rfl (by omega) (by omega) (by decide) ?_
 intro b11 w11 hh
 refine aL (aa (sr (aI (aa (ah (sr (aI (aa (al ?_)))))))))
 rw [kV] at hh
 refine bY [6, 7, 8, 12, 13, 14, 15, 16, 17, 18, 19, 20, 21, 22, 23, 24, 25, 26, 27, 28, 29, 30, 31, 32, 33, 34, 35] 6 7
  (fun cr v w' => ∃ i : Nat, i ≤ n ∧ v = .int .i64 (i : Int) ∧ cr = .int .u8 ((if bq 2 xs % 2 ^ i < bq 2 ys % 2 ^ i then 1 else 0 : Nat) : Int) ∧ Hp w [.row (some ⟨b11, 0, none⟩) n n 5 1 (ff (bH 2 i (bq 2 xs - bq 2 ys) ++ List.replicate (n - i) 0))] w')
  (fun _ v _ => n - (intOf v).toNat) ?_ ?_
 ·exact ⟨0, Nat.zero_le _, rfl, by simp [Nat.mod_one]; rfl, hh⟩
 ·clear hh
  rintro ρ' cr v w' ⟨i, hi, rfl, rfl, hh⟩
  by_cases hlt : i < n
  ·obtain ⟨b1, b2⟩ := xD hle i
   have hxb : bq 2 xs / 2 ^ i % 2 < 2 := Nat.mod_lt _ (by omega)
   have hyb : bq 2 ys / 2 ^ i % 2 < 2 := Nat.mod_lt _ (by omega)
   have hcb : (if bq 2 xs % 2 ^ i < bq 2 ys % 2 ^ i then 1 else 0 : Nat) ≤ 1 := by split <;> omega
   have hll : (ff (bH 2 i (bq 2 xs - bq 2 ys) ++ List.replicate (n - i) 0)).length = n := by rw [cj, List.length_append, aP, List.length_replicate]; omega
   have hfk := yd (N := bq 2 xs - bq 2 ys) hlt
   refine ah (sr (mI (mL (a7 ?_))))
   refine aK (aa (cT (ak (ai (ah (al (sr (mL (mI ?_)))))))))
   refine bB hh (cI A n c i xs _ (hx.ext hh.below) hdx (by omega) (by omega)) rfl ?_
   intro w20 hh
   refine fQ (a := 2) rfl rfl (by decide) ?_
   refine mL (mI ?_)
   refine bB hh (cI B m c' i ys _ (hy.ext hh.below) hdy (by omega) (by omega)) rfl ?_
   intro w24 hh
   generalize hC : (if bq 2 xs % 2 ^ i < bq 2 ys % 2 ^ i then 1 else 0 : Nat) = C at *
   generalize hX : bq 2 xs / 2 ^ i % 2 = X at *
   generalize hY : bq 2 ys / 2 ^ i % 2 = Y at *
   have es : ((2 + X) % 256 + 256 - Y) % 256 = (2 + X + 256 - Y) % 256 := by omega
   have hS : ((2 + X + 256 - Y) % 256 + 256 - C) % 256 < 256 := Nat.mod_lt _ (by omega)
   refine sf rfl rfl (by omega) (by decide) ?_
   refine mI ?_
   rw [es]
   refine sf rfl rfl (by omega) (by decide) ?_
   refine aI (aa (sr (mL (mI (mI ?_)))))
   refine jf (b := 1) rfl rfl (by first | assumption | omega) (by first | assumption | omega) (by decide) ?_
   refine bA (k := i) aN.out aA.size rfl rfl (by omega) (by omega) (by decide) ?_
   refine bF hh (i := 0) (vs := [_]) rfl rfl (bM rfl) rfl aA.out rfl (by rw [hll]; omega) rfl ?_
   intro ws hh
   simp only [List.set_cons_zero] at hh
   rw [hand, b1, Nat.mul_one, cd (by rw [hll]; omega), jQ, hfk] at hh
   refine aa (aq (mI ?_))
   refine dY (s := 1) (m := 2) rfl rfl (by decide) (by decide) (by decide) ?_
   refine sf (a := 1) rfl rfl (by omega) (by decide) ?_
   refine aI (aD (a0 (ai (aq (mI ?_)))))
   refine bz (aI (aD (ai ?_)))
   refine ⟨⟨i + 1, by omega, rfl, by rw [← b2]; rfl, hh⟩, by show n - (i + 1) < n - i; omega, ?_⟩
   (repeat (first | exact aw _ _ _ | refine az rfl ?_ | refine au rfl ?_))
  ·obtain rfl : i = n := by omega
   rw [Nat.sub_self, List.replicate_zero, List.append_nil] at hh
   refine ah (sr (mI (mL (a7 ?_))))
   refine aK (aa (cF ?_))
   refine aY ?_
   refine ay (ay (bm (ai (sr (mL (aL (aa (ao ?_))))))))
   refine cx ?_
   exact ⟨_, rfl, hh.at_ (i := 0) rfl, hh.below⟩
theorem oB (n : Nat) (w : World) (hn : n < 18446744073709551616) :
  Calls Tryz.prog 181 #[.int .u64 (n : Int)] w fun e w' => e = .returned (.string (sN n)) ∧ Below w.heap.size w w' := by
 have hh := Hp.start w
 refine aj (N := 16) (l := [.int .u64 (n : Int)]) Tryz.func181 rfl rfl (by simp) ?_
 refine sr (aS (aa (sr (aL (aa (ah (al ?_)))))))
 replace hh := hh.eW 5 1
 refine bY [0, 3, 4, 5, 6, 7, 8, 9, 10, 11, 12, 13] 0 3
  (fun v o w' => ∃ (k m : Nat) (A : Option Addr) (c : Nat), v = .int .u64 (m : Int) ∧ m < 18446744073709551616 ∧ k ≤ 64 ∧ m < 2 ^ (64 - k) ∧ o = .slice A k c ∧ m = n / 2 ^ k ∧ Hp w [.row A k c 5 1 (ff (bH 2 k n))] w')
  (fun v _ _ => (intOf v).toNat) ?_ ?_
 ·exact ⟨0, n, none, 0, rfl, hn, by omega, by simpa using hn, rfl, by simp, hh⟩
 ·clear hh
  rintro ρ' v o w' ⟨k, m, A, c, rfl, hm, hk, hmk, rfl, hmn, hh⟩
  by_cases h0 : m = 0
  ·subst h0
   refine ah (sr (mI ?_))
   refine bO (aa (cF ?_))
   refine aY ?_
   refine ay (ay (bm (ai (sr (mL ?_)))))
   refine bB hh (du _ _ _ (bH 2 k n) _ (hh.bf (i := 0) rfl) (dE (by omega) _ _) (hh.cU (i := 0) rfl) (by omega)) rfl ?_
   intro w15 hh
   have hlt : n < 2 ^ k := by
    have := Nat.div_add_mod n (2 ^ k)
    have h2 := Nat.mod_lt n (Nat.pow_pos (n := k) (show 0 < 2 by omega))
    rw [← hmn] at this
    omega
   rw [bT hlt]
   refine aS (aa (ao ?_))
   refine cx ?_
   exact ⟨rfl, hh.below⟩
  ·have hk64 : k < 64 := by
    refine Nat.lt_of_not_le fun h => ?_
    rw [show 64 - k = 0 by omega] at hmk
    omega
   have hm2 : m % 2 < 256 := by omega
   refine ah (sr (mI ?_))
   refine bO (aa (cT (ak (ai (ah (al (aq (mL (mI ?_)))))))))
   refine sv (b := 2) rfl rfl (by omega) (by decide) ?_
   first | refine cJ aN.out aN.out rfl (by first | assumption | omega) (by decide) ?_ | refine eL aN.out aN.out rfl (by decide) ?_
   refine bo hh (cs := [_]) aN.out aA.out (a6 (bM rfl) bR) rfl rfl (by decide) (by decide) (by decide) rfl (by decide) ?_
   intro b12 w12 hh
   refine df hh (i := 1) rfl rfl rfl (hh.bf (i := 0) rfl) aN.out aA.out rfl (by decide) (by first | rfl | exact dr _ | exact cH _ | exact bW _ | exact cz NR.one _) (by omega) (by omega) (by decide) ?_
   intro A13 c13 w13 hh
   simp only [List.set_cons_zero, List.set_cons_succ] at hh
   replace hh := hh.sub (List.sublist_cons_self _ _)
   refine aL (aD (a0 (ai (aq (mI ?_)))))
   refine yC (b := 2) rfl rfl (by omega) (by first | assumption | omega) (by decide) ?_
   refine aI (aD (ai ?_))
   have e1 : ff (bH 2 k n) ++ [Value.int .u8 ((m % 2 : Nat) : Int)] = ff (bH 2 (k + 1) n) := by
    rw [hmn, iD, mX]; rfl
   rw [e1] at hh
   refine ⟨⟨k + 1, m / 2, A13, c13, rfl, by omega, by omega, ?_, rfl, ?_, hh⟩, by show (((m / 2 : Nat) : Int)).toNat < ((m : Int)).toNat; omega, ?_⟩
   ·rw [show 64 - k = (64 - (k + 1)) + 1 by omega, Nat.pow_succ] at hmk
    omega
   ·rw [hmn, Nat.div_div_eq_div_mul, Nat.pow_succ]
   ·(repeat (first | exact aw _ _ _ | refine az rfl ?_ | refine au rfl ?_))
theorem eR (a : ByteArray) : (aR 2 (bN a)).length ≤ 8 * a.size := ew a
theorem gd (n : Nat) : Dg 2 (aR 2 n) := (cZ (by omega) n).1
theorem fc (n : Nat) : bq 2 (aR 2 n) = n := dm (by omega) n
theorem nc (a b : ByteArray) (w : World) (ha : a.size ≤ 1000000000) (hb : b.size ≤ 1000000000) :
  Calls Tryz.prog 191 #[.string a, .string b] w fun e w' => e = .returned (.int .i64 (il (bN a) (bN b))) ∧ Below w.heap.size w w' := by
 have hh := Hp.start w
 have h1 := eR a
 have h2 := eR b
 refine aj (N := 10) (l := [.string a, .string b]) Tryz.func191 rfl rfl (by simp) ?_
 refine sr (aI (aa (sr (mS ?_))))
 refine aU (cn a _ ha) av.out rfl (by decide) ?_
 rintro e_ w6 ⟨A6, c6, rfl, hown_, hb_⟩
 refine ⟨_, rfl, ?_⟩
 replace hh := hh.bj (x := .row _ _ _ _ _ _) hb_ hown_
 refine mS ?_
 refine aU (cn b _ hb) av.out rfl (by decide) ?_
 rintro e_ w8 ⟨A8, c8, rfl, hown_, hb_⟩
 refine ⟨_, rfl, ?_⟩
 replace hh := hh.bj (x := .row _ _ _ _ _ _) hb_ hown_
 refine bB hh (ju _ _ _ _ _ _ (aR 2 (bN a)) (aR 2 (bN b)) _ (hh.bf (i := 1) rfl) (hh.bf (i := 0) rfl) (gd _) (gd _) (by omega) (by omega)) rfl ?_
 intro w9 hh
 rw [fc, fc]
 refine aI (aa (ao ?_))
 refine cx ?_
 exact ⟨rfl, hh.below⟩
theorem kf (a : ByteArray) (w : World) (ha : a.size ≤ 1000000000) :
  Calls Tryz.prog 187 #[.string a] w fun e w' => e = .returned (.int .i64 (bu (bN a))) ∧ Below w.heap.size w w' := by
 have hh := Hp.start w
 refine aj (N := 6) (l := [.string a]) Tryz.func187 rfl rfl (by simp) ?_
 refine sr (aI (aa (sr (mS ?_))))
 refine aU (cn a _ ha) av.out rfl (by decide) ?_
 rintro e_ w4 ⟨A4, c4, rfl, hown_, hb_⟩
 refine ⟨_, rfl, ?_⟩
 replace hh := hh.bj (x := .row _ _ _ _ _ _) hb_ hown_
 refine a7 (aI (aa (ao ?_)))
 refine cx ?_
 exact ⟨rfl, hh.below⟩
theorem kb (a b : ByteArray) (w : World) (ha : a.size ≤ 1000000000) (hb : b.size ≤ 1000000000) :
  Calls Tryz.prog 150 #[.string a, .string b] w fun e w' => e = .returned (.tuple #[.string (sN (bN a - bN b)), .bool (decide (bN b ≤ bN a))]) ∧ Below w.heap.size w w' := by
 have hh := Hp.start w
 have h1 := eR a
 have h2 := eR b
 by_cases hlt : bN a < bN b
 ·refine aj (N := 16) (l := [.string a, .string b]) Tryz.func150 rfl rfl (by simp) ?_
  refine sr (aS (aB (aa (ah (sr (mS (mS ?_)))))))
  refine bB hh (nc a b _ ha hb) rfl ?_
  intro w8 hh
  rw [iU hlt]
  refine aK (aa (cT (sr (aS (aB (aa (ao (aQ ?_))))))))
  refine Ad ?_
  rw [Nat.sub_eq_zero_of_le (by omega), decide_eq_false (by omega), gH]
  exact ⟨rfl, hh.below⟩
 ·have hc : ¬ il (bN a) (bN b) < 0 := by unfold il; split <;> (try split) <;> omega
  have hbl : bN a - bN b < 2 ^ (aR 2 (bN a)).length := Nat.lt_of_le_of_lt (Nat.sub_le _ _) (ct (bN a))
  refine aj (N := 16) (l := [.string a, .string b]) Tryz.func150 rfl rfl (by simp) ?_
  refine sr (aS (aB (aa (ah (sr (mS (mS ?_)))))))
  refine bB hh (nc a b _ ha hb) rfl ?_
  intro w8 hh
  refine aK (aa (cF (ak (ai (sr (mS ?_))))))
  refine aU (cn a _ ha) av.out rfl (by decide) ?_
  rintro e_ w11 ⟨A11, c11, rfl, hown_, hb_⟩
  refine ⟨_, rfl, ?_⟩
  replace hh := hh.bj (x := .row _ _ _ _ _ _) hb_ hown_
  refine mS ?_
  refine aU (cn b _ hb) av.out rfl (by decide) ?_
  rintro e_ w13 ⟨A13, c13, rfl, hown_, hb_⟩
  refine ⟨_, rfl, ?_⟩
  replace hh := hh.bj (x := .row _ _ _ _ _ _) hb_ hown_
  refine aU (kP _ _ _ _ _ _ (aR 2 (bN a)) (aR 2 (bN b)) _ (hh.bf (i := 1) rfl) (hh.bf (i := 0) rfl) (gd _) (gd _) (by omega) (by omega) (by rw [fc, fc]; omega)) av.out rfl (by decide) ?_
  rintro e_ w_ ⟨b14, rfl, hown_, hb_⟩
  refine ⟨_, rfl, ?_⟩
  replace hh := hh.bj (x := .row _ _ _ _ _ _) hb_ hown_
  rw [fc, fc] at hh
  refine bB hh (du _ _ _ (bH 2 (aR 2 (bN a)).length (bN a - bN b)) _ (hh.bf (i := 0) rfl) (dE (by omega) _ _) (Nat.le_refl _) (by omega)) rfl ?_
  intro w15 hh
  rw [bT hbl]
  refine aS (aB (aa (ao ?_)))
  refine Ad ?_
  rw [decide_eq_true (by omega)]
  exact ⟨rfl, hh.below⟩
theorem rD (a : ByteArray) (m : Nat) (w : World) (ha : a.size ≤ 1000000000) (hm : m ≤ 10000000000) :
  Calls Tryz.prog 151 #[.string a, .int .i64 (m : Int)] w fun e w' => e = .returned (.string (sN (bN a * 2 ^ m))) ∧ Below w.heap.size w w' := by
 have hh := Hp.start w
 have h1 := eR a
 have e1 : (if (0 : Int) > (m : Int) then 0 else (m : Int)) = m := if_neg (by omega)
 have hbd : bN a * 2 ^ m < 2 ^ (max 0 ((aR 2 (bN a)).length + m) + 1) := by
  refine Nat.lt_of_lt_of_le (ct _) (Nat.pow_le_pow_right (by omega) ?_)
  have := fW (bN a) m
  show bu _ ≤ max 0 (bu _ + m) + 1
  omega
 refine aj (N := 11) (l := [.string a, .int .i64 (m : Int)]) Tryz.func151 rfl rfl (by simp) ?_
 refine sr (aS (aa (sr (mS ?_))))
 refine aU (cn a _ ha) av.out rfl (by decide) ?_
 rintro e_ w6 ⟨A6, c6, rfl, hown_, hb_⟩
 refine ⟨_, rfl, ?_⟩
 replace hh := hh.bj (x := .row _ _ _ _ _ _) hb_ hown_
 refine mI ?_
 refine jb rfl rfl (by decide) ?_
 rw [e1]
 refine aU (jd none _ 0 0 _ _ m [] (aR 2 (bN a)) _ (Sl.nil _ _ _) (hh.bf (i := 0) rfl) Dg.nil (gd _) (by omega) (by omega) (by omega)) av.out rfl (by decide) ?_
 rintro e_ w_ ⟨b9, rfl, hown_, hb_⟩
 refine ⟨_, rfl, ?_⟩
 replace hh := hh.bj (x := .row _ _ _ _ _ _) hb_ hown_
 rw [fc, bq, Nat.zero_add] at hh
 refine bB hh (du _ _ _ (bH 2 (max 0 ((aR 2 (bN a)).length + m) + 1) (bN a * 2 ^ m)) _ (hh.bf (i := 0) rfl) (dE (by omega) _ _) (Nat.le_refl _) (by omega)) rfl ?_
 intro w10 hh
 rw [bT hbd]
 refine aS (aa (ao ?_))
 refine cx ?_
 exact ⟨rfl, hh.below⟩
end Go.Proofs.YtioilmppidlbnaaGreatDoor
namespace Go.Proofs.YtioilmppidlbnaaGreatDoor
open Go.RowKit
theorem rP (L : Option Addr) (n c : Nat) (ss : List ByteArray) (w : World) (hS : Sl w L n 1 (hG ss)) (hn : n ≤ 1000000) (hs : ∀ s ∈ ss, s.size ≤ 1000000000) :
  Calls Tryz.prog 149 #[.slice L n c] w fun e w' => e = .returned (.string (sN (ss.map bN).sum)) ∧ Below w.heap.size w w' := by
 have hsl : ss.length = n := by have := hS.1; rw [jC] at this; omega
 have hh := Hp.start w
 refine aj (N := 20) (l := [.slice L n c]) Tryz.func149 rfl rfl (by simp) ?_
 refine sr (aS (aa (sr (aL (aa (ah (sr (aI (aa (al ?_))))))))))
 replace hh := hh.eW 5 1
 refine bY [3, 4, 5, 6, 7, 8, 9, 10, 11, 12, 13, 14, 15, 16, 17] 3 4
  (fun v j w' => ∃ (i : Nat) (A : Option Addr) (c' T K : Nat), i ≤ n ∧ j = .int .i64 i ∧ T = ((ss.take i).map bN).sum ∧ v = .slice A K c' ∧ K ≤ 8000000000 + i ∧ T < 2 ^ K ∧ Hp w [.row A K c' 5 1 (ff (bH 2 K T))] w')
  (fun _ j _ => n - (intOf j).toNat) ?_ ?_
 ·exact ⟨0, none, 0, 0, 0, Nat.zero_le _, rfl, rfl, rfl, by omega, by simp, hh⟩
 ·clear hh
  rintro ρ' v j w' ⟨i, A, c', T, K, hi, rfl, hT, rfl, hTl, hTb, hh⟩
  by_cases hlt : i < n
  ·obtain ⟨s, hsi⟩ := aO (l := ss) (k := i) (by omega)
   obtain ⟨ad, rfl, hr⟩ := hS.at_ (by omega)
   have hs2 := mo hsi
   have hsz := hs s (List.mem_of_getElem? hsi)
   have hlx := eR s
   have hT2 : ((ss.take (i + 1)).map bN).sum = T + bN s := by rw [a9 hsi, List.map_append, List.map_singleton, lT, hT]
   have hbs : bN s < 2 ^ (aR 2 (bN s)).length := ct _
   have hb2 : T + bN s < 2 ^ (max K ((aR 2 (bN s)).length + 0) + 1) := by
    have h1 : 2 ^ K ≤ 2 ^ max K ((aR 2 (bN s)).length + 0) := Nat.pow_le_pow_right (by omega) (by omega)
    have h2 : 2 ^ (aR 2 (bN s)).length ≤ 2 ^ max K ((aR 2 (bN s)).length + 0) := Nat.pow_le_pow_right (by omega) (by omega)
    rw [Nat.pow_succ]; omega
   refine ah (sr (mI (mL (a7 ?_))))
   refine aK (aa (cT (ak (ai (ah (al (aq (mL (mL (mI ?_))))))))))
   refine aX (k := i) aN.out aA.size rfl rfl (by omega) (by omega) (by decide) ?_
   refine aV aA.out rfl ((hr.ext hh.below).fJ (by assumption)) (by decide) ?_
   refine aU (cn s _ hsz) av.out rfl (by decide) ?_
   rintro e_ w16 ⟨A16, c16, rfl, hown_, hb_⟩
   refine ⟨_, rfl, ?_⟩
   replace hh := hh.bj (x := .row _ _ _ _ _ _) hb_ hown_
   refine aU (jd _ _ _ _ _ _ 0 (bH 2 K T) (aR 2 (bN s)) _ (hh.bf (i := 1) rfl) (hh.bf (i := 0) rfl) (dE (by omega) _ _) (gd _) (by omega) (by omega) (by omega)) av.out rfl (by decide) ?_
   rintro e_ w_ ⟨b17, rfl, hown_, hb_⟩
   refine ⟨_, rfl, ?_⟩
   rw [fc, bT hTb, Nat.pow_zero, Nat.mul_one] at hown_
   replace hh := (hh.bj (x := .row _ _ _ _ _ _) hb_ hown_).sub (List.sublist_append_left [_] _)
   refine aL (aD (a0 (ai (aq (mI ?_)))))
   refine bz (aI (aD (ai ?_)))
   refine ⟨⟨i + 1, _, _, T + bN s, _, by omega, rfl, hT2.symm, rfl, by omega, hb2, hh⟩, by show n - (i + 1) < n - i; omega, ?_⟩
   (repeat (first | exact aw _ _ _ | refine az rfl ?_ | refine au rfl ?_))
  ·refine ah (sr (mI (mL (a7 ?_))))
   refine aK (aa (cF ?_))
   refine aY ?_
   refine ay (ay (bm (ai (sr (mL ?_)))))
   refine bB hh (du _ _ _ (bH 2 K T) _ (hh.bf (i := 0) rfl) (dE (by omega) _ _) (hh.cU (i := 0) rfl) (by omega)) rfl ?_
   intro w19 hh
   rw [bT hTb]
   refine aS (aa (ao ?_))
   refine cx ?_
   rw [List.take_of_length_le (by omega)] at hT
   rw [hT]
   exact ⟨rfl, hh.below⟩
theorem r6 (a b : ByteArray) (w : World) (ha : a.size ≤ 1000000000) (hb : b.size ≤ 1000000000) :
  Calls Tryz.prog 156 #[.string a, .string b] w fun e w' => e = .returned (.string (sN (bN a * bN b))) ∧ Below w.heap.size w w' := by
 have hh := Hp.start w
 have h1 := eR a
 have h2 := eR b
 have hYl : bN b < 2 ^ (aR 2 (bN b)).length := ct _
 have hXd := gd (bN a)
 have hX := fc (bN a)
 refine aj (N := 30) (l := [.string a, .string b]) Tryz.func156 rfl rfl (by simp) ?_
 refine sr (aS (aa (sr (mS ?_))))
 refine aU (cn a _ ha) av.out rfl (by decide) ?_
 rintro e_ w10 ⟨A10, c10, rfl, hown_, hb_⟩
 refine ⟨_, rfl, ?_⟩
 replace hh := hh.bj (x := .row _ _ _ _ _ _) hb_ hown_
 refine mS ?_
 refine aU (cn b _ hb) av.out rfl (by decide) ?_
 rintro e_ w12 ⟨A12, c12, rfl, hown_, hb_⟩
 refine ⟨_, rfl, ?_⟩
 replace hh := hh.bj (x := .row _ _ _ _ _ _) hb_ hown_
 generalize aR 2 (bN a) = xs at *
 refine aL (aL (aa (sr (aL (aa (ah (sr (aI (aa (al ?_))))))))))
 replace hh := hh.eW 5 1
 refine bY [7, 8, 13, 14, 15, 16, 17, 18, 19, 20, 21, 22, 23, 24, 25, 26, 27] 7 8
  (fun v j w' => ∃ (i : Nat) (A : Option Addr) (c' P K : Nat), i ≤ xs.length ∧ j = .int .i64 i ∧ P = bq 2 (xs.take i) * bN b ∧ v = .slice A K c' ∧ K ≤ (aR 2 (bN b)).length + i ∧ P < 2 ^ K ∧ Hp w [.row A K c' 5 1 (ff (bH 2 K P)), .row A12 (aR 2 (bN b)).length c12 5 1 (ff (aR 2 (bN b))), .row A10 xs.length c10 5 1 (ff xs)] w')
  (fun _ j _ => xs.length - (intOf j).toNat) ?_ ?_
 ·exact ⟨0, none, 0, 0, 0, Nat.zero_le _, rfl, by simp [bq], rfl, by omega, by simp, hh⟩
 ·clear hh
  rintro ρ' v j w' ⟨i, A, c', P, K, hi, rfl, hP, rfl, hK, hPb, hh⟩
  by_cases hlt : i < xs.length
  ·obtain ⟨d, hd⟩ := aO (l := xs) (k := i) (by omega)
   have hd2 := kv hd
   have hdw := hXd.at_ hd
   have hsn := dP (B := 2) hd
   obtain ⟨g, rfl⟩ := hh.ea (i := 2) rfl (by omega)
   by_cases h0 : d = 0
   ·subst h0
    refine ah (sr (mI (mL (a7 ?_))))
    refine aK (aa (cT (ak (ai (ah (al (sr (mL (mI ?_)))))))))
    refine bA (k := i) aN.out aA.size rfl rfl (by omega) (by omega) (by decide) ?_
    refine aV aA.out rfl (hh.cE (i := 2) rfl (by first | assumption | (simp only [Nat.mul_one]; assumption))) (by decide) ?_
    refine cV (aa (cF (ak (a0 (ai (aq (mI ?_)))))))
    refine bz (aI (aD (ai ?_)))
    refine ⟨⟨i + 1, _, _, P, _, by omega, rfl, by rw [hsn, hP]; simp, rfl, by omega, hPb, hh⟩, by show xs.length - (i + 1) < xs.length - i; omega, ?_⟩
    (repeat (first | exact aw _ _ _ | refine az rfl ?_ | refine au rfl ?_))
   ·obtain rfl : d = 1 := by omega
    have hb2 : P + bN b * 2 ^ i < 2 ^ (max K ((aR 2 (bN b)).length + i) + 1) := by
     have h1 : 2 ^ K ≤ 2 ^ max K ((aR 2 (bN b)).length + i) := Nat.pow_le_pow_right (by omega) (by omega)
     have h2 : 2 ^ ((aR 2 (bN b)).length + i) ≤ 2 ^ max K ((aR 2 (bN b)).length + i) := Nat.pow_le_pow_right (by omega) (by omega)
     have h3 : bN b * 2 ^ i < 2 ^ (aR 2 (bN b)).length * 2 ^ i := Nat.mul_lt_mul_of_pos_right hYl (Nat.pow_pos (by omega))
     rw [← Nat.pow_add] at h3
     rw [Nat.pow_succ]; omega
    refine ah (sr (mI (mL (a7 ?_))))
    refine aK (aa (cT (ak (ai (ah (al (sr (mL (mI ?_)))))))))
    refine bA (k := i) aN.out aA.size rfl rfl (by omega) (by omega) (by decide) ?_
    refine aV aA.out rfl (hh.cE (i := 2) rfl (by first | assumption | (simp only [Nat.mul_one]; assumption))) (by decide) ?_
    refine cV (aa (cT (aq (mL (mL (mI ?_))))))
    refine aU (jd _ _ _ _ _ _ i (bH 2 K P) (aR 2 (bN b)) _ (hh.bf (i := 0) rfl) (hh.bf (i := 1) rfl) (dE (by omega) _ _) (gd _) (by omega) (by omega) (by omega)) av.out rfl (by decide) ?_
    rintro e_ w_ ⟨b27, rfl, hown_, hb_⟩
    refine ⟨_, rfl, ?_⟩
    rw [fc, bT hPb] at hown_
    replace hh := (hh.bj (x := .row _ _ _ _ _ _) hb_ hown_).sub (.cons_cons _ (.cons _ (List.Sublist.refl _)))
    refine aL (aD (a0 (ai (aq (mI ?_)))))
    refine bz (aI (aD (ai ?_)))
    refine ⟨⟨i + 1, _, _, _, _, by omega, rfl, ?_, rfl, by omega, hb2, hh⟩, by show xs.length - (i + 1) < xs.length - i; omega, ?_⟩
    ·rw [hsn, hP, Nat.add_mul, Nat.mul_one, Nat.mul_comm (2 ^ i)]
    ·(repeat (first | exact aw _ _ _ | refine az rfl ?_ | refine au rfl ?_))
  ·rw [List.take_of_length_le (by omega), hX] at hP
   refine ah (sr (mI (mL (a7 ?_))))
   refine aK (aa (cF ?_))
   refine aY ?_
   refine ay (ay (bm (ai (sr (mL ?_)))))
   refine bB hh (du _ _ _ (bH 2 K P) _ (hh.bf (i := 0) rfl) (dE (by omega) _ _) (hh.cU (i := 0) rfl) (by omega)) rfl ?_
   intro w29 hh
   rw [bT hPb, hP]
   refine aS (aa (ao ?_))
   refine cx ?_
   exact ⟨rfl, hh.below⟩
theorem wE (X Y k : Nat) (hY : 0 < Y) : X / 2 ^ k % Y = (if Y ≤ X / 2 ^ k % 2 + 2 * (X / 2 ^ (k + 1) % Y) then X / 2 ^ k % 2 + 2 * (X / 2 ^ (k + 1) % Y) - Y else X / 2 ^ k % 2 + 2 * (X / 2 ^ (k + 1) % Y)) ∧
  X / 2 ^ k / Y % 2 = (if Y ≤ X / 2 ^ k % 2 + 2 * (X / 2 ^ (k + 1) % Y) then 1 else 0) ∧ X / 2 ^ k / Y / 2 = X / 2 ^ (k + 1) / Y := by
 have h1 := iQ X k
 have hb : X / 2 ^ k % 2 < 2 := Nat.mod_lt _ (by omega)
 generalize X / 2 ^ k % 2 = b at *
 generalize X / 2 ^ k = Z at *
 generalize X / 2 ^ (k + 1) = V at *
 have h2 := Nat.div_add_mod V Y
 have h3 := Nat.mod_lt V hY
 generalize V / Y = q at *
 generalize V % Y = r at *
 have e : Z = (b + 2 * r) + Y * (2 * q) := by rw [h1, ← h2, Nat.mul_add, Nat.mul_left_comm]; omega
 rw [e, Nat.add_mul_mod_self_left, Nat.add_mul_div_left _ _ hY]
 by_cases hc : Y ≤ b + 2 * r
 ·rw [if_pos hc, if_pos hc]
  have e2 : b + 2 * r = (b + 2 * r - Y) + Y * 1 := by omega
  have h4 : b + 2 * r - Y < Y := by omega
  have h5 : (b + 2 * r) / Y = 1 := by rw [e2, Nat.add_mul_div_left _ _ hY, Nat.div_eq_of_lt h4]
  have h6 : (b + 2 * r) % Y = b + 2 * r - Y := by conv => lhs; rw [e2, Nat.add_mul_mod_self_left, Nat.mod_eq_of_lt h4]
  rw [h5, h6]
  omega
 ·rw [if_neg hc, if_neg hc, Nat.mod_eq_of_lt (by omega), Nat.div_eq_of_lt (by omega)]
  omega
theorem ka (a b : ByteArray) (w : World) (ha : a.size ≤ 1000000000) (hb : b.size ≤ 1000000000) (hb0 : bN b ≠ 0) :
  Calls Tryz.prog 189 #[.string a, .string b] w fun e w' => e = .returned (.tuple #[.string (sN (bN a / bN b)), .string (sN (bN a % bN b)), .bool true]) ∧ Below w.heap.size w w' := by
 have hh := Hp.start w
 have h1 := eR a
 have h2 := eR b
 have hX := fc (bN a)
 have hXd := gd (bN a)
 have hXl : bN a < 2 ^ (aR 2 (bN a)).length := ct _
 have hYp : 0 < (aR 2 (bN b)).length := k9 hb0
 have hget : ∀ k, k < (aR 2 (bN a)).length → (aR 2 (bN a))[k]? = some (bN a / 2 ^ k % 2) := fun k hk => rk (by omega) hk
 refine aj (N := 52) (l := [.string a, .string b]) Tryz.func189 rfl rfl (by simp) ?_
 refine sr (aS (aS (aB (aa (sr (mS ?_))))))
 refine aU (cn a _ ha) av.out rfl (by decide) ?_
 rintro e_ w13 ⟨A13, c13, rfl, hown_, hb_⟩
 refine ⟨_, rfl, ?_⟩
 replace hh := hh.bj (x := .row _ _ _ _ _ _) hb_ hown_
 refine mS ?_
 refine aU (cn b _ hb) av.out rfl (by decide) ?_
 rintro e_ w15 ⟨A15, c15, rfl, hown_, hb_⟩
 refine ⟨_, rfl, ?_⟩
 replace hh := hh.bj (x := .row _ _ _ _ _ _) hb_ hown_
 refine aL (aL (aa (ah (sr (mL (a7 ?_))))))
 refine cV (aa (cF (ak (ai (sr (mL (a7 ?_)))))))
 refine gn hh rfl rfl rfl rfl aN.out aA.out rfl (by omega) (by omega) (by decide) ?_
 intro b21 w21 hh
 refine aL (aa (sr (aL (aa (ah (sr (mL (a7 ?_))))))))
 refine eo (aI (aa (al ?_)))
 rw [kV] at hh
 generalize hxs : aR 2 (bN a) = xs at *
 replace hh := hh.eW 5 1
 refine bY [10, 11, 25, 26, 27, 28, 29, 30, 31, 32, 33, 34, 35, 36, 37, 38, 39, 40, 41, 42, 43, 44, 45, 46, 47] 10 11
  (fun v j w' => ∃ (k : Nat) (A : Option Addr) (c' : Nat), k ≤ xs.length ∧ j = .int .i64 ((k : Int) - 1) ∧ v = .slice A (aR 2 (bN a / 2 ^ k % bN b)).length c' ∧ Hp w [.row A (aR 2 (bN a / 2 ^ k % bN b)).length c' 5 1 (ff (aR 2 (bN a / 2 ^ k % bN b))), .row (some ⟨b21, 0, none⟩) xs.length xs.length 5 1 (ff (List.replicate k 0 ++ bH 2 (xs.length - k) (bN a / 2 ^ k / bN b))), .row A15 (aR 2 (bN b)).length c15 5 1 (ff (aR 2 (bN b))), .row A13 xs.length c13 5 1 (ff xs)] w')
  (fun _ j _ => (intOf j + 1).toNat) ?_ ?_
 ·refine ⟨xs.length, none, 0, Nat.le_refl _, rfl, ?_, ?_⟩
  ·rw [Nat.div_eq_of_lt hXl, Nat.zero_mod, eX (by omega)]; rfl
  ·rw [Nat.div_eq_of_lt hXl, Nat.zero_mod, eX (by omega), Nat.sub_self]; simp only [bH, List.append_nil]; exact hh
 ·clear hh
  rintro ρ' v j w' ⟨k, A, c', hk, rfl, rfl, hh⟩
  by_cases h0 : k = 0
  ·subst h0
   rw [Nat.pow_zero, Nat.div_one, Nat.sub_zero, List.replicate_zero, List.nil_append] at hh
   rw [Nat.pow_zero, Nat.div_one]
   have hq : bN a / bN b < 2 ^ xs.length := Nat.lt_of_le_of_lt (Nat.div_le_self _ _) hXl
   have hrl : (aR 2 (bN a % bN b)).length ≤ (aR 2 (bN b)).length := j5 (by omega) (Nat.le_of_lt (Nat.mod_lt _ (by omega)))
   refine ah (sr (mI ?_))
   refine dn (aa (cF ?_))
   refine aY ?_
   refine ay (ay (bm (ai (sr (mL ?_)))))
   refine bB hh (du _ _ _ (bH 2 xs.length (bN a / bN b)) _ (hh.bf (i := 1) rfl) (dE (by omega) _ _) (Nat.le_refl _) (by omega)) rfl ?_
   intro w49 hh
   rw [bT hq]
   refine mL ?_
   refine bB hh (du _ _ _ (aR 2 (bN a % bN b)) _ (hh.bf (i := 0) rfl) (gd _) (hh.cU (i := 0) rfl) (by omega)) rfl ?_
   intro w51 hh
   rw [fc]
   refine aS (aS (aB (aa (ao ?_))))
   refine Bp ?_
   exact ⟨rfl, hh.below⟩
  ·obtain ⟨i, rfl⟩ : ∃ i, k = i + 1 := ⟨k - 1, by omega⟩
   have hji : ((i + 1 : Nat) : Int) - 1 = (i : Int) := by omega
   obtain ⟨d1, d2, d3⟩ := wE (bN a) (bN b) i (by omega)
   have hgi := kv (hget i (by omega))
   have hdw : bN a / 2 ^ i % 2 < 2 := Nat.mod_lt _ (by omega)
   have hrl : (aR 2 (bN a / 2 ^ (i + 1) % bN b)).length ≤ (aR 2 (bN b)).length := j5 (by omega) (Nat.le_of_lt (Nat.mod_lt _ (by omega)))
   have hqk : bH 2 (xs.length - i) (bN a / 2 ^ i / bN b) = (bN a / 2 ^ i / bN b % 2) :: bH 2 (xs.length - (i + 1)) (bN a / 2 ^ (i + 1) / bN b) := by
    rw [show xs.length - i = (xs.length - (i + 1)) + 1 by omega, bH, d3]
   rw [hji]
   obtain ⟨g, rfl⟩ := hh.ea (i := 3) rfl (by omega)
   refine ah (sr (mI ?_))
   refine dn (aa (cT (ak (ai (ah (al (sr (mL (mI ?_)))))))))
   refine bA (k := i) aN.out aA.size rfl rfl (by omega) (by omega) (by decide) ?_
   refine aV aA.out rfl (hh.cE (i := 3) rfl (by first | assumption | (simp only [Nat.mul_one]; assumption))) (by decide) ?_
   refine bo hh (cs := [_]) aN.out aA.out (a6 (bM rfl) bR) rfl rfl (by decide) (by decide) (by decide) rfl (by decide) ?_
   intro b33 w33 hh
   refine mL ?_
   refine df hh (i := 0) rfl rfl rfl (hh.bf (i := 1) rfl) aN.out aA.out rfl (by decide) (by first | rfl | exact dr _ | exact cH _ | exact bW _ | exact cz NR.one _) (by omega) (by omega) (by decide) ?_
   intro A35 c35 w35 hh
   simp only [List.set_cons_zero] at hh
   have e35 : [Value.int .u8 ((bN a / 2 ^ i % 2 : Nat) : Int)] ++ ff (aR 2 (bN a / 2 ^ (i + 1) % bN b)) = ff ((bN a / 2 ^ i % 2) :: aR 2 (bN a / 2 ^ (i + 1) % bN b)) := rfl
   rw [e35] at hh
   generalize hR : bN a / 2 ^ (i + 1) % bN b = R at *
   generalize hbt : bN a / 2 ^ i % 2 = bt at *
   have hdg : Dg 2 (bt :: aR 2 R) := Dg.cons hdw (gd _)
   have hcv : dh (bt :: aR 2 R) = aR 2 (bt + 2 * R) := by rw [eF (by omega) hdg, bq, fc]
   have hll : (bt :: aR 2 R).length = 1 + (aR 2 R).length := by rw [List.length_cons]; omega
   have hcl := eB (bt :: aR 2 R)
   refine bB hh (iP _ _ _ (bt :: aR 2 R) _ (hh.bf (i := 0) rfl) (hh.cU (i := 0) rfl) (by omega)) rfl ?_
   intro w36 hh
   replace hh := hh.zn hll
   rw [hcv] at hh hcl
   rw [hcv]
   refine aL (aa (sr (mL (mL ?_))))
   refine bB hh (ju _ _ _ _ _ _ (aR 2 (bt + 2 * R)) (aR 2 (bN b)) _ (hh.bf (i := 0) rfl) (hh.bf (i := 3) rfl) (gd _) (gd _) (by omega) (by omega)) rfl ?_
   intro w39 hh
   rw [fc, fc]
   by_cases hge : bN b ≤ bt + 2 * R
   ·have hc : 0 ≤ il (bt + 2 * R) (bN b) := by unfold il; rw [if_neg (by omega)]; split <;> omega
    rw [if_pos hge] at d1 d2
    have hml : bt + 2 * R - bN b < 2 ^ (aR 2 (bt + 2 * R)).length := Nat.lt_of_le_of_lt (Nat.sub_le _ _) (ct _)
    have hcm : dh (bH 2 (aR 2 (bt + 2 * R)).length (bt + 2 * R - bN b)) = aR 2 (bt + 2 * R - bN b) := by rw [eF (by omega) (dE (by omega) _ _), bT hml]
    refine dn (aa (cT (sr (mL (mL ?_)))))
    refine aU (kP _ _ _ _ _ _ (aR 2 (bt + 2 * R)) (aR 2 (bN b)) _ (hh.bf (i := 0) rfl) (hh.bf (i := 3) rfl) (gd _) (gd _) (by omega) (by omega) (by rw [fc, fc]; exact hge)) av.out rfl (by decide) ?_
    rintro e_ w_ ⟨b43, rfl, hown_, hb_⟩
    refine ⟨_, rfl, ?_⟩
    replace hh := hh.bj (x := .row _ _ _ _ _ _) hb_ hown_
    rw [fc, fc] at hh
    refine bB hh (iP _ _ _ (bH 2 (aR 2 (bt + 2 * R)).length (bt + 2 * R - bN b)) _ (hh.bf (i := 0) rfl) (Nat.le_refl _) (by omega)) rfl ?_
    intro w44 hh
    replace hh := hh.zn (aP _ _)
    rw [hcm] at hh
    rw [hcm]
    have hql : (ff (List.replicate (i + 1) 0 ++ bH 2 (xs.length - (i + 1)) (bN a / 2 ^ (i + 1) / bN b))).length = xs.length := by rw [cj, List.length_append, List.length_replicate, aP]; omega
    refine aL (aa (aq (mL (mI ?_))))
    refine bA (k := i) aN.out aA.size rfl rfl (by omega) (by omega) (by decide) ?_
    refine bF hh (i := 3) (vs := [_]) rfl rfl (bM rfl) rfl aA.out rfl (by rw [hql]; omega) rfl ?_
    intro ws hh
    simp only [List.set_cons_zero, List.set_cons_succ] at hh
    rw [Nat.mul_one, cd (by rw [hql]; omega)] at hh
    have hset : (ff (List.replicate (i + 1) 0 ++ bH 2 (xs.length - (i + 1)) (bN a / 2 ^ (i + 1) / bN b))).set i (.int .u8 1) = ff (List.replicate i 0 ++ bH 2 (xs.length - i) (bN a / 2 ^ i / bN b)) := by
     have := jQ (List.replicate (i + 1) 0 ++ bH 2 (xs.length - (i + 1)) (bN a / 2 ^ (i + 1) / bN b)) i 1
     rw [hqk, d2, ← tI]
     exact this
    rw [hset] at hh
    replace hh := hh.sub (.cons_cons _ (.cons _ (.cons _ (List.Sublist.refl _))))
    refine aD (a0 (ai (aq (mI ?_))))
    refine eo (aI (aD (ai ?_)))
    refine ⟨⟨i, _, _, by omega, rfl, by rw [d1]; rfl, by rw [d1]; exact hh⟩, by show ((i : Int) - 1 + 1).toNat < ((i : Int) + 1).toNat; omega, ?_⟩
    (repeat (first | exact aw _ _ _ | refine az rfl ?_ | refine au rfl ?_))
   ·have hc : ¬ 0 ≤ il (bt + 2 * R) (bN b) := by rw [iU (by omega)]; omega
    rw [if_neg hge] at d1 d2
    refine dn (aa (cF (ak (a0 (ai (aq (mI ?_)))))))
    refine eo (aI (aD (ai ?_)))
    have hrep : List.replicate (i + 1) 0 ++ bH 2 (xs.length - (i + 1)) (bN a / 2 ^ (i + 1) / bN b) = List.replicate i 0 ++ bH 2 (xs.length - i) (bN a / 2 ^ i / bN b) := by
     rw [hqk, d2, List.replicate_succ', List.append_assoc]; rfl
    rw [hrep] at hh
    replace hh := hh.sub (.cons_cons _ (.cons _ (List.Sublist.refl _)))
    refine ⟨⟨i, _, _, by omega, rfl, by rw [d1]; rfl, by rw [d1]; exact hh⟩, by show ((i : Int) - 1 + 1).toNat < ((i : Int) + 1).toNat; omega, ?_⟩
    (repeat (first | exact aw _ _ _ | refine az rfl ?_ | refine au rfl ?_))
end Go.Proofs.YtioilmppidlbnaaGreatDoor
/- The walks through the document's answer for whole numbers (ogeeref02), as far as layer 4 needs it. -/
namespace Go.Proofs.YtioilmppidlbnaaGreatDoor
open Go.RowKit
theorem j0 {n : Nat} : bu n = 0 ↔ n = 0 := by
 constructor
 ·intro h
  have := ct n
  rw [h] at this
  omega
 ·intro h; rw [h]; exact iE
theorem jR {a b : Nat} (h : a ≤ b) : bu a ≤ bu b := cN (Nat.lt_of_le_of_lt h (ct b))
theorem u5 (a b : Nat) : bu (a + b) ≤ bu a + bu b + 1 := by
 apply cN
 have h1 := ct a
 have h2 := ct b
 have h3 : 2 ^ bu a ≤ 2 ^ (bu a + bu b) := Nat.pow_le_pow_right (by omega) (by omega)
 have h4 : 2 ^ bu b ≤ 2 ^ (bu a + bu b) := Nat.pow_le_pow_right (by omega) (by omega)
 rw [Nat.pow_succ]
 omega
theorem cu (s : Bool) (m : ByteArray) (w : World) (hm : m.size ≤ 1000000000) :
  Calls Tryz.prog 147 #[.agg #[.bool s, .string m]] w fun e w' => e = .returned (.agg #[.bool (iN (iv s m)), .string (iM (iv s m))]) ∧ Below w.heap.size w w' := by
 have hh := Hp.start w
 have h1 := eR m
 rw [yl, ta]
 cases s with
 | false =>
  refine aj (N := 16) (l := [.agg #[.bool false, .string m]]) Tryz.func147 rfl rfl (by simp) ?_
  refine sr ?_
  refine cw hh [_,_] ?_
  intro b1 w1 hh
  refine cf hh ?_
  intro b2 w2 hh
  refine aa (sr (bG ?_))
  refine bI hh 1 ?_
  refine aU (cn m _ hm) av.out rfl (by decide) ?_
  rintro e_ w6 ⟨A6, c6, rfl, hown_, hb_⟩
  refine ⟨_, rfl, ?_⟩
  replace hh := hh.bj (x := .row _ _ _ _ _ _) hb_ hown_
  refine bB hh (du _ _ _ (aR 2 (bN m)) _ (hh.bf (i := 0) rfl) (gd _) (hh.cU (i := 0) rfl) (by omega)) rfl ?_
  intro w7 hh
  rw [fc]
  refine aS (aa (sr (bG ?_)))
  refine bI hh 2 ?_
  refine mB ?_
  first | refine gS ?_ | (refine gT ?_; refine mS ?_) | refine gV ?_
  first | refine gS ?_ | (refine gT ?_; (first | refine fF rfl rfl (by first | rfl | assumption | decide) (by decide) ?_ | refine fC rfl rfl (by first | assumption | decide) (by decide) ?_)) | refine gV ?_
  first | refine db ?_ | refine de ?_
  refine mS ?_
  refine fg [_,_] ?_
  refine bD hh 1 [_,_] ?_
  intro ws hh
  replace hh : Hp _ (_ :: .blk _ _ [_, _] _ :: _) _ := hh
  refine aa (ao ?_)
  refine eG (aG rfl (aF (vs := [_, _]) aA.out (hh.ar (i := 1) (n := 2) rfl rfl) rfl) bg) ?_
  exact ⟨rfl, hh.below⟩
 | true =>
  by_cases h0 : sN (bN m) = ByteArray.mk #[]
  ·refine aj (N := 16) (l := [.agg #[.bool true, .string m]]) Tryz.func147 rfl rfl (by simp) ?_
   refine sr ?_
   refine cw hh [_,_] ?_
   intro b1 w1 hh
   refine cf hh ?_
   intro b2 w2 hh
   refine aa (sr (bG ?_))
   refine bI hh 1 ?_
   refine aU (cn m _ hm) av.out rfl (by decide) ?_
   rintro e_ w6 ⟨A6, c6, rfl, hown_, hb_⟩
   refine ⟨_, rfl, ?_⟩
   replace hh := hh.bj (x := .row _ _ _ _ _ _) hb_ hown_
   refine bB hh (du _ _ _ (aR 2 (bN m)) _ (hh.bf (i := 0) rfl) (gd _) (hh.cU (i := 0) rfl) (by omega)) rfl ?_
   intro w7 hh
   rw [fc]
   refine aS (aa (sr (bG ?_)))
   refine bI hh 2 ?_
   refine mB ?_
   first | refine gS ?_ | (refine gT ?_; refine mS ?_) | refine gV ?_
   first | refine gS ?_ | (refine gT ?_; (first | refine fF rfl rfl (by first | rfl | assumption | decide) (by decide) ?_ | refine fC rfl rfl (by first | assumption | decide) (by decide) ?_)) | refine gV ?_
   first | refine db ?_ | refine de ?_
   refine mS ?_
   refine fg [_,_] ?_
   refine bD hh 1 [_,_] ?_
   intro ws hh
   replace hh : Hp _ (_ :: .blk _ _ [_, _] _ :: _) _ := hh
   refine aa (ao ?_)
   refine eG (aG rfl (aF (vs := [_, _]) aA.out (hh.ar (i := 1) (n := 2) rfl rfl) rfl) bg) ?_
   have h1 : bN m = 0 := by rw [← gH] at h0; exact rz h0
   rw [decide_eq_false (by omega)]
   exact ⟨rfl, hh.below⟩
  ·refine aj (N := 16) (l := [.agg #[.bool true, .string m]]) Tryz.func147 rfl rfl (by simp) ?_
   refine sr ?_
   refine cw hh [_,_] ?_
   intro b1 w1 hh
   refine cf hh ?_
   intro b2 w2 hh
   refine aa (sr (bG ?_))
   refine bI hh 1 ?_
   refine aU (cn m _ hm) av.out rfl (by decide) ?_
   rintro e_ w6 ⟨A6, c6, rfl, hown_, hb_⟩
   refine ⟨_, rfl, ?_⟩
   replace hh := hh.bj (x := .row _ _ _ _ _ _) hb_ hown_
   refine bB hh (du _ _ _ (aR 2 (bN m)) _ (hh.bf (i := 0) rfl) (gd _) (hh.cU (i := 0) rfl) (by omega)) rfl ?_
   intro w7 hh
   rw [fc]
   refine aS (aa (sr (bG ?_)))
   refine bI hh 2 ?_
   refine mB ?_
   first | refine gS ?_ | (refine gT ?_; refine mS ?_) | refine gV ?_
   first | refine gS ?_ | (refine gT ?_; (first | refine fF rfl rfl (by first | rfl | assumption | decide) (by decide) ?_ | refine fC rfl rfl (by first | assumption | decide) (by decide) ?_)) | refine gV ?_
   first | refine db ?_ | refine de ?_
   refine mS ?_
   refine fg [_,_] ?_
   refine bD hh 1 [_,_] ?_
   intro ws hh
   replace hh : Hp _ (_ :: .blk _ _ [_, _] _ :: _) _ := hh
   refine aa (ao ?_)
   refine eG (aG rfl (aF (vs := [_, _]) aA.out (hh.ar (i := 1) (n := 2) rfl rfl) rfl) bg) ?_
   have h1 : bN m ≠ 0 := fun h => h0 (by rw [h, gH])
   rw [decide_eq_true h1]
   exact ⟨rfl, hh.below⟩
theorem rW (s : Bool) (m : ByteArray) (w : World) (hm : m.size ≤ 1000000000) :
  Calls Tryz.prog 228 #[.agg #[.bool s, .string m]] w fun e w' => e = .returned (.agg #[.bool (iN (-(iv s m))), .string (iM (-(iv s m)))]) ∧ Below w.heap.size w w' := by
 have hh := Hp.start w
 have e1 : iv (!s) m = -(iv s m) := by unfold iv; cases s <;> simp
 refine aj (N := 10) (l := [.agg #[.bool s, .string m]]) Tryz.func228 rfl rfl (by simp) ?_
 refine sr ?_
 refine cw hh [_,_] ?_
 intro b1 w1 hh
 refine cf hh ?_
 intro b2 w2 hh
 refine aa (sr (bG ?_))
 refine bI hh 1 ?_
 refine qF ?_
 refine bG ?_
 refine bI hh 1 ?_
 refine fg [_,_] ?_
 refine bB hh (cu (!s) m _ hm) rfl ?_
 intro w9 hh
 rw [e1]
 refine bD hh 0 [_,_] ?_
 intro ws hh
 replace hh : Hp _ (.blk _ _ [_, _] _ :: _) _ := hh
 refine aa (ao ?_)
 refine eG (aG rfl (aF (vs := [_, _]) aA.out (hh.ar (i := 0) (n := 2) rfl rfl) rfl) bg) ?_
 exact ⟨rfl, hh.below⟩
theorem gy (s : Bool) (m : ByteArray) (w : World) (hm : m.size ≤ 1000000000) :
  Calls Tryz.prog 146 #[.agg #[.bool s, .string m]] w fun e w' => e = .returned (.int .i64 (iv s m).sign) ∧ Below w.heap.size w w' := by
 have hh := Hp.start w
 by_cases h0 : bN m = 0
 ·have hb : bu (bN m) = 0 := j0.2 h0
  refine aj (N := 9) (l := [.agg #[.bool s, .string m]]) Tryz.func146 rfl rfl (by simp) ?_
  refine sr ?_
  refine cw hh [_,_] ?_
  intro b1 w1 hh
  refine aI (aa (ah (sr (bG ?_))))
  refine bI hh 0 ?_
  refine bB hh (kf m _ hm) rfl ?_
  intro w5 hh
  refine cV (aa (cT (sr (aI (aa (ao (aQ ?_)))))))
  refine cx ?_
  have hz : iv s m = 0 := by unfold iv; split <;> omega
  exact ⟨by rw [hz]; rfl, hh.below⟩
 ·have hb : bu (bN m) ≠ 0 := fun h => h0 (j0.1 h)
  cases s with
  | true =>
   refine aj (N := 9) (l := [.agg #[.bool true, .string m]]) Tryz.func146 rfl rfl (by simp) ?_
   refine sr ?_
   refine cw hh [_,_] ?_
   intro b1 w1 hh
   refine aI (aa (ah (sr (bG ?_))))
   refine bI hh 0 ?_
   refine bB hh (kf m _ hm) rfl ?_
   intro w5 hh
   refine cV (aa (cF (ak (ai (ah (sr (bG ?_)))))))
   refine bI hh 0 ?_
   refine aa (cT (sr (aI (aa (ao (aQ ?_))))))
   refine cx ?_
   have hz : iv true m < 0 := by unfold iv; rw [if_pos rfl]; omega
   exact ⟨by rw [Int.sign_eq_neg_one_of_neg hz], hh.below⟩
  | false =>
   refine aj (N := 9) (l := [.agg #[.bool false, .string m]]) Tryz.func146 rfl rfl (by simp) ?_
   refine sr ?_
   refine cw hh [_,_] ?_
   intro b1 w1 hh
   refine aI (aa (ah (sr (bG ?_))))
   refine bI hh 0 ?_
   refine bB hh (kf m _ hm) rfl ?_
   intro w5 hh
   refine cV (aa (cF (ak (ai (ah (sr (bG ?_)))))))
   refine bI hh 0 ?_
   refine aa (cF (ak (ai (sr (aI (aa (ao ?_)))))))
   refine cx ?_
   have hz : 0 < iv false m := by unfold iv; rw [if_neg (by simp)]; omega
   exact ⟨by rw [Int.sign_eq_one_of_pos hz], hh.below⟩
theorem lM (n : Int) (w : World) (h1 : -9223372036854775808 ≤ n) (h2 : n ≤ 9223372036854775807) :
  Calls Tryz.prog 139 #[.int .i64 n] w fun e w' => e = .returned (.agg #[.bool (iN n), .string (iM n)]) ∧ Below w.heap.size w w' := by
 have hh := Hp.start w
 by_cases h0 : n < 0
 ·have hn : iN n = true := decide_eq_true h0
  obtain ⟨m, hm⟩ := Int.eq_ofNat_of_zero_le (by omega : 0 ≤ -(n + 1))
  have ha : n.natAbs = m + 1 := by omega
  have hw : (m + 1) % 18446744073709551616 = m + 1 := Nat.mod_eq_of_lt (by omega)
  refine aj (N := 16) (l := [.int .i64 n]) Tryz.func139 rfl rfl (by simp) ?_
  refine sr ?_
  refine cf hh ?_
  intro b2 w2 hh
  refine aa (ah (sr (mI ?_)))
  refine aK (aa (cT (sr (mI ?_))))
  refine bz ?_
  refine lA rfl (by omega) (by omega) (by decide) ?_
  rw [show -(n + 1) = (m : Int) from hm]
  first | refine cJ aN.out aN.out rfl (by first | assumption | omega) (by decide) ?_ | refine eL aN.out aN.out rfl (by decide) ?_
  refine fQ (b := 1) rfl rfl (by decide) ?_
  rw [hw]
  refine bB hh (oB (m + 1) _ (by omega)) rfl ?_
  intro w10 hh
  rw [← ha]
  refine fg [_,_] ?_
  refine bD hh 0 [_,_] ?_
  intro ws hh
  replace hh : Hp _ (.blk _ _ [_, _] _ :: _) _ := hh
  refine aa (ao (aQ ?_))
  refine eG (aG rfl (aF (vs := [_, _]) aA.out (hh.ar (i := 0) (n := 2) rfl rfl) rfl) bg) ?_
  rw [hn]
  exact ⟨rfl, hh.below⟩
 ·obtain ⟨m, rfl⟩ := Int.eq_ofNat_of_zero_le (by omega : 0 ≤ n)
  have hn : iN (m : Int) = false := decide_eq_false (by omega)
  have hm : m < 18446744073709551616 := by omega
  have e1 : iM (m : Int) = sN m := rfl
  refine aj (N := 16) (l := [.int .i64 (m : Int)]) Tryz.func139 rfl rfl (by simp) ?_
  refine sr ?_
  refine cf hh ?_
  intro b2 w2 hh
  refine aa (ah (sr (mI ?_)))
  refine aK (aa (cF (ak (ai (sr (mI ?_))))))
  first | refine cJ aN.out aN.out rfl (by first | assumption | omega) (by decide) ?_ | refine eL aN.out aN.out rfl (by decide) ?_
  refine bB hh (oB m _ hm) rfl ?_
  intro w14 hh
  refine fg [_,_] ?_
  refine bD hh 0 [_,_] ?_
  intro ws hh
  replace hh : Hp _ (.blk _ _ [_, _] _ :: _) _ := hh
  refine aa (ao ?_)
  refine eG (aG rfl (aF (vs := [_, _]) aA.out (hh.ar (i := 0) (n := 2) rfl rfl) rfl) bg) ?_
  rw [hn, e1]
  exact ⟨rfl, hh.below⟩
theorem ji (s t : Bool) (a b : ByteArray) (w : World) (ha : a.size ≤ 100000000) (hb : b.size ≤ 100000000) :
  Calls Tryz.prog 104 #[.agg #[.bool s, .string a], .agg #[.bool t, .string b]] w fun e w' => e = .returned (.agg #[.bool (iN (iv s a + iv t b)), .string (iM (iv s a + iv t b))]) ∧ Below w.heap.size w w' := by
 have hh := Hp.start w
 have hba := ew a
 have hbb := ew b
 by_cases hst : s = t
 ·subst hst
  have e1 : iv s (sN (bN a + bN b)) = iv s a + iv s b := by unfold iv; rw [dZ]; split <;> omega
  have hsz : (sN (bN a + bN b)).size ≤ 1000000000 := by rw [gp]; have := u5 (bN a) (bN b); omega
  rw [← e1]
  refine aj (N := 49) (l := [.agg #[.bool s, .string a], .agg #[.bool s, .string b]]) Tryz.func104 rfl rfl (by simp) ?_
  refine sr ?_
  refine cw hh [_,_] ?_
  intro b2 w2 hh
  refine cw hh [_,_] ?_
  intro b3 w3 hh
  refine cf hh ?_
  intro b4 w4 hh
  refine aa (ah (sr (bG ?_)))
  refine bI hh 2 ?_
  refine bG ?_
  refine bI hh 1 ?_
  first | refine jT aN.out rfl rfl (by first | rfl | assumption) (by decide) ?_ | refine jS aN.out rfl rfl (by first | rfl | assumption | decide) (by decide) ?_ | refine s_eql_bool aN.out rfl rfl (by decide) ?_
  refine aa (cT (ah ?_))
  refine aE 8 [[(2, none)], [(12, some 0)], [(2, none)], [(14, some 2)], [(3, none)], [(16, some 4)], [(15, some 3), (17, some 5)], [(18, some 6)]] [(7, 19), (6, 18), (5, 17), (4, 16), (3, 15), (2, 14), (1, 13), (0, 12)] hh mixed (by kernel_rfl) ?_
  refine dT ?_
  refine eY 2 ?_
  refine dT ?_
  refine eY 2 ?_
  refine dT ?_
  refine eY 1 ?_
  refine uT [_,_] ?_
  refine bC (i := 7) (Is (.string (sN (bN a + bN b)))) Is.ext ?_ ?_
  ·intro ρ1 w1 hj hR
   obtain ⟨A18, c18, h18, s18⟩ := hR.1
   exact bV rfl (bJ av.out (aM h18 bE)) (rP A18 2 c18 [a, b] _ s18 (by omega) (by simp; omega)) (fun _ _ hq => ⟨_, hq.1, hq.2, rfl⟩)
  refine aW ?_
  intro f W hJ hV
  have hb_2 := hJ.bl
  obtain ⟨v19, v18, v17, v16, v15, v14, v13, v12, _⟩ := hV
  obtain ⟨A18, c18, e18, f18⟩ : Rows _ _ _ (f 6) W := v18
  replace hh := hJ.hp
  refine aJ (aZ (ae v19 (ae e18 (ae v17 (ae v16 (ae v15 (ae v14 (ae v13 (ae v12 aH))))))))) ?_
  dsimp only [bQ]
  clear e18 hJ
  refine fg [_,_] ?_
  refine bB hh (cu s (sN (bN a + bN b)) _ hsz) rfl ?_
  intro w21 hh
  refine bD hh 0 [_,_] ?_
  intro ws hh
  replace hh : Hp _ (.blk _ _ [_, _] _ :: _) _ := hh
  refine aa (ao (aQ ?_))
  refine eG (aG rfl (aF (vs := [_, _]) aA.out (hh.ar (i := 0) (n := 2) rfl rfl) rfl) bg) ?_
  exact ⟨rfl, hh.below⟩
 ·by_cases hle : bN b ≤ bN a
  ·have e1 : iv s (sN (bN a - bN b)) = iv s a + iv t b := by unfold iv; rw [dZ]; cases s <;> cases t <;> simp at hst ⊢ <;> omega
   have hsz : (sN (bN a - bN b)).size ≤ 1000000000 := by rw [gp]; have := jR (show bN a - bN b ≤ bN a by omega); omega
   rw [← e1]
   refine aj (N := 49) (l := [.agg #[.bool s, .string a], .agg #[.bool t, .string b]]) Tryz.func104 rfl rfl (by simp) ?_
   refine sr ?_
   refine cw hh [_,_] ?_
   intro b2 w2 hh
   refine cw hh [_,_] ?_
   intro b3 w3 hh
   refine cf hh ?_
   intro b4 w4 hh
   refine aa (ah (sr (bG ?_)))
   refine bI hh 2 ?_
   refine bG ?_
   refine bI hh 1 ?_
   first | refine jT aN.out rfl rfl (by first | rfl | assumption) (by decide) ?_ | refine jS aN.out rfl rfl (by first | rfl | assumption | decide) (by decide) ?_ | refine s_eql_bool aN.out rfl rfl (by decide) ?_
   refine aa (cF (ak (ai (sr (bG ?_)))))
   refine bI hh 2 ?_
   refine bG ?_
   refine bI hh 1 ?_
   refine bB hh (kb a b _ (by omega) (by omega)) rfl ?_
   intro w27 hh
   rw [decide_eq_true hle]
   refine mT ?_
   refine fp ?_
   refine fp ?_
   refine aS (aB (aa (ah (sr (mB (aa (cT (sr (bG ?_)))))))))
   refine bI hh 2 ?_
   refine mS ?_
   refine fg [_,_] ?_
   refine bB hh (cu s (sN (bN a - bN b)) _ hsz) rfl ?_
   intro w35 hh
   refine bD hh 0 [_,_] ?_
   intro ws hh
   replace hh : Hp _ (.blk _ _ [_, _] _ :: _) _ := hh
   refine aa (ao (aQ ?_))
   refine eG (aG rfl (aF (vs := [_, _]) aA.out (hh.ar (i := 0) (n := 2) rfl rfl) rfl) bg) ?_
   exact ⟨rfl, hh.below⟩
  ·have e1 : iv t (sN (bN b - bN a)) = iv s a + iv t b := by unfold iv; rw [dZ]; cases s <;> cases t <;> simp at hst ⊢ <;> omega
   have hsz : (sN (bN b - bN a)).size ≤ 1000000000 := by rw [gp]; have := jR (show bN b - bN a ≤ bN b by omega); omega
   rw [← e1]
   refine aj (N := 49) (l := [.agg #[.bool s, .string a], .agg #[.bool t, .string b]]) Tryz.func104 rfl rfl (by simp) ?_
   refine sr ?_
   refine cw hh [_,_] ?_
   intro b2 w2 hh
   refine cw hh [_,_] ?_
   intro b3 w3 hh
   refine cf hh ?_
   intro b4 w4 hh
   refine aa (ah (sr (bG ?_)))
   refine bI hh 2 ?_
   refine bG ?_
   refine bI hh 1 ?_
   first | refine jT aN.out rfl rfl (by first | rfl | assumption) (by decide) ?_ | refine jS aN.out rfl rfl (by first | rfl | assumption | decide) (by decide) ?_ | refine s_eql_bool aN.out rfl rfl (by decide) ?_
   refine aa (cF (ak (ai (sr (bG ?_)))))
   refine bI hh 2 ?_
   refine bG ?_
   refine bI hh 1 ?_
   refine bB hh (kb a b _ (by omega) (by omega)) rfl ?_
   intro w27 hh
   rw [decide_eq_false hle]
   refine mT ?_
   refine fp ?_
   refine fp ?_
   refine aS (aB (aa (ah (sr (mB (aa (cF (ak (ai (sr (bG ?_)))))))))))
   refine bI hh 1 ?_
   refine bG ?_
   refine bI hh 2 ?_
   refine bB hh (kb b a _ (by omega) (by omega)) rfl ?_
   intro w41 hh
   refine mT ?_
   refine fp ?_
   refine fp ?_
   refine aS (aa (sr (bG ?_)))
   refine bI hh 1 ?_
   refine mS ?_
   refine fg [_,_] ?_
   refine bB hh (cu t (sN (bN b - bN a)) _ hsz) rfl ?_
   intro w48 hh
   refine bD hh 0 [_,_] ?_
   intro ws hh
   replace hh : Hp _ (.blk _ _ [_, _] _ :: _) _ := hh
   refine aa (ao ?_)
   refine eG (aG rfl (aF (vs := [_, _]) aA.out (hh.ar (i := 0) (n := 2) rfl rfl) rfl) bg) ?_
   exact ⟨rfl, hh.below⟩
theorem pt (s t : Bool) (a b : ByteArray) (w : World) (ha : a.size ≤ 100000000) (hb : b.size ≤ 100000000) :
  Calls Tryz.prog 119 #[.agg #[.bool s, .string a], .agg #[.bool t, .string b]] w fun e w' => e = .returned (.agg #[.bool (iN (iv s a * iv t b)), .string (iM (iv s a * iv t b))]) ∧ Below w.heap.size w w' := by
 have hh := Hp.start w
 have hba := ew a
 have hbb := ew b
 have e0 : (iv s a * iv t b).natAbs = bN a * bN b := by rw [Int.natAbs_mul, gg, gg]
 have e1 : iM (iv s a * iv t b) = sN (bN a * bN b) := by rw [iM, e0]
 have e2 : iv (s != t) (sN (bN a * bN b)) = iv s a * iv t b := by rw [← e1, nO]
 have hsz : (sN (bN a * bN b)).size ≤ 1000000000 := by rw [gp]; have := qu (bN a) (bN b); omega
 rw [← e2]
 refine aj (N := 17) (l := [.agg #[.bool s, .string a], .agg #[.bool t, .string b]]) Tryz.func119 rfl rfl (by simp) ?_
 refine sr ?_
 refine cw hh [_,_] ?_
 intro b2 w2 hh
 refine cw hh [_,_] ?_
 intro b3 w3 hh
 refine cf hh ?_
 intro b4 w4 hh
 refine aa (ah ?_)
 refine aE 10 [[(2, none)], [(5, some 0)], [(3, none)], [(7, some 2)], [(6, some 1), (8, some 3)], [(2, none)], [(10, some 5)], [(3, none)], [(12, some 7)], [(11, some 6), (13, some 8)]] [(9, 14), (8, 13), (7, 12), (6, 11), (5, 10), (4, 9), (3, 8), (2, 7), (1, 6), (0, 5)] hh mixed (by kernel_rfl) ?_
 refine dT ?_
 refine eY 2 ?_
 refine dT ?_
 refine eY 1 ?_
 first | refine bh (i := 4) (fun ρ1 w1 hj hR => pr aN.out (show ρ1 6 = Value.bool _ from hR.1) (show ρ1 8 = Value.bool _ from hR.2.1) (by first | rfl | assumption)) ?_ | refine bh (i := 4) (fun ρ1 w1 hj hR => pV aN.out (show ρ1 6 = Value.bool _ from hR.1) (show ρ1 8 = Value.bool _ from hR.2.1) (by first | assumption | decide)) ?_ | refine bh (i := 4) (fun ρ1 w1 hj hR => iI aN.out (show ρ1 6 = Value.bool _ from hR.1) (show ρ1 8 = Value.bool _ from hR.2.1)) ?_
 refine dT ?_
 refine eY 2 ?_
 refine dT ?_
 refine eY 1 ?_
 refine dC (fun _ hj => r6 a b _ (by omega) (by omega)) ?_
 refine aW ?_
 intro f W hJ hV
 have hb_1 := hJ.bl
 obtain ⟨v14, v13, v12, v11, v10, v9, v8, v7, v6, v5, _⟩ := hV
 replace hh := hJ.hp
 refine aJ (aZ (ae v14 (ae v13 (ae v12 (ae v11 (ae v10 (ae v9 (ae v8 (ae v7 (ae v6 (ae v5 aH))))))))))) ?_
 dsimp only [bQ]
 clear hJ
 refine fg [_,_] ?_
 refine bB hh (cu (s != t) (sN (bN a * bN b)) _ hsz) rfl ?_
 intro w16 hh
 refine bD hh 0 [_,_] ?_
 intro ws hh
 replace hh : Hp _ (.blk _ _ [_, _] _ :: _) _ := hh
 refine aa (ao ?_)
 refine eG (aG rfl (aF (vs := [_, _]) aA.out (hh.ar (i := 0) (n := 2) rfl rfl) rfl) bg) ?_
 exact ⟨rfl, hh.below⟩
theorem rV (s : Bool) (a : ByteArray) (k : Nat) (w : World) (ha : a.size ≤ 100000000) (hk : k ≤ 1000000000) :
  Calls Tryz.prog 105 #[.agg #[.bool s, .string a], .int .i64 (k : Int)] w fun e w' => e = .returned (.agg #[.bool (iN (iv s a * 2 ^ k)), .string (iM (iv s a * 2 ^ k))]) ∧ Below w.heap.size w w' := by
 have hh := Hp.start w
 have hba := ew a
 have e2 : iv s (sN (bN a * 2 ^ k)) = iv s a * 2 ^ k := by unfold iv; rw [dZ]; split <;> simp [Int.neg_mul]
 have hsz : (sN (bN a * 2 ^ k)).size ≤ 1000000000 := by rw [gp]; have := fW (bN a) k; omega
 rw [← e2]
 refine aj (N := 43) (l := [.agg #[.bool s, .string a], .int .i64 (k : Int)]) Tryz.func105 rfl rfl (by simp) ?_
 refine sr ?_
 refine cw hh [_,_] ?_
 intro b2 w2 hh
 refine cf hh ?_
 intro b4 w4 hh
 refine aa (ah (sr (mI ?_)))
 refine dn (aa (cT (ah ?_)))
 refine aE 6 [[(2, none)], [(12, some 0)], [(2, none)], [(14, some 2)], [(1, none)], [(15, some 3), (16, some 4)]] [(5, 17), (4, 16), (3, 15), (2, 14), (1, 13), (0, 12)] hh mixed (by kernel_rfl) ?_
 refine dT ?_
 refine eY 1 ?_
 refine dT ?_
 refine eY 1 ?_
 refine dk ?_
 refine dC (fun _ hj => rD a k _ (by omega) (by omega)) ?_
 refine aW ?_
 intro f W hJ hV
 have hb_2 := hJ.bl
 obtain ⟨v17, v16, v15, v14, v13, v12, _⟩ := hV
 replace hh := hJ.hp
 refine aJ (aZ (ae v17 (ae v16 (ae v15 (ae v14 (ae v13 (ae v12 aH))))))) ?_
 dsimp only [bQ]
 clear hJ
 refine fg [_,_] ?_
 refine bB hh (cu s (sN (bN a * 2 ^ k)) _ hsz) rfl ?_
 intro w19 hh
 refine bD hh 0 [_,_] ?_
 intro ws hh
 replace hh : Hp _ (.blk _ _ [_, _] _ :: _) _ := hh
 refine aa (ao (aQ ?_))
 refine eG (aG rfl (aF (vs := [_, _]) aA.out (hh.ar (i := 0) (n := 2) rfl rfl) rfl) bg) ?_
 exact ⟨rfl, hh.below⟩
theorem ki (z : Int) (B : Nat) (q r : Int) (h : r + B * q = z) (h0 : 0 ≤ r) (h1 : r < B) : z / B = q ∧ z % B = r :=
 (Int.ediv_emod_unique (by omega)).2 ⟨h, h0, h1⟩
theorem so (s : Bool) (a b : ByteArray) (w : World) (ha : a.size ≤ 10000000) (hb : b.size ≤ 10000000) (hb0 : bN b ≠ 0) :
  Calls Tryz.prog 148 #[.agg #[.bool s, .string a], .agg #[.bool false, .string b]] w fun e w' => e = .returned (.tuple #[.agg #[.bool (iN (iv s a / bN b)), .string (iM (iv s a / bN b))], .agg #[.bool (iN (iv s a % bN b)), .string (iM (iv s a % bN b))], .bool true]) ∧ Below w.heap.size w w' := by
 have hh := Hp.start w
 have hba := ew a
 have hbb := ew b
 have hmod : bN a % bN b < bN b := Nat.mod_lt _ (by omega)
 have hdm : bN b * (bN a / bN b) + bN a % bN b = bN a := Nat.div_add_mod _ _
 have hdm' : (bN b : Int) * ((bN a / bN b : Nat) : Int) + ((bN a % bN b : Nat) : Int) = (bN a : Int) := by rw [← Int.natCast_mul, ← Int.natCast_add, hdm]
 have hqs : (sN (bN a / bN b)).size ≤ 10000000 := by rw [gp]; have := jR (Nat.div_le_self (bN a) (bN b)); omega
 have hrs : (sN (bN a % bN b)).size ≤ 10000000 := by rw [gp]; have := jR (show bN a % bN b ≤ bN b by omega); omega
 have hqz : ∀ u, (iM (iv u (sN (bN a / bN b)))).size ≤ 10000000 := fun u => by rw [ta, dZ]; exact hqs
 have hrz : ∀ u, (iM (iv u (sN (bN a % bN b)))).size ≤ 10000000 := fun u => by rw [ta, dZ]; exact hrs
 by_cases hneg : s = true ∧ bN a % bN b ≠ 0
 ·obtain ⟨rfl, hne⟩ := hneg
  have e1 : iv true (sN (bN a / bN b)) = -((bN a / bN b : Nat) : Int) := by unfold iv; rw [dZ, if_pos rfl]
  have e2 : iv true (sN (bN a % bN b)) = -((bN a % bN b : Nat) : Int) := by unfold iv; rw [dZ, if_pos rfl]
  have hlt : (iv true (sN (bN a % bN b))).sign < 0 := by rw [e2, Int.sign_eq_neg_one_of_neg (by omega)]; omega
  have e3 : iv true a = -(bN a : Int) := by unfold iv; rw [if_pos rfl]
  obtain ⟨q1, q2⟩ := ki (iv true a) (bN b) (-((bN a / bN b : Nat) : Int) + -1) ((bN b : Int) - ((bN a % bN b : Nat) : Int)) (by rw [e3, ← hdm', Int.mul_add, Int.mul_neg]; omega) (by omega) (by omega)
  have e4 : iv false b = (bN b : Int) := by unfold iv; rw [if_neg (by simp)]
  have hp2 : (bN b : Int).sign = 1 := Int.sign_eq_one_of_pos (by omega)
  refine aj (N := 57) (l := [.agg #[.bool true, .string a], .agg #[.bool false, .string b]]) Tryz.func148 rfl rfl (by simp) ?_
  refine sr ?_
  refine cw hh [_,_] ?_
  intro b2 w2 hh
  refine cw hh [_,_] ?_
  intro b3 w3 hh
  refine cf hh ?_
  intro b4 w4 hh
  refine cf hh ?_
  intro b5 w5 hh
  refine aB (aa (sr (bG ?_)))
  refine bI hh 3 ?_
  refine bG ?_
  refine bI hh 2 ?_
  refine bB hh (ka a b _ (by omega) (by omega) hb0) rfl ?_
  intro w18 hh
  refine mT ?_
  refine fp ?_
  refine fp ?_
  refine fp ?_
  refine aS (aS (aB (aa (ah (sr (mB ?_))))))
  refine qF ?_
  refine aa (cF (ak (ai (sr (bG ?_)))))
  refine bI hh 3 ?_
  refine bG ?_
  refine bI hh 2 ?_
  first | refine pZ aN.out rfl rfl (by first | rfl | assumption) (by decide) ?_ | refine pI aN.out rfl rfl (by first | assumption | decide) (by decide) ?_ | refine s_neq_bool aN.out rfl rfl (by decide) ?_
  refine mS ?_
  refine fg [_,_] ?_
  refine bB hh (cu true (sN (bN a / bN b)) _ (by omega)) rfl ?_
  intro w33 hh
  refine cf hh ?_
  intro b10 w10 hh
  refine bD hh 0 [_,_] ?_
  intro ws hh
  replace hh : Hp _ (.blk _ _ [_, _] _ :: _) _ := hh
  refine aa (sr (bG ?_))
  refine bI hh 4 ?_
  refine mS ?_
  refine fg [_,_] ?_
  refine bB hh (cu true (sN (bN a % bN b)) _ (by omega)) rfl ?_
  intro w38 hh
  refine cf hh ?_
  intro b11 w11 hh
  refine bD hh 0 [_,_] ?_
  intro ws hh
  replace hh : Hp _ (.blk _ _ [_, _] _ :: _) _ := hh
  refine aa (ah (sr ?_))
  refine da hh 0 [_,_] ?_
  refine bB hh (gy (iN (iv true (sN (bN a % bN b)))) (iM (iv true (sN (bN a % bN b)))) _ (by have := hrz true; omega)) rfl ?_
  intro w40 hh
  rw [eD]
  refine aK (aa (cT (sr ?_)))
  refine da hh 0 [_,_] (bG ?_)
  refine bI hh 4 ?_
  refine fg [_,_] ?_
  refine bB hh (ji (iN (iv true (sN (bN a % bN b)))) false (iM (iv true (sN (bN a % bN b)))) b _ (by have := hrz true; omega) (by omega)) rfl ?_
  intro w46 hh
  rw [eD, e2, e4, show -((bN a % bN b : Nat) : Int) + (bN b : Int) = (bN b : Int) - ((bN a % bN b : Nat) : Int) by omega, ← q2]
  refine bD hh 0 [_,_] ?_
  intro ws hh
  replace hh : Hp _ (.blk _ _ [_, _] _ :: _) _ := hh
  refine aa (sr ?_)
  refine bB hh (lM (-1) _ (by omega) (by omega)) rfl ?_
  intro w47 hh
  refine cf hh ?_
  intro b12 w12 hh
  refine bD hh 0 [_,_] ?_
  intro ws hh
  replace hh : Hp _ (.blk _ _ [_, _] _ :: _) _ := hh
  refine aa (ah (sr ?_))
  refine da hh 5 [_,_] ?_
  refine bB hh (gy false b _ (by omega)) rfl ?_
  intro w49 hh
  rw [e4, hp2]
  refine aK (aa (cF (ak (ai (aq ?_)))))
  refine da hh 2 [_,_] ?_
  refine da hh 0 [_,_] ?_
  refine bB hh (ji (iN (iv true (sN (bN a / bN b)))) (iN (-1)) (iM (iv true (sN (bN a / bN b)))) (iM (-1)) _ (by have := hqz true; omega) (by decide)) rfl ?_
  intro w54 hh
  rw [eD, eD, e1, ← q1]
  refine bD hh 2 [_,_] ?_
  intro ws hh
  replace hh : Hp _ (_ :: _ :: .blk _ _ [_, _] _ :: _) _ := hh
  refine aa (ah ?_)
  refine pR hh mixed fun w_ hj_ => ?_
  replace hh := hj_.hp
  clear hj_
  refine lH (i := 0) (i2 := 1) (by kernel_rfl) rfl rfl ?_ ?_
  ·refine da hh 2 [_,_] ?_
   refine ee ?_
   refine lH (i := 1) (i2 := 2) (by kernel_rfl) rfl rfl ?_ ?_
   ·refine da hh 1 [_,_] ?_
    refine ee ?_
    refine gB (i := 2) (by kernel_rfl) rfl ?_
    refine bD hh 4 [_,_] ?_
    intro ws hh
    replace hh : Hp _ (_ :: _ :: _ :: _ :: .blk _ _ [_, _] _ :: _) _ := hh
    refine ee ?_
    refine fR 3 (by decide) (by kernel_rfl) (by decide) (by kernel_rfl) (by kernel_rfl) ?_
    refine bD hh 3 [_,_] ?_
    intro ws hh
    replace hh : Hp _ (_ :: _ :: _ :: .blk _ _ [_, _] _ :: _) _ := hh
    refine aB (aa (ao ?_))
    refine sH (aG rfl (aF (vs := [_, _]) aA.out (hh.ar (i := 4) (n := 2) rfl rfl) rfl) (aG rfl (aF (vs := [_, _]) aA.out (hh.ar (i := 3) (n := 2) rfl rfl) rfl) (dW (fo rfl) bg))) ?_
    exact ⟨rfl, hh.below⟩
   ·refine bD hh 4 [_,_] ?_
    intro ws hh
    replace hh : Hp _ (_ :: _ :: _ :: _ :: .blk _ _ [_, _] _ :: _) _ := hh
    refine ee ?_
    refine gB (i := 1) (by kernel_rfl) rfl ?_
    refine da hh 1 [_,_] ?_
    refine ee ?_
    refine fR 3 (by decide) (by kernel_rfl) (by decide) (by kernel_rfl) (by kernel_rfl) ?_
    refine bD hh 3 [_,_] ?_
    intro ws hh
    replace hh : Hp _ (_ :: _ :: _ :: .blk _ _ [_, _] _ :: _) _ := hh
    refine aB (aa (ao ?_))
    refine sH (aG rfl (aF (vs := [_, _]) aA.out (hh.ar (i := 4) (n := 2) rfl rfl) rfl) (aG rfl (aF (vs := [_, _]) aA.out (hh.ar (i := 3) (n := 2) rfl rfl) rfl) (dW (fo rfl) bg))) ?_
    exact ⟨rfl, hh.below⟩
  ·refine da hh 1 [_,_] ?_
   refine ee ?_
   refine gB (i := 0) (by kernel_rfl) rfl ?_
   refine da hh 2 [_,_] ?_
   refine ee ?_
   refine gB (i := 2) (by kernel_rfl) rfl ?_
   refine bD hh 4 [_,_] ?_
   intro ws hh
   replace hh : Hp _ (_ :: _ :: _ :: _ :: .blk _ _ [_, _] _ :: _) _ := hh
   refine ee ?_
   refine fR 3 (by decide) (by kernel_rfl) (by decide) (by kernel_rfl) (by kernel_rfl) ?_
   refine bD hh 3 [_,_] ?_
   intro ws hh
   replace hh : Hp _ (_ :: _ :: _ :: .blk _ _ [_, _] _ :: _) _ := hh
   refine aB (aa (ao ?_))
   refine sH (aG rfl (aF (vs := [_, _]) aA.out (hh.ar (i := 4) (n := 2) rfl rfl) rfl) (aG rfl (aF (vs := [_, _]) aA.out (hh.ar (i := 3) (n := 2) rfl rfl) rfl) (dW (fo rfl) bg))) ?_
   exact ⟨rfl, hh.below⟩
 ·have e4 : iv s a / bN b = iv s (sN (bN a / bN b)) ∧ iv s a % bN b = iv s (sN (bN a % bN b)) := by
   cases s with
   | false =>
    have f0 : ∀ x, iv false x = (bN x : Int) := fun x => by unfold iv; rw [if_neg (by simp)]
    rw [f0, f0, f0, dZ, dZ]
    exact ki _ _ _ _ (by omega) (by omega) (by omega)
   | true =>
    have r0 : bN a % bN b = 0 := by
     rcases Nat.eq_zero_or_pos (bN a % bN b) with h | h
     ·exact h
     ·exact absurd ⟨rfl, by omega⟩ hneg
    have f0 : ∀ x, iv true x = -(bN x : Int) := fun x => by unfold iv; rw [if_pos rfl]
    rw [f0, f0, f0, dZ, dZ, r0]
    rw [r0] at hdm'
    exact ki _ _ _ _ (by rw [Int.mul_neg]; omega) (by omega) (by omega)
  have h5 : ¬ (iv s (sN (bN a % bN b))).sign < 0 := by
   have h6 : 0 ≤ iv s (sN (bN a % bN b)) := by rw [← e4.2]; exact Int.emod_nonneg _ (by omega)
   have := Int.sign_nonneg_iff.2 h6
   omega
  rw [e4.1, e4.2]
  cases s with
  | false =>
   refine aj (N := 57) (l := [.agg #[.bool false, .string a], .agg #[.bool false, .string b]]) Tryz.func148 rfl rfl (by simp) ?_
   refine sr ?_
   refine cw hh [_,_] ?_
   intro b2 w2 hh
   refine cw hh [_,_] ?_
   intro b3 w3 hh
   refine cf hh ?_
   intro b4 w4 hh
   refine cf hh ?_
   intro b5 w5 hh
   refine aB (aa (sr (bG ?_)))
   refine bI hh 3 ?_
   refine bG ?_
   refine bI hh 2 ?_
   refine bB hh (ka a b _ (by omega) (by omega) hb0) rfl ?_
   intro w18 hh
   refine mT ?_
   refine fp ?_
   refine fp ?_
   refine fp ?_
   refine aS (aS (aB (aa (ah (sr (mB ?_))))))
   refine qF ?_
   refine aa (cF (ak (ai (sr (bG ?_)))))
   refine bI hh 3 ?_
   refine bG ?_
   refine bI hh 2 ?_
   first | refine pZ aN.out rfl rfl (by first | rfl | assumption) (by decide) ?_ | refine pI aN.out rfl rfl (by first | assumption | decide) (by decide) ?_ | refine s_neq_bool aN.out rfl rfl (by decide) ?_
   refine mS ?_
   refine fg [_,_] ?_
   refine bB hh (cu false (sN (bN a / bN b)) _ (by omega)) rfl ?_
   intro w33 hh
   refine cf hh ?_
   intro b10 w10 hh
   refine bD hh 0 [_,_] ?_
   intro ws hh
   replace hh : Hp _ (.blk _ _ [_, _] _ :: _) _ := hh
   refine aa (sr (bG ?_))
   refine bI hh 4 ?_
   refine mS ?_
   refine fg [_,_] ?_
   refine bB hh (cu false (sN (bN a % bN b)) _ (by omega)) rfl ?_
   intro w38 hh
   refine cf hh ?_
   intro b11 w11 hh
   refine bD hh 0 [_,_] ?_
   intro ws hh
   replace hh : Hp _ (.blk _ _ [_, _] _ :: _) _ := hh
   refine aa (ah (sr ?_))
   refine da hh 0 [_,_] ?_
   refine bB hh (gy (iN (iv false (sN (bN a % bN b)))) (iM (iv false (sN (bN a % bN b)))) _ (by have := hrz false; omega)) rfl ?_
   intro w40 hh
   rw [eD]
   refine aK (aa (cF (ak (ai (ah ?_)))))
   refine pR hh mixed fun w_ hj_ => ?_
   replace hh := hj_.hp
   clear hj_
   refine lH (i := 0) (i2 := 1) (by kernel_rfl) rfl rfl ?_ ?_
   ·refine da hh 1 [_,_] ?_
    refine ee ?_
    refine lH (i := 1) (i2 := 2) (by kernel_rfl) rfl rfl ?_ ?_
    ·refine da hh 0 [_,_] ?_
     refine ee ?_
     refine gB (i := 2) (by kernel_rfl) rfl ?_
     refine bD hh 3 [_,_] ?_
     intro ws hh
     replace hh : Hp _ (_ :: _ :: _ :: .blk _ _ [_, _] _ :: _) _ := hh
     refine ee ?_
     refine fR 3 (by decide) (by kernel_rfl) (by decide) (by kernel_rfl) (by kernel_rfl) ?_
     refine bD hh 2 [_,_] ?_
     intro ws hh
     replace hh : Hp _ (_ :: _ :: .blk _ _ [_, _] _ :: _) _ := hh
     refine aB (aa (ao ?_))
     refine sH (aG rfl (aF (vs := [_, _]) aA.out (hh.ar (i := 3) (n := 2) rfl rfl) rfl) (aG rfl (aF (vs := [_, _]) aA.out (hh.ar (i := 2) (n := 2) rfl rfl) rfl) (dW (fo rfl) bg))) ?_
     exact ⟨rfl, hh.below⟩
    ·refine bD hh 3 [_,_] ?_
     intro ws hh
     replace hh : Hp _ (_ :: _ :: _ :: .blk _ _ [_, _] _ :: _) _ := hh
     refine ee ?_
     refine gB (i := 1) (by kernel_rfl) rfl ?_
     refine da hh 0 [_,_] ?_
     refine ee ?_
     refine fR 3 (by decide) (by kernel_rfl) (by decide) (by kernel_rfl) (by kernel_rfl) ?_
     refine bD hh 2 [_,_] ?_
     intro ws hh
     replace hh : Hp _ (_ :: _ :: .blk _ _ [_, _] _ :: _) _ := hh
     refine aB (aa (ao ?_))
     refine sH (aG rfl (aF (vs := [_, _]) aA.out (hh.ar (i := 3) (n := 2) rfl rfl) rfl) (aG rfl (aF (vs := [_, _]) aA.out (hh.ar (i := 2) (n := 2) rfl rfl) rfl) (dW (fo rfl) bg))) ?_
     exact ⟨rfl, hh.below⟩
   ·refine da hh 0 [_,_] ?_
    refine ee ?_
    refine gB (i := 0) (by kernel_rfl) rfl ?_
    refine da hh 1 [_,_] ?_
    refine ee ?_
    refine gB (i := 2) (by kernel_rfl) rfl ?_
    refine bD hh 3 [_,_] ?_
    intro ws hh
    replace hh : Hp _ (_ :: _ :: _ :: .blk _ _ [_, _] _ :: _) _ := hh
    refine ee ?_
    refine fR 3 (by decide) (by kernel_rfl) (by decide) (by kernel_rfl) (by kernel_rfl) ?_
    refine bD hh 2 [_,_] ?_
    intro ws hh
    replace hh : Hp _ (_ :: _ :: .blk _ _ [_, _] _ :: _) _ := hh
    refine aB (aa (ao ?_))
    refine sH (aG rfl (aF (vs := [_, _]) aA.out (hh.ar (i := 3) (n := 2) rfl rfl) rfl) (aG rfl (aF (vs := [_, _]) aA.out (hh.ar (i := 2) (n := 2) rfl rfl) rfl) (dW (fo rfl) bg))) ?_
    exact ⟨rfl, hh.below⟩
  | true =>
   refine aj (N := 57) (l := [.agg #[.bool true, .string a], .agg #[.bool false, .string b]]) Tryz.func148 rfl rfl (by simp) ?_
   refine sr ?_
   refine cw hh [_,_] ?_
   intro b2 w2 hh
   refine cw hh [_,_] ?_
   intro b3 w3 hh
   refine cf hh ?_
   intro b4 w4 hh
   refine cf hh ?_
   intro b5 w5 hh
   refine aB (aa (sr (bG ?_)))
   refine bI hh 3 ?_
   refine bG ?_
   refine bI hh 2 ?_
   refine bB hh (ka a b _ (by omega) (by omega) hb0) rfl ?_
   intro w18 hh
   refine mT ?_
   refine fp ?_
   refine fp ?_
   refine fp ?_
   refine aS (aS (aB (aa (ah (sr (mB ?_))))))
   refine qF ?_
   refine aa (cF (ak (ai (sr (bG ?_)))))
   refine bI hh 3 ?_
   refine bG ?_
   refine bI hh 2 ?_
   first | refine pZ aN.out rfl rfl (by first | rfl | assumption) (by decide) ?_ | refine pI aN.out rfl rfl (by first | assumption | decide) (by decide) ?_ | refine s_neq_bool aN.out rfl rfl (by decide) ?_
   refine mS ?_
   refine fg [_,_] ?_
   refine bB hh (cu true (sN (bN a / bN b)) _ (by omega)) rfl ?_
   intro w33 hh
   refine cf hh ?_
   intro b10 w10 hh
   refine bD hh 0 [_,_] ?_
   intro ws hh
   replace hh : Hp _ (.blk _ _ [_, _] _ :: _) _ := hh
   refine aa (sr (bG ?_))
   refine bI hh 4 ?_
   refine mS ?_
   refine fg [_,_] ?_
   refine bB hh (cu true (sN (bN a % bN b)) _ (by omega)) rfl ?_
   intro w38 hh
   refine cf hh ?_
   intro b11 w11 hh
   refine bD hh 0 [_,_] ?_
   intro ws hh
   replace hh : Hp _ (.blk _ _ [_, _] _ :: _) _ := hh
   refine aa (ah (sr ?_))
   refine da hh 0 [_,_] ?_
   refine bB hh (gy (iN (iv true (sN (bN a % bN b)))) (iM (iv true (sN (bN a % bN b)))) _ (by have := hrz true; omega)) rfl ?_
   intro w40 hh
   rw [eD]
   refine aK (aa (cF (ak (ai (ah ?_)))))
   refine pR hh mixed fun w_ hj_ => ?_
   replace hh := hj_.hp
   clear hj_
   refine lH (i := 0) (i2 := 1) (by kernel_rfl) rfl rfl ?_ ?_
   ·refine da hh 1 [_,_] ?_
    refine ee ?_
    refine lH (i := 1) (i2 := 2) (by kernel_rfl) rfl rfl ?_ ?_
    ·refine da hh 0 [_,_] ?_
     refine ee ?_
     refine gB (i := 2) (by kernel_rfl) rfl ?_
     refine bD hh 3 [_,_] ?_
     intro ws hh
     replace hh : Hp _ (_ :: _ :: _ :: .blk _ _ [_, _] _ :: _) _ := hh
     refine ee ?_
     refine fR 3 (by decide) (by kernel_rfl) (by decide) (by kernel_rfl) (by kernel_rfl) ?_
     refine bD hh 2 [_,_] ?_
     intro ws hh
     replace hh : Hp _ (_ :: _ :: .blk _ _ [_, _] _ :: _) _ := hh
     refine aB (aa (ao ?_))
     refine sH (aG rfl (aF (vs := [_, _]) aA.out (hh.ar (i := 3) (n := 2) rfl rfl) rfl) (aG rfl (aF (vs := [_, _]) aA.out (hh.ar (i := 2) (n := 2) rfl rfl) rfl) (dW (fo rfl) bg))) ?_
     exact ⟨rfl, hh.below⟩
    ·refine bD hh 3 [_,_] ?_
     intro ws hh
     replace hh : Hp _ (_ :: _ :: _ :: .blk _ _ [_, _] _ :: _) _ := hh
     refine ee ?_
     refine gB (i := 1) (by kernel_rfl) rfl ?_
     refine da hh 0 [_,_] ?_
     refine ee ?_
     refine fR 3 (by decide) (by kernel_rfl) (by decide) (by kernel_rfl) (by kernel_rfl) ?_
     refine bD hh 2 [_,_] ?_
     intro ws hh
     replace hh : Hp _ (_ :: _ :: .blk _ _ [_, _] _ :: _) _ := hh
     refine aB (aa (ao ?_))
     refine sH (aG rfl (aF (vs := [_, _]) aA.out (hh.ar (i := 3) (n := 2) rfl rfl) rfl) (aG rfl (aF (vs := [_, _]) aA.out (hh.ar (i := 2) (n := 2) rfl rfl) rfl) (dW (fo rfl) bg))) ?_
     exact ⟨rfl, hh.below⟩
   ·refine da hh 0 [_,_] ?_
    refine ee ?_
    refine gB (i := 0) (by kernel_rfl) rfl ?_
    refine da hh 1 [_,_] ?_
    refine ee ?_
    refine gB (i := 2) (by kernel_rfl) rfl ?_
    refine bD hh 3 [_,_] ?_
    intro ws hh
    replace hh : Hp _ (_ :: _ :: _ :: .blk _ _ [_, _] _ :: _) _ := hh
    refine ee ?_
    refine fR 3 (by decide) (by kernel_rfl) (by decide) (by kernel_rfl) (by kernel_rfl) ?_
    refine bD hh 2 [_,_] ?_
    intro ws hh
    replace hh : Hp _ (_ :: _ :: .blk _ _ [_, _] _ :: _) _ := hh
    refine aB (aa (ao ?_))
    refine sH (aG rfl (aF (vs := [_, _]) aA.out (hh.ar (i := 3) (n := 2) rfl rfl) rfl) (aG rfl (aF (vs := [_, _]) aA.out (hh.ar (i := 2) (n := 2) rfl rfl) rfl) (dW (fo rfl) bg))) ?_
    exact ⟨rfl, hh.below⟩
end Go.Proofs.YtioilmppidlbnaaGreatDoor
/- Several texts in one: RDyA, RDyB, RDyC. -/
namespace Go.Proofs.YtioilmppidlbnaaGreatDoor
open Go.RowKit
theorem tP {n : Nat} (h : n ≠ 0) : sb n = sb (n / 256) ++ [UInt8.ofNat (n % 256)] := by
 rw [sb, tZ (by omega) h, List.map_cons, List.reverse_cons]
 rfl
theorem tk {n : Nat} (h : n ≠ 0) : 1 ≤ (sN n).size ∧ ∃ c : UInt8, (sN n).data.toList[(((sN n).size : Int) - 1).toNat]? = some c ∧ c.toNat = n % 256 := by
 have hl : (sN n).data.toList = sb (n / 256) ++ [UInt8.ofNat (n % 256)] := by rw [sN, eO, tP h]
 have hs : (sN n).size = (sb (n / 256)).length + 1 := by rw [iV, hl, List.length_append]; rfl
 refine ⟨by omega, UInt8.ofNat (n % 256), ?_, ?_⟩
 ·rw [hl, hs, List.getElem?_append_right (by omega)]
  have : (((sb (n / 256)).length + 1 : Nat) - 1 : Int).toNat - (sb (n / 256)).length = 0 := by omega
  rw [this]
  rfl
 ·simp
theorem yW {n : Nat} (h : n ≠ 0) : (sN n).extract 0 ((sN n).size - 1) = sN (n / 256) := by
 have hl : (sN n).data = (sb (n / 256) ++ [UInt8.ofNat (n % 256)]).toArray := by rw [sN, ← tP h]; rfl
 have hs : (sN n).size = (sb (n / 256)).length + 1 := by rw [iV, hl, List.length_append]; rfl
 apply ByteArray.ext
 rw [ByteArray.data_extract, hl, hs]
 show _ = (sb (n / 256)).toArray
 simp
theorem yS {k : Int} (h : 0 < k) (y : Int) : iN (y * k) = iN y := by
 unfold iN
 rw [decide_eq_decide]
 constructor
 ·intro h1
  rcases Int.lt_trichotomy y 0 with h2 | h2 | h2
  ·exact h2
  ·rw [h2] at h1; simp at h1
  ·have := Int.mul_pos h2 h; omega
 ·intro h1
  exact Int.mul_neg_of_neg_of_pos h1 h
theorem yJ {n : Nat} (h : n % 2 = 1) : tz n = 0 := by
 have := tE 0 (n / 2)
 rwa [show 2 ^ 0 * (2 * (n / 2) + 1) = n by omega] at this
theorem vm {y z e : Int} {j : Nat} (hy : y.natAbs % 2 = 1) (hz : y * 2 ^ j = z) : nR (Dyadic.ofIntWithPrec z (-e)) = ⟨iN y, iM y, e + j⟩ := by
 have h1 := lQ (s := iN y) (a := iM y) (e := e + j) (by rw [eD]; omega)
 rw [eD, iM, dZ, yJ hy] at h1
 have h2 := jJ y (-(e + j)) j
 rw [hz, show -(e + (j : Int)) + j = -e by omega] at h2
 rw [h2, h1]
 simp
theorem mh {y z : Int} {j m : Nat} (hy : y ≠ 0) (hz : y * 2 ^ j = z) (hm : z.natAbs < 2 ^ m) : j < m := by
 have h1 : z.natAbs = y.natAbs * 2 ^ j := by rw [← hz, Int.natAbs_mul, Int.natAbs_pow]; rfl
 have h2 : 1 * 2 ^ j ≤ y.natAbs * 2 ^ j := Nat.mul_le_mul_right _ (by omega)
 have h3 : 2 ^ j < 2 ^ m := by omega
 exact (Nat.pow_lt_pow_iff_right (by omega)).1 h3
theorem jE (s : Bool) (a : ByteArray) (e : Int) (w : World) (ha : a.size ≤ 10000000) (h1 : -1000000000000 ≤ e) (h2 : e ≤ 1000000000000) :
  Calls Tryz.prog 103 #[.agg #[.bool s, .string a], .int .i64 e] w fun r w' => r = .returned (.agg #[.bool (nR (Dyadic.ofIntWithPrec (iv s a) (-e))).neg, .string (nR (Dyadic.ofIntWithPrec (iv s a) (-e))).bk, .int .i64 (nR (Dyadic.ofIntWithPrec (iv s a) (-e))).e]) ∧ Below w.heap.size w w' := by
 have hh := Hp.start w
 by_cases h0 : iv s a = 0
 ·have hm := mw.2 h0
  rw [h0] at hm
  refine aj (N := 50) (l := [.agg #[.bool s, .string a], .int .i64 e]) Tryz.func103 rfl rfl (by simp) ?_
  refine sr ?_
  refine cw hh [_,_] ?_
  intro b2 w2 hh
  refine cf hh ?_
  intro b4 w4 hh
  refine aa (sr ?_)
  refine da hh 1 [_,_] ?_
  refine bB hh (cu s a _ (by omega)) rfl ?_
  intro w6 hh
  rw [h0]
  refine bD hh 1 [_,_] ?_
  intro ws hh
  replace hh : Hp _ (_ :: .blk _ _ [_, _] _ :: _) _ := hh
  refine aa (ah (sr (bG ?_)))
  refine bI hh 1 ?_
  first | refine ef rfl rfl (by first | rfl | assumption | decide) (by decide) ?_ | refine ek rfl rfl (by first | assumption | decide) (by decide) ?_
  refine aa (cT (sr ?_))
  refine fg [_,_,_] ?_
  refine bD hh 0 [_,_,_] ?_
  intro ws hh
  replace hh : Hp _ (.blk _ _ [_, _, _] _ :: _) _ := hh
  refine aa (ao (aQ ?_))
  refine eG (aG rfl (aF (vs := [_, _, _]) aA.out (hh.ar (i := 0) (n := 3) rfl rfl) rfl) bg) ?_
  rw [iz, jM]
  exact ⟨rfl, hh.below⟩
 ·have hm : ¬ iM (iv s a) = ByteArray.mk #[] := fun h => h0 (mw.1 h)
  have hzb : (iv s a).natAbs < 2 ^ (8 * a.size) := by
   rw [gg, Nat.pow_mul]
   exact oY a
  refine aj (N := 50) (l := [.agg #[.bool s, .string a], .int .i64 e]) Tryz.func103 rfl rfl (by simp) ?_
  refine sr ?_
  refine cw hh [_,_] ?_
  intro b2 w2 hh
  refine cf hh ?_
  intro b4 w4 hh
  refine aa (sr ?_)
  refine da hh 1 [_,_] ?_
  refine bB hh (cu s a _ (by omega)) rfl ?_
  intro w6 hh
  refine bD hh 1 [_,_] ?_
  intro ws hh
  replace hh : Hp _ (_ :: .blk _ _ [_, _] _ :: _) _ := hh
  refine aa (ah (sr (bG ?_)))
  refine bI hh 1 ?_
  first | refine ef rfl rfl (by first | rfl | assumption | decide) (by decide) ?_ | refine ek rfl rfl (by first | assumption | decide) (by decide) ?_
  refine aa (cF (ak (ai (ah (al ?_)))))
  generalize hz : iv s a = z at *
  refine bx [1, 11, 12, 13, 14, 15, 16, 17, 18, 19, 20, 21, 22, 23, 24, 25, 26, 27, 28] 1
   (fun v w' => ∃ (y : Int) (j : Nat), y ≠ 0 ∧ y * 2 ^ j = z ∧ v = .int .i64 (e + j) ∧ Hp w [.blk b4 39 [.bool false, .string (ByteArray.mk #[]), .int .i64 0] (0, 0), .blk b2 37 [.bool (iN y), .string (iM y)] (0, 0)] w')
   (fun v _ => (e + 8 * a.size + 1 - intOf v).toNat) ?_ ?_
  ·exact ⟨z, 0, h0, by simp, by show Value.int _ _ = Value.int _ _; congr 1; omega, hh⟩
  ·clear hh
   rintro ρ' v w' ⟨y, j, hy, hyz, rfl, hh⟩
   have hj := mh hy hyz hzb
   obtain ⟨hs1, c, hc, hcn⟩ := tk (n := y.natAbs) (by omega)
   have hcut := yW (n := y.natAbs) (by omega)
   have hsz : (sN y.natAbs).size ≤ 10000000 := by
    have h1 : z.natAbs = y.natAbs * 2 ^ j := by rw [← hyz, Int.natAbs_mul, Int.natAbs_pow]; rfl
    have h2 : y.natAbs * 1 ≤ y.natAbs * 2 ^ j := Nat.mul_le_mul_left _ (Nat.pow_pos (by omega))
    have h3 : bu y.natAbs ≤ 8 * a.size := cN (by omega)
    rw [gp]
    omega
   change (iM y).data.toList[(((iM y).size : Int) - 1).toNat]? = some c at hc
   change 1 ≤ (iM y).size at hs1
   change (iM y).extract 0 ((iM y).size - 1) = _ at hcut
   change (iM y).size ≤ _ at hsz
   by_cases hb : y.natAbs % 256 = 0
   ·obtain ⟨x, rfl⟩ : ∃ x, y = x * 256 := ⟨y / 256, by omega⟩
    have hx : x ≠ 0 := fun h => hy (by rw [h]; rfl)
    have e1 : iN (x * 256) = iN x := yS (by omega) x
    have e2 : sN ((x * 256).natAbs / 256) = iM x := by rw [iM]; congr 1; omega
    have hxz : x * 2 ^ (j + 8) = z := by rw [← hyz, Int.pow_add, Int.mul_assoc, Int.mul_comm (2 ^ j)]; rfl
    have hj2 := mh hx hxz hzb
    refine ah (sr (bG ?_))
    refine bI hh 1 ?_
    refine bG ?_
    refine bI hh 1 ?_
    refine cD aN.out rfl (by decide) ?_
    refine eo ?_
    refine bU aN.out rfl rfl (by omega) (by assumption) (by decide) ?_
    refine cV (aa (cT (ak (ai (al (sr (bG ?_)))))))
    refine bI hh 1 ?_
    refine bG ?_
    refine bI hh 1 ?_
    refine cD aN.out rfl (by decide) ?_
    refine eo ?_
    refine l5 (l := 0) (h := ((iM (x * 256)).size - 1)) aN.out rfl rfl ⟨_, _, rfl, by omega⟩ (by omega) (by omega) (by decide) ?_
    refine bG ?_
    refine bD hh 1 [_] ?_
    intro ws hh
    replace hh : Hp _ (_ :: .blk _ _ [_, _] _ :: _) _ := hh
    refine aa (aq (mI ?_))
    refine bz (aI (aD (a0 (ai ?_))))
    rw [hcut, e2, e1] at hh
    refine ⟨⟨x, j + 8, hx, hxz, by show Value.int _ _ = Value.int _ _; congr 1; omega, hh⟩, by show (e + 8 * a.size + 1 - (e + j + 8)).toNat < (e + 8 * a.size + 1 - (e + j)).toNat; omega, ?_⟩
    (repeat (first | exact aw _ _ _ | refine az rfl ?_ | refine au rfl ?_))
   ·refine ah (sr (bG ?_))
    refine bI hh 1 ?_
    refine bG ?_
    refine bI hh 1 ?_
    refine cD aN.out rfl (by decide) ?_
    refine eo ?_
    refine bU aN.out rfl rfl (by omega) (by assumption) (by decide) ?_
    refine cV (aa (cF ?_))
    refine aY ?_
    refine ay (ay (bm (ai (ah (al ?_)))))
    refine bx [1, 29, 30, 31, 32, 33, 34, 35, 36, 37, 38, 39, 40, 41, 42, 43, 44, 45, 46] 1
     (fun v w' => ∃ (y : Int) (j : Nat), y ≠ 0 ∧ y * 2 ^ j = z ∧ v = .int .i64 (e + j) ∧ Hp w [.blk b4 39 [.bool false, .string (ByteArray.mk #[]), .int .i64 0] (0, 0), .blk b2 37 [.bool (iN y), .string (iM y)] (0, 0)] w')
     (fun v _ => (e + 8 * a.size + 1 - intOf v).toNat) ?_ ?_
    ·exact ⟨y, j, hy, hyz, rfl, hh⟩
    ·clear hh hb hcut hcn hc hs1 hsz hj hy hyz
     rintro ρ2 v w2 ⟨y, j, hy, hyz, rfl, hh⟩
     have hj := mh hy hyz hzb
     obtain ⟨hs1, c, hc, hcn⟩ := tk (n := y.natAbs) (by omega)
     have hsz : (sN y.natAbs).size ≤ 10000000 := by
      have h1 : z.natAbs = y.natAbs * 2 ^ j := by rw [← hyz, Int.natAbs_mul, Int.natAbs_pow]; rfl
      have h2 : y.natAbs * 1 ≤ y.natAbs * 2 ^ j := Nat.mul_le_mul_left _ (Nat.pow_pos (by omega))
      have h3 : bu y.natAbs ≤ 8 * a.size := cN (by omega)
      rw [gp]
      omega
     change (iM y).data.toList[(((iM y).size : Int) - 1).toNat]? = some c at hc
     change 1 ≤ (iM y).size at hs1
     change (iM y).size ≤ _ at hsz
     by_cases hb : y.natAbs % 2 = 0
     ·obtain ⟨x, rfl⟩ : ∃ x, y = x * 2 := ⟨y / 2, by omega⟩
      have hx : x ≠ 0 := fun h => hy (by rw [h]; rfl)
      have hxz : x * 2 ^ (j + 1) = z := by rw [← hyz, Int.pow_add, Int.mul_assoc, Int.mul_comm (2 ^ j)]; rfl
      have hj2 := mh hx hxz hzb
      have hof : ∀ w1, Calls Tryz.prog 139 #[.int .i64 2] w1 fun e w' => e = .returned (.agg #[.bool false, .string (iM 2)]) ∧ Below w1.heap.size w1 w' := fun w1 => lM 2 w1 (by omega) (by omega)
      have hdv : ∀ w1, Calls Tryz.prog 148 #[.agg #[.bool (iN (x * 2)), .string (iM (x * 2))], .agg #[.bool false, .string (iM 2)]] w1 fun e w' => e = .returned (.tuple #[.agg #[.bool (iN x), .string (iM x)], .agg #[.bool (iN 0), .string (iM 0)], .bool true]) ∧ Below w1.heap.size w1 w' := fun w1 => by
       have h2 : bN (iM 2) = 2 := dZ 2
       have h3 : (iM 2).size ≤ 10000000 := by rw [cM]; decide
       have := so (iN (x * 2)) (iM (x * 2)) (iM 2) w1 hsz h3 (by omega)
       rw [eD, h2, show x * 2 / ((2 : Nat) : Int) = x by omega, show x * 2 % ((2 : Nat) : Int) = 0 by omega] at this
       exact this
      refine ah (sr (bG ?_))
      refine bI hh 1 ?_
      refine bG ?_
      refine bI hh 1 ?_
      refine cD aN.out rfl (by decide) ?_
      refine eo ?_
      refine bU aN.out rfl rfl (by omega) (by assumption) (by decide) ?_
      refine sv (b := 2) rfl rfl (by omega) (by decide) ?_
      refine cV (aa (cT (ak (ai (al (ah ?_))))))
      refine lI [] [5, 6] [0, 0, 3, 7, 15, 15, 15, 31] 7 [[(2, none)], [], [(39, some 0), (40, some 1)], [(41, some 2)], [(38, some 3)], [(38, some 3)], [(38, some 3)]] [(6, 44), (5, 43), (4, 42), (3, 38), (2, 41), (1, 40), (0, 39)] hh mixed (by kernel_rfl) nI rfl (by repeat (first | exact iT | refine gF ?_ | refine ja ?_)) ?_
      refine dV 1 [_,_] ?_
      refine dC (fun _ hj => hof _) ?_
      refine dC (fun _ hj => hdv _) ?_
      refine Bl ?_
      refine AW ?_
      refine AW ?_
      refine AW ?_
      refine aW ?_
      intro f W hJ hV _
      have hb_8 := hJ.bl
      obtain ⟨v44, v43, v42, v38, v41, v40, v39, _⟩ := hV
      replace hh := hJ.hp
      refine aJ (aZ (ae v44 (ae v43 (ae v42 (ae v38 (ae v41 (ae v40 (ae v39 aH)))))))) ?_
      dsimp only [bQ]
      clear hJ
      refine bD hh 1 [_,_] ?_
      intro ws hh
      replace hh : Hp _ (_ :: .blk _ _ [_, _] _ :: _) _ := hh
      refine aa (aq (mI ?_))
      refine bz (aI (aD (a0 (ai ?_))))
      refine ⟨⟨x, j + 1, hx, hxz, by show Value.int _ _ = Value.int _ _; congr 1; omega, hh⟩, by show (e + 8 * a.size + 1 - (e + j + 1)).toNat < (e + 8 * a.size + 1 - (e + j)).toNat; omega, ?_⟩
      (repeat (first | exact aw _ _ _ | refine az rfl ?_ | refine au rfl ?_))
     ·have hfin := vm (e := e) (show y.natAbs % 2 = 1 by omega) hyz
      refine ah (sr (bG ?_))
      refine bI hh 1 ?_
      refine bG ?_
      refine bI hh 1 ?_
      refine cD aN.out rfl (by decide) ?_
      refine eo ?_
      refine bU aN.out rfl rfl (by omega) (by assumption) (by decide) ?_
      refine sv (b := 2) rfl rfl (by omega) (by decide) ?_
      refine cV (aa (cF ?_))
      refine aY ?_
      refine ay (ay (bm (ai (sr ?_))))
      refine da hh 1 [_,_] (mI ?_)
      refine fg [_,_,_] ?_
      refine bD hh 0 [_,_,_] ?_
      intro ws hh
      replace hh : Hp _ (.blk _ _ [_, _, _] _ :: _) _ := hh
      refine aa (ao ?_)
      refine eG (aG rfl (aF (vs := [_, _, _]) aA.out (hh.ar (i := 0) (n := 3) rfl rfl) rfl) bg) ?_
      rw [hfin]
      exact ⟨rfl, hh.below⟩
theorem kR {z e : Int} {x : Dyadic} (w : World) (hx : Dyadic.ofIntWithPrec z (-e) = x) (hz : (iM z).size ≤ 10000000) (h1 : -1000000000000 ≤ e) (h2 : e ≤ 1000000000000) :
  Calls Tryz.prog 103 #[.agg #[.bool (iN z), .string (iM z)], .int .i64 e] w fun r w' => r = .returned (.agg #[.bool (nR x).neg, .string (nR x).bk, .int .i64 (nR x).e]) ∧ Below w.heap.size w w' := by
 have := jE (iN z) (iM z) e w hz h1 h2
 rw [eD, hx] at this
 exact this
theorem eH (n : Int) (w : World) (h1 : -9223372036854775808 ≤ n) (h2 : n ≤ 9223372036854775807) :
  Calls Tryz.prog 85 #[.int .i64 n] w fun r w' => r = .returned (.agg #[.bool (nR (n : Dyadic)).neg, .string (nR (n : Dyadic)).bk, .int .i64 (nR (n : Dyadic)).e]) ∧ Below w.heap.size w w' := by
 have hh := Hp.start w
 have hsz : (iM n).size ≤ 10000000 := by
  rw [cM]
  have : bu n.natAbs ≤ 64 := cN (by omega)
  omega
 have hc := fun w1 => kR (z := n) (e := 0) (x := (n : Dyadic)) w1 rfl hsz (by omega) (by omega)
 refine aj (N := 6) (l := [.int .i64 n]) Tryz.func85 rfl rfl (by simp) ?_
 refine sr ?_
 refine cf hh ?_
 intro b2 w2 hh
 refine aa (sr (mI ?_))
 refine bB hh (lM n _ h1 h2) rfl ?_
 intro w4 hh
 refine bB hh (hc _) rfl ?_
 intro w5 hh
 refine bD hh 0 [_,_,_] ?_
 intro ws hh
 replace hh : Hp _ (.blk _ _ [_, _, _] _ :: _) _ := hh
 refine aa (ao ?_)
 refine eG (aG rfl (aF (vs := [_, _, _]) aA.out (hh.ar (i := 0) (n := 3) rfl rfl) rfl) bg) ?_
 exact ⟨rfl, hh.below⟩
theorem dL (a : NR) (w : World) (ha : a.bk.size ≤ 10000000) (h1 : -1000000000000 ≤ a.e) (h2 : a.e ≤ 1000000000000) :
  Calls Tryz.prog 101 #[.agg #[.bool a.neg, .string a.bk, .int .i64 a.e]] w fun r w' => r = .returned (.agg #[.bool (nR a.d).neg, .string (nR a.d).bk, .int .i64 (nR a.d).e]) ∧ Below w.heap.size w w' := by
 have hh := Hp.start w
 refine aj (N := 8) (l := [.agg #[.bool a.neg, .string a.bk, .int .i64 a.e]]) Tryz.func101 rfl rfl (by simp) ?_
 refine sr ?_
 refine cw hh [_,_,_] ?_
 intro b1 w1 hh
 refine cf hh ?_
 intro b2 w2 hh
 refine aa (sr (bG ?_))
 refine da hh 1 [_,_] (bG ?_)
 refine bI hh 1 ?_
 refine bB hh (jE a.neg a.bk a.e _ ha h1 h2) rfl ?_
 intro w7 hh
 refine bD hh 0 [_,_,_] ?_
 intro ws hh
 replace hh : Hp _ (.blk _ _ [_, _, _] _ :: _) _ := hh
 refine aa (ao ?_)
 refine eG (aG rfl (aF (vs := [_, _, _]) aA.out (hh.ar (i := 0) (n := 3) rfl rfl) rfl) bg) ?_
 exact ⟨rfl, hh.below⟩
theorem eU (a : NR) (w : World) (ha : a.bk.size ≤ 10000000) :
  Calls Tryz.prog 102 #[.agg #[.bool a.neg, .string a.bk, .int .i64 a.e]] w fun r w' => r = .returned (.int .i64 a.i.sign) ∧ Below w.heap.size w w' := by
 have hh := Hp.start w
 refine aj (N := 6) (l := [.agg #[.bool a.neg, .string a.bk, .int .i64 a.e]]) Tryz.func102 rfl rfl (by simp) ?_
 refine sr ?_
 refine cw hh [_,_,_] ?_
 intro b1 w1 hh
 refine aI (aa (sr (bG ?_)))
 refine da hh 0 [_,_] ?_
 refine bB hh (gy a.neg a.bk _ (by omega)) rfl ?_
 intro w5 hh
 refine aI (aa (ao ?_))
 refine cx ?_
 exact ⟨rfl, hh.below⟩
theorem sS (a : NR) (w : World) (ha : a.bk.size ≤ 10000000) (h1 : -1000000000000 ≤ a.e) (h2 : a.e ≤ 1000000000000) :
  Calls Tryz.prog 214 #[.agg #[.bool a.neg, .string a.bk, .int .i64 a.e]] w fun r w' => r = .returned (.agg #[.bool (nR (-a.d)).neg, .string (nR (-a.d)).bk, .int .i64 (nR (-a.d)).e]) ∧ Below w.heap.size w w' := by
 have hh := Hp.start w
 have hs := jo a.neg a.bk
 have hc := fun w1 => kR (z := -(iv a.neg a.bk)) (e := a.e) (x := -a.d) w1 (pW _ _).symm (by omega) h1 h2
 refine aj (N := 9) (l := [.agg #[.bool a.neg, .string a.bk, .int .i64 a.e]]) Tryz.func214 rfl rfl (by simp) ?_
 refine sr ?_
 refine cw hh [_,_,_] ?_
 intro b1 w1 hh
 refine cf hh ?_
 intro b2 w2 hh
 refine aa (ah ?_)
 refine aE 5 [[(1, none)], [(3, some 0)], [(4, some 1)], [(1, none)], [(6, some 3)]] [(4, 7), (3, 6), (2, 5), (1, 4), (0, 3)] hh mixed (by kernel_rfl) ?_
 refine dT ?_
 refine dV 1 [_,_] ?_
 refine dC (fun _ hj => rW a.neg a.bk _ (by omega)) ?_
 refine dT ?_
 refine eY 1 ?_
 refine aW ?_
 intro f W hJ hV
 have hb_1 := hJ.bl
 obtain ⟨v7, v6, v5, v4, v3, _⟩ := hV
 replace hh := hJ.hp
 refine aJ (aZ (ae v7 (ae v6 (ae v5 (ae v4 (ae v3 aH)))))) ?_
 dsimp only [bQ]
 clear hJ
 refine bB hh (hc _) rfl ?_
 intro w8 hh
 refine bD hh 0 [_,_,_] ?_
 intro ws hh
 replace hh : Hp _ (.blk _ _ [_, _, _] _ :: _) _ := hh
 refine aa (ao ?_)
 refine eG (aG rfl (aF (vs := [_, _, _]) aA.out (hh.ar (i := 0) (n := 3) rfl rfl) rfl) bg) ?_
 exact ⟨rfl, hh.below⟩
theorem iK (a : NR) (n : Int) (w : World) (ha : a.bk.size ≤ 10000000) (h1 : -100000000000 ≤ a.e) (h2 : a.e ≤ 100000000000) (h3 : -100000000000 ≤ n) (h4 : n ≤ 100000000000) :
  Calls Tryz.prog 84 #[.agg #[.bool a.neg, .string a.bk, .int .i64 a.e], .int .i64 n] w fun r w' => r = .returned (.agg #[.bool (nR (a.d * ck n)).neg, .string (nR (a.d * ck n)).bk, .int .i64 (nR (a.d * ck n)).e]) ∧ Below w.heap.size w w' := by
 have hh := Hp.start w
 have e1 : Dyadic.ofIntWithPrec (iv a.neg a.bk) (-(a.e + n)) = a.d * ck n := by
  rw [Int.neg_add]
  exact tf _ _ _
 have hc := fun w1 => jE a.neg a.bk (a.e + n) w1 ha (by omega) (by omega)
 rw [e1] at hc
 refine aj (N := 12) (l := [.agg #[.bool a.neg, .string a.bk, .int .i64 a.e], .int .i64 n]) Tryz.func84 rfl rfl (by simp) ?_
 refine sr ?_
 refine cw hh [_,_,_] ?_
 intro b2 w2 hh
 refine cf hh ?_
 intro b4 w4 hh
 refine aa (sr (bG ?_))
 refine da hh 1 [_,_] (bG ?_)
 refine bI hh 1 ?_
 refine mI ?_
 refine bz ?_
 refine bB hh (hc _) rfl ?_
 intro w11 hh
 refine bD hh 0 [_,_,_] ?_
 intro ws hh
 replace hh : Hp _ (.blk _ _ [_, _, _] _ :: _) _ := hh
 refine aa (ao ?_)
 refine eG (aG rfl (aF (vs := [_, _, _]) aA.out (hh.ar (i := 0) (n := 3) rfl rfl) rfl) bg) ?_
 exact ⟨rfl, hh.below⟩
theorem AG (x : Dyadic) : Dyadic.ofIntWithPrec (nR x).i (-(nR x).e) = x := dH x
theorem kM (a b : NR) (w : World) (ha : a.bk.size ≤ 4000000) (hb : b.bk.size ≤ 4000000) (h1 : -100000000000 ≤ a.e) (h2 : a.e ≤ 100000000000) (h3 : -100000000000 ≤ b.e) (h4 : b.e ≤ 100000000000) :
  Calls Tryz.prog 68 #[.agg #[.bool a.neg, .string a.bk, .int .i64 a.e], .agg #[.bool b.neg, .string b.bk, .int .i64 b.e]] w fun r w' => r = .returned (.agg #[.bool (nR (a.d * b.d)).neg, .string (nR (a.d * b.d)).bk, .int .i64 (nR (a.d * b.d)).e]) ∧ Below w.heap.size w w' := by
 have hh := Hp.start w
 have e2 : Dyadic.ofIntWithPrec (iv a.neg a.bk * iv b.neg b.bk) (-(a.e + b.e)) = a.d * b.d := by
  rw [Int.neg_add]
  exact (kQ _ _ _ _).symm
 have hb1 := fm a.neg a.bk
 have hb2 := fm b.neg b.bk
 have hb3 := gG (iv a.neg a.bk) (iv b.neg b.bk)
 have hc := fun w1 => kR (z := iv a.neg a.bk * iv b.neg b.bk) (e := a.e + b.e) w1 e2 (by rw [cM]; omega) (by omega) (by omega)
 refine aj (N := 16) (l := [.agg #[.bool a.neg, .string a.bk, .int .i64 a.e], .agg #[.bool b.neg, .string b.bk, .int .i64 b.e]]) Tryz.func68 rfl rfl (by simp) ?_
 refine sr ?_
 refine cw hh [_,_,_] ?_
 intro b2 w2 hh
 refine cw hh [_,_,_] ?_
 intro b3 w3 hh
 refine cf hh ?_
 intro b4 w4 hh
 refine aa (ah ?_)
 refine aE 10 [[(2, none)], [(5, some 0)], [(3, none)], [(7, some 2)], [(6, some 1), (8, some 3)], [(2, none)], [(10, some 5)], [(3, none)], [(12, some 7)], [(11, some 6), (13, some 8)]] [(9, 14), (8, 13), (7, 12), (6, 11), (5, 10), (4, 9), (3, 8), (2, 7), (1, 6), (0, 5)] hh mixed (by kernel_rfl) ?_
 refine dT ?_
 refine dV 2 [_,_] ?_
 refine dT ?_
 refine dV 1 [_,_] ?_
 refine dC (fun _ hj => pt a.neg b.neg a.bk b.bk _ (by omega) (by omega)) ?_
 refine dT ?_
 refine eY 2 ?_
 refine dT ?_
 refine eY 1 ?_
 refine rb ?_
 refine aW ?_
 intro f W hJ hV
 have hb_1 := hJ.bl
 obtain ⟨v14, v13, v12, v11, v10, v9, v8, v7, v6, v5, _⟩ := hV
 replace hh := hJ.hp
 refine aJ (aZ (ae v14 (ae v13 (ae v12 (ae v11 (ae v10 (ae v9 (ae v8 (ae v7 (ae v6 (ae v5 aH))))))))))) ?_
 dsimp only [bQ]
 clear hJ
 refine bB hh (hc _) rfl ?_
 intro w15 hh
 refine bD hh 0 [_,_,_] ?_
 intro ws hh
 replace hh : Hp _ (.blk _ _ [_, _, _] _ :: _) _ := hh
 refine aa (ao ?_)
 refine eG (aG rfl (aF (vs := [_, _, _]) aA.out (hh.ar (i := 0) (n := 3) rfl rfl) rfl) bg) ?_
 exact ⟨rfl, hh.below⟩
end Go.Proofs.YtioilmppidlbnaaGreatDoor
namespace Go.Proofs.YtioilmppidlbnaaGreatDoor
open Go.RowKit
theorem xS {u v : NR} {k : Nat} (h : u.e = v.e + k) : Dyadic.ofIntWithPrec (u.i * 2 ^ k + v.i) (-v.e) = u.d + v.d := by
 rw [← mn]
 congr 1
 have := jJ u.i (-u.e) k
 rw [show -u.e + (k : Int) = -v.e by omega] at this
 exact this
theorem mJ {u v : NR} {k : Nat} (hk : u.e = v.e + k) (hu : u.bk.size ≤ 1000000) (hv : v.bk.size ≤ 1000000) (hk2 : k ≤ 40000000) (h1 : -100000000000 ≤ v.e) (h2 : v.e ≤ 100000000000) :
  (∀ w, Calls Tryz.prog 105 #[.agg #[.bool u.neg, .string u.bk], .int .i64 (u.e - v.e)] w fun e w' => e = .returned (.agg #[.bool (iN (u.i * 2 ^ k)), .string (iM (u.i * 2 ^ k))]) ∧ Below w.heap.size w w') ∧
  (∀ w, Calls Tryz.prog 104 #[.agg #[.bool (iN (u.i * 2 ^ k)), .string (iM (u.i * 2 ^ k))], .agg #[.bool v.neg, .string v.bk]] w fun e w' => e = .returned (.agg #[.bool (iN (u.i * 2 ^ k + v.i)), .string (iM (u.i * 2 ^ k + v.i))]) ∧ Below w.heap.size w w') ∧
  ∀ w, Calls Tryz.prog 103 #[.agg #[.bool (iN (u.i * 2 ^ k + v.i)), .string (iM (u.i * 2 ^ k + v.i))], .int .i64 v.e] w fun r w' => r = .returned (.agg #[.bool (nR (u.d + v.d)).neg, .string (nR (u.d + v.d)).bk, .int .i64 (nR (u.d + v.d)).e]) ∧ Below w.heap.size w w' := by
 have hb1 : bu (u.i * 2 ^ k).natAbs ≤ 8000000 + k := by
  rw [Int.natAbs_mul, Int.natAbs_pow]
  have := fW u.i.natAbs k
  have h3 := fm u.neg u.bk
  unfold NR.i at this ⊢
  exact Nat.le_trans this (by omega)
 have hb2 := fm v.neg v.bk
 have hb3 := iW (u.i * 2 ^ k) v.i
 refine ⟨fun w => ?_, fun w => ?_, fun w => ?_⟩
 ·rw [show u.e - v.e = k by omega]
  exact rV u.neg u.bk k w (by omega) (by omega)
 ·have := ji (iN (u.i * 2 ^ k)) v.neg (iM (u.i * 2 ^ k)) v.bk w (by rw [cM]; omega) (by omega)
  rw [eD] at this
  exact this
 ·exact kR w (xS hk) (by rw [cM]; unfold NR.i at hb1 hb3 ⊢; omega) (by omega) (by omega)
theorem jD (a b : NR) (w : World) (ha : a.ok) (hb : b.ok) :
  Calls Tryz.prog 55 #[.agg #[.bool a.neg, .string a.bk, .int .i64 a.e], .agg #[.bool b.neg, .string b.bk, .int .i64 b.e]] w fun r w' => r = .returned (.agg #[.bool (nR (a.d + b.d)).neg, .string (nR (a.d + b.d)).bk, .int .i64 (nR (a.d + b.d)).e]) ∧ Below w.heap.size w w' := by
 have hh := Hp.start w
 obtain ⟨ha1, ha2, ha3⟩ := ha
 obtain ⟨hb1, hb2, hb3⟩ := hb
 obtain ⟨_, fa1, fa2, fa3⟩ := gP (a := a) ⟨ha1, ha2, ha3⟩
 obtain ⟨_, fb1, fb2, fb3⟩ := gP (a := b) ⟨hb1, hb2, hb3⟩
 have hsg : ∀ x : Dyadic, (nR x).i.sign = 0 ↔ x = 0 := fun x => by
  rw [Int.sign_eq_zero_iff_zero]
  constructor
  ·intro h; rw [← AG x, h, iz]
  ·intro h; rw [h]; rfl
 by_cases h0 : a.d = 0
 ·have hs0 := (hsg a.d).2 h0
  refine aj (N := 38) (l := [.agg #[.bool a.neg, .string a.bk, .int .i64 a.e], .agg #[.bool b.neg, .string b.bk, .int .i64 b.e]]) Tryz.func55 rfl rfl (by simp) ?_
  refine sr ?_
  refine cw hh [_,_,_] ?_
  intro b2 w2 hh
  refine cw hh [_,_,_] ?_
  intro b3 w3 hh
  refine cf hh ?_
  intro b4 w4 hh
  refine aa (ah ?_)
  refine aE 3 [[(2, none)], [(5, some 0)], [(3, none)]] [(2, 7), (1, 6), (0, 5)] hh mixed (by kernel_rfl) ?_
  refine dV 2 [_,_,_] ?_
  refine dC (fun _ hj => dL a _ (by omega) (by omega) (by omega)) ?_
  refine dV 1 [_,_,_] ?_
  refine aW ?_
  intro f W hJ hV
  have hb_1 := hJ.bl
  obtain ⟨v7, v6, v5, _⟩ := hV
  replace hh := hJ.hp
  refine aJ (aZ (ae v7 (ae v6 (ae v5 aH)))) ?_
  dsimp only [bQ]
  clear hJ
  refine bB hh (dL b _ (by omega) (by omega) (by omega)) rfl ?_
  intro w8 hh
  refine bD hh 2 [_,_,_] ?_
  intro ws hh
  replace hh : Hp _ (_ :: _ :: .blk _ _ [_, _, _] _ :: _) _ := hh
  refine bD hh 1 [_,_,_] ?_
  intro ws hh
  replace hh : Hp _ (_ :: .blk _ _ [_, _, _] _ :: _) _ := hh
  refine aa (ah (sr ?_))
  refine da hh 2 [_,_,_] ?_
  refine bB hh (eU (nR a.d) _ (by omega)) rfl ?_
  intro w10 hh
  refine cV (aa (cT (sr ?_)))
  refine da hh 1 [_,_,_] ?_
  refine bD hh 0 [_,_,_] ?_
  intro ws hh
  replace hh : Hp _ (.blk _ _ [_, _, _] _ :: _) _ := hh
  refine aa (ao (aQ ?_))
  refine eG (aG rfl (aF (vs := [_, _, _]) aA.out (hh.ar (i := 0) (n := 3) rfl rfl) rfl) bg) ?_
  rw [h0, Dyadic.zero_add]
  exact ⟨rfl, hh.below⟩
 ·have hs0 : ¬ (nR a.d).i.sign = 0 := fun h => h0 ((hsg a.d).1 h)
  by_cases h1 : b.d = 0
  ·have hs1 := (hsg b.d).2 h1
   refine aj (N := 38) (l := [.agg #[.bool a.neg, .string a.bk, .int .i64 a.e], .agg #[.bool b.neg, .string b.bk, .int .i64 b.e]]) Tryz.func55 rfl rfl (by simp) ?_
   refine sr ?_
   refine cw hh [_,_,_] ?_
   intro b2 w2 hh
   refine cw hh [_,_,_] ?_
   intro b3 w3 hh
   refine cf hh ?_
   intro b4 w4 hh
   refine aa (ah ?_)
   refine aE 3 [[(2, none)], [(5, some 0)], [(3, none)]] [(2, 7), (1, 6), (0, 5)] hh mixed (by kernel_rfl) ?_
   refine dV 2 [_,_,_] ?_
   refine dC (fun _ hj => dL a _ (by omega) (by omega) (by omega)) ?_
   refine dV 1 [_,_,_] ?_
   refine aW ?_
   intro f W hJ hV
   have hb_1 := hJ.bl
   obtain ⟨v7, v6, v5, _⟩ := hV
   replace hh := hJ.hp
   refine aJ (aZ (ae v7 (ae v6 (ae v5 aH)))) ?_
   dsimp only [bQ]
   clear hJ
   refine bB hh (dL b _ (by omega) (by omega) (by omega)) rfl ?_
   intro w8 hh
   refine bD hh 2 [_,_,_] ?_
   intro ws hh
   replace hh : Hp _ (_ :: _ :: .blk _ _ [_, _, _] _ :: _) _ := hh
   refine bD hh 1 [_,_,_] ?_
   intro ws hh
   replace hh : Hp _ (_ :: .blk _ _ [_, _, _] _ :: _) _ := hh
   refine aa (ah (sr ?_))
   refine da hh 2 [_,_,_] ?_
   refine bB hh (eU (nR a.d) _ (by omega)) rfl ?_
   intro w10 hh
   refine cV (aa (cF (ak (ai (ah (sr ?_))))))
   refine da hh 1 [_,_,_] ?_
   refine bB hh (eU (nR b.d) _ (by omega)) rfl ?_
   intro w14 hh
   refine cV (aa (cT (sr ?_)))
   refine da hh 2 [_,_,_] ?_
   refine bD hh 0 [_,_,_] ?_
   intro ws hh
   replace hh : Hp _ (.blk _ _ [_, _, _] _ :: _) _ := hh
   refine aa (ao (aQ ?_))
   refine eG (aG rfl (aF (vs := [_, _, _]) aA.out (hh.ar (i := 0) (n := 3) rfl rfl) rfl) bg) ?_
   rw [h1, Dyadic.add_zero]
   exact ⟨rfl, hh.below⟩
  ·have hs1 : ¬ (nR b.d).i.sign = 0 := fun h => h1 ((hsg b.d).1 h)
   by_cases hlt : (nR a.d).e < (nR b.d).e
   ·obtain ⟨k, hk⟩ : ∃ k : Nat, (nR b.d).e = (nR a.d).e + k := ⟨((nR b.d).e - (nR a.d).e).toNat, by omega⟩
    obtain ⟨hshl, hpl, hmk⟩ := mJ hk fb1 fa1 (by omega) (by omega) (by omega)
    rw [dH, dH, Dyadic.add_comm] at hmk
    refine aj (N := 38) (l := [.agg #[.bool a.neg, .string a.bk, .int .i64 a.e], .agg #[.bool b.neg, .string b.bk, .int .i64 b.e]]) Tryz.func55 rfl rfl (by simp) ?_
    refine sr ?_
    refine cw hh [_,_,_] ?_
    intro b2 w2 hh
    refine cw hh [_,_,_] ?_
    intro b3 w3 hh
    refine cf hh ?_
    intro b4 w4 hh
    refine aa (ah ?_)
    refine aE 3 [[(2, none)], [(5, some 0)], [(3, none)]] [(2, 7), (1, 6), (0, 5)] hh mixed (by kernel_rfl) ?_
    refine dV 2 [_,_,_] ?_
    refine dC (fun _ hj => dL a _ (by omega) (by omega) (by omega)) ?_
    refine dV 1 [_,_,_] ?_
    refine aW ?_
    intro f W hJ hV
    have hb_1 := hJ.bl
    obtain ⟨v7, v6, v5, _⟩ := hV
    replace hh := hJ.hp
    refine aJ (aZ (ae v7 (ae v6 (ae v5 aH)))) ?_
    dsimp only [bQ]
    clear hJ
    refine bB hh (dL b _ (by omega) (by omega) (by omega)) rfl ?_
    intro w8 hh
    refine bD hh 2 [_,_,_] ?_
    intro ws hh
    replace hh : Hp _ (_ :: _ :: .blk _ _ [_, _, _] _ :: _) _ := hh
    refine bD hh 1 [_,_,_] ?_
    intro ws hh
    replace hh : Hp _ (_ :: .blk _ _ [_, _, _] _ :: _) _ := hh
    refine aa (ah (sr ?_))
    refine da hh 2 [_,_,_] ?_
    refine bB hh (eU (nR a.d) _ (by omega)) rfl ?_
    intro w10 hh
    refine cV (aa (cF (ak (ai (ah (sr ?_))))))
    refine da hh 1 [_,_,_] ?_
    refine bB hh (eU (nR b.d) _ (by omega)) rfl ?_
    intro w14 hh
    refine cV (aa (cF (ak (ai (ah (sr (bG ?_)))))))
    refine bI hh 2 ?_
    refine bG ?_
    refine bI hh 1 ?_
    refine aK (aa (cT (aq ?_)))
    refine da hh 1 [_,_,_] ?_
    refine da hh 2 [_,_,_] ?_
    refine bD hh 2 [_,_,_] ?_
    intro ws hh
    replace hh : Hp _ (_ :: _ :: .blk _ _ [_, _, _] _ :: _) _ := hh
    refine bD hh 1 [_,_,_] ?_
    intro ws hh
    replace hh : Hp _ (_ :: .blk _ _ [_, _, _] _ :: _) _ := hh
    refine aa (ah ?_)
    refine aE 13 [[(2, none)], [(24, some 0)], [(2, none)], [(26, some 2)], [(3, none)], [(28, some 4)], [(27, some 3), (29, some 5)], [(25, some 1), (30, some 6)], [(3, none)], [(32, some 8)], [(31, some 7), (33, some 9)], [(3, none)], [(35, some 11)]] [(12, 36), (11, 35), (10, 34), (9, 33), (8, 32), (7, 31), (6, 30), (5, 29), (4, 28), (3, 27), (2, 26), (1, 25), (0, 24)] hh mixed (by kernel_rfl) ?_
    refine dT ?_
    refine dV 2 [_,_] ?_
    refine dT ?_
    refine eY 2 ?_
    refine dT ?_
    refine eY 1 ?_
    refine kg ?_
    refine dC (fun _ hj => hshl _) ?_
    refine dT ?_
    refine dV 1 [_,_] ?_
    refine dC (fun _ hj => hpl _) ?_
    refine dT ?_
    refine eY 1 ?_
    refine aW ?_
    intro f W hJ hV
    have hb_8 := hJ.bl
    obtain ⟨v36, v35, v34, v33, v32, v31, v30, v29, v28, v27, v26, v25, v24, _⟩ := hV
    replace hh := hJ.hp
    refine aJ (aZ (ae v36 (ae v35 (ae v34 (ae v33 (ae v32 (ae v31 (ae v30 (ae v29 (ae v28 (ae v27 (ae v26 (ae v25 (ae v24 aH)))))))))))))) ?_
    dsimp only [bQ]
    clear hJ
    refine bB hh (hmk _) rfl ?_
    intro w37 hh
    refine bD hh 0 [_,_,_] ?_
    intro ws hh
    replace hh : Hp _ (.blk _ _ [_, _, _] _ :: _) _ := hh
    refine aa (ao ?_)
    refine eG (aG rfl (aF (vs := [_, _, _]) aA.out (hh.ar (i := 0) (n := 3) rfl rfl) rfl) bg) ?_
    exact ⟨rfl, hh.below⟩
   ·obtain ⟨k, hk⟩ : ∃ k : Nat, (nR a.d).e = (nR b.d).e + k := ⟨((nR a.d).e - (nR b.d).e).toNat, by omega⟩
    obtain ⟨hshl, hpl, hmk⟩ := mJ hk fa1 fb1 (by omega) (by omega) (by omega)
    rw [dH, dH] at hmk
    refine aj (N := 38) (l := [.agg #[.bool a.neg, .string a.bk, .int .i64 a.e], .agg #[.bool b.neg, .string b.bk, .int .i64 b.e]]) Tryz.func55 rfl rfl (by simp) ?_
    refine sr ?_
    refine cw hh [_,_,_] ?_
    intro b2 w2 hh
    refine cw hh [_,_,_] ?_
    intro b3 w3 hh
    refine cf hh ?_
    intro b4 w4 hh
    refine aa (ah ?_)
    refine aE 3 [[(2, none)], [(5, some 0)], [(3, none)]] [(2, 7), (1, 6), (0, 5)] hh mixed (by kernel_rfl) ?_
    refine dV 2 [_,_,_] ?_
    refine dC (fun _ hj => dL a _ (by omega) (by omega) (by omega)) ?_
    refine dV 1 [_,_,_] ?_
    refine aW ?_
    intro f W hJ hV
    have hb_1 := hJ.bl
    obtain ⟨v7, v6, v5, _⟩ := hV
    replace hh := hJ.hp
    refine aJ (aZ (ae v7 (ae v6 (ae v5 aH)))) ?_
    dsimp only [bQ]
    clear hJ
    refine bB hh (dL b _ (by omega) (by omega) (by omega)) rfl ?_
    intro w8 hh
    refine bD hh 2 [_,_,_] ?_
    intro ws hh
    replace hh : Hp _ (_ :: _ :: .blk _ _ [_, _, _] _ :: _) _ := hh
    refine bD hh 1 [_,_,_] ?_
    intro ws hh
    replace hh : Hp _ (_ :: .blk _ _ [_, _, _] _ :: _) _ := hh
    refine aa (ah (sr ?_))
    refine da hh 2 [_,_,_] ?_
    refine bB hh (eU (nR a.d) _ (by omega)) rfl ?_
    intro w10 hh
    refine cV (aa (cF (ak (ai (ah (sr ?_))))))
    refine da hh 1 [_,_,_] ?_
    refine bB hh (eU (nR b.d) _ (by omega)) rfl ?_
    intro w14 hh
    refine cV (aa (cF (ak (ai (ah (sr (bG ?_)))))))
    refine bI hh 2 ?_
    refine bG ?_
    refine bI hh 1 ?_
    refine aK (aa (cF (ak (ai (ah ?_)))))
    refine aE 13 [[(2, none)], [(24, some 0)], [(2, none)], [(26, some 2)], [(3, none)], [(28, some 4)], [(27, some 3), (29, some 5)], [(25, some 1), (30, some 6)], [(3, none)], [(32, some 8)], [(31, some 7), (33, some 9)], [(3, none)], [(35, some 11)]] [(12, 36), (11, 35), (10, 34), (9, 33), (8, 32), (7, 31), (6, 30), (5, 29), (4, 28), (3, 27), (2, 26), (1, 25), (0, 24)] hh mixed (by kernel_rfl) ?_
    refine dT ?_
    refine dV 2 [_,_] ?_
    refine dT ?_
    refine eY 2 ?_
    refine dT ?_
    refine eY 1 ?_
    refine kg ?_
    refine dC (fun _ hj => hshl _) ?_
    refine dT ?_
    refine dV 1 [_,_] ?_
    refine dC (fun _ hj => hpl _) ?_
    refine dT ?_
    refine eY 1 ?_
    refine aW ?_
    intro f W hJ hV
    have hb_8 := hJ.bl
    obtain ⟨v36, v35, v34, v33, v32, v31, v30, v29, v28, v27, v26, v25, v24, _⟩ := hV
    replace hh := hJ.hp
    refine aJ (aZ (ae v36 (ae v35 (ae v34 (ae v33 (ae v32 (ae v31 (ae v30 (ae v29 (ae v28 (ae v27 (ae v26 (ae v25 (ae v24 aH)))))))))))))) ?_
    dsimp only [bQ]
    clear hJ
    refine bB hh (hmk _) rfl ?_
    intro w37 hh
    refine bD hh 0 [_,_,_] ?_
    intro ws hh
    replace hh : Hp _ (.blk _ _ [_, _, _] _ :: _) _ := hh
    refine aa (ao ?_)
    refine eG (aG rfl (aF (vs := [_, _, _]) aA.out (hh.ar (i := 0) (n := 3) rfl rfl) rfl) bg) ?_
    exact ⟨rfl, hh.below⟩
theorem mQ (a b : NR) (w : World) (ha : a.ok) (hb : b.ok) (hb' : (nR b.d).ok) :
  Calls Tryz.prog 182 #[.agg #[.bool a.neg, .string a.bk, .int .i64 a.e], .agg #[.bool b.neg, .string b.bk, .int .i64 b.e]] w fun r w' => r = .returned (.agg #[.bool (nR (a.d - b.d)).neg, .string (nR (a.d - b.d)).bk, .int .i64 (nR (a.d - b.d)).e]) ∧ Below w.heap.size w w' := by
 have hh := Hp.start w
 obtain ⟨hb1, hb2, hb3⟩ := hb
 obtain ⟨n1, n2⟩ := zv b.d
 obtain ⟨o1, o2, o3⟩ := hb'
 have hp := fun w1 => jD a (nR (-b.d)) w1 ha ⟨by rw [n1]; exact o1, by rw [n2]; exact o2, by rw [n2]; exact o3⟩
 rw [dH] at hp
 refine aj (N := 9) (l := [.agg #[.bool a.neg, .string a.bk, .int .i64 a.e], .agg #[.bool b.neg, .string b.bk, .int .i64 b.e]]) Tryz.func182 rfl rfl (by simp) ?_
 refine sr ?_
 refine cw hh [_,_,_] ?_
 intro b2 w2 hh
 refine cw hh [_,_,_] ?_
 intro b3 w3 hh
 refine cf hh ?_
 intro b4 w4 hh
 refine aa (ah ?_)
 refine aE 3 [[(2, none)], [(3, none)], [(6, some 1)]] [(2, 7), (1, 6), (0, 5)] hh mixed (by kernel_rfl) ?_
 refine dV 2 [_,_,_] ?_
 refine dV 1 [_,_,_] ?_
 refine dC (fun _ hj => sS b _ (by omega) (by omega) (by omega)) ?_
 refine aW ?_
 intro f W hJ hV
 have hb_1 := hJ.bl
 obtain ⟨v7, v6, v5, _⟩ := hV
 replace hh := hJ.hp
 refine aJ (aZ (ae v7 (ae v6 (ae v5 aH)))) ?_
 dsimp only [bQ]
 clear hJ
 refine bB hh (hp _) rfl ?_
 intro w8 hh
 refine bD hh 0 [_,_,_] ?_
 intro ws hh
 replace hh : Hp _ (.blk _ _ [_, _, _] _ :: _) _ := hh
 refine aa (ao ?_)
 refine eG (aG rfl (aF (vs := [_, _, _]) aA.out (hh.ar (i := 0) (n := 3) rfl rfl) rfl) bg) ?_
 exact ⟨rfl, hh.below⟩
end Go.Proofs.YtioilmppidlbnaaGreatDoor
namespace Go.Proofs.YtioilmppidlbnaaGreatDoor
open Go.RowKit
theorem Sz.pow {k : Nat} {x : Dyadic} (h : Sz k x) (n : Nat) : Sz (1 + k * n) (x ^ n) := by
 induction n with
 | zero => rw [Dyadic.pow_zero]; exact Sz.one
 | succ n ih => rw [Dyadic.pow_succ]; exact (ih.mul h).mono (by rw [Nat.mul_succ]; omega)
theorem sU (a : NR) (n : Int) (w : World) (ha : a.ok) (k : Nat) (hk : Sz k a.d) (hkn : k * n.toNat ≤ 3999980) (hn : n ≤ 1000000) :
  Calls Tryz.prog 184 #[.agg #[.bool a.neg, .string a.bk, .int .i64 a.e], .int .i64 n] w fun r w' => r = .returned (.agg #[.bool (nR (a.d ^ n.toNat)).neg, .string (nR (a.d ^ n.toNat)).bk, .int .i64 (nR (a.d ^ n.toNat)).e]) ∧ Below w.heap.size w w' := by
 have hh := Hp.start w
 obtain ⟨xo1, xo2, xo3⟩ := ha
 refine aj (N := 17) (l := [.agg #[.bool a.neg, .string a.bk, .int .i64 a.e], .int .i64 n]) Tryz.func184 rfl rfl (by simp) ?_
 refine sr ?_
 refine cw hh [_,_,_] ?_
 intro b2 w2 hh
 refine cf hh ?_
 intro b4 w4 hh
 refine aa (sr ?_)
 refine bB hh (eH 1 _ (by omega) (by omega)) rfl ?_
 intro w7 hh
 refine cf hh ?_
 intro b5 w5 hh
 refine bD hh 0 [_,_,_] ?_
 intro ws hh
 replace hh : Hp _ (.blk _ _ [_, _, _] _ :: _) _ := hh
 refine aa (ah (sr (aI (aa (al ?_)))))
 refine bx [6, 8, 9, 10, 11, 12, 13, 14, 15] 6
  (fun j w' => ∃ (i : Nat) (S : Dyadic), i ≤ n.toNat ∧ j = .int .i64 i ∧ S = a.d ^ i ∧ Hp w [.blk b5 39 [.bool (nR S).neg, .string (nR S).bk, .int .i64 (nR S).e] (0, 0), .blk b4 39 [.bool false, .string (ByteArray.mk #[]), .int .i64 0] (0, 0), .blk b2 39 [.bool a.neg, .string a.bk, .int .i64 a.e] (0, 0)] w')
  (fun j _ => n.toNat - (intOf j).toNat) ?_ ?_
 ·exact ⟨0, _, Nat.zero_le _, rfl, (Dyadic.pow_zero _).symm, hh⟩
 ·clear hh
  rintro ρ' j w' ⟨i, S, hi, rfl, hS2, hh⟩
  by_cases hlt : i < n.toNat
  ·have hlt2 : (i : Int) < n := by omega
   have hS3 : a.d ^ (i + 1) = S * a.d := by rw [Dyadic.pow_succ, hS2]
   have hSz : Sz (1 + k * i) S := by rw [hS2]; exact hk.pow i
   have hki : k * i ≤ k * n.toNat := Nat.mul_le_mul_left _ hi
   obtain ⟨so1, so2, so3⟩ := hSz.ok (by omega)
   have hpc := fun w1 => kM (nR S) a w1 (by omega) (by omega) (by omega) (by omega) (by omega) (by omega)
   rw [dH] at hpc
   refine ah (sr (mI (mI ?_)))
   refine aK (aa (cT (ak (ai (ah (al (aq ?_)))))))
   refine da hh 0 [_,_,_] ?_
   refine da hh 2 [_,_,_] ?_
   refine bB hh (hpc _) rfl ?_
   intro w15 hh
   refine bD hh 0 [_,_,_] ?_
   intro ws hh
   replace hh : Hp _ (.blk _ _ [_, _, _] _ :: _) _ := hh
   refine aD (a0 (ai (aq (mI ?_))))
   refine bz (aI (aD (ai ?_)))
   refine ⟨⟨i + 1, _, by omega, rfl, hS3.symm, hh⟩, by show n.toNat - (i + 1) < n.toNat - i; omega, ?_⟩
   (repeat (first | exact aw _ _ _ | refine az rfl ?_ | refine au rfl ?_))
  ·have hlt2 : ¬ (i : Int) < n := by omega
   have hin : i = n.toNat := by omega
   refine ah (sr (mI (mI ?_)))
   refine aK (aa (cF ?_))
   refine aY ?_
   refine ay (ay (bm (ai (sr ?_))))
   refine da hh 0 [_,_,_] ?_
   refine bD hh 1 [_,_,_] ?_
   intro ws hh
   replace hh : Hp _ (_ :: .blk _ _ [_, _, _] _ :: _) _ := hh
   refine aa (ao ?_)
   refine eG (aG rfl (aF (vs := [_, _, _]) aA.out (hh.ar (i := 1) (n := 3) rfl rfl) rfl) bg) ?_
   rw [hS2, hin]
   exact ⟨rfl, hh.below⟩
theorem Sz.two {k : Nat} {p : Int} (h1 : -(k : Int) ≤ p) (h2 : p ≤ k) : Sz (k + 8) (Dyadic.ofIntWithPrec 1 p) := by
 have := Sz.raw (a := ⟨iN 1, iM 1, -p⟩) (m := 8) (E := k) (by show 8 * (iM 1).size ≤ 8; decide) (by simp only []; omega) (by simp only []; omega)
 rw [NR.d, NR.i, eD, Int.neg_neg] at this
 exact this.mono (by omega)
end Go.Proofs.YtioilmppidlbnaaGreatDoor
/- The walks through layer 4's laws (ogeelaw04): the package's own helpers. -/
namespace Go.Proofs.YtioilmppidlbnaaGreatDoor
open Go.RowKit
def D (m e : Int) : Dyadic := Dyadic.ofIntWithPrec m (-e)
theorem ve {m e : Int} (hm : m.natAbs < 256) (h1 : -16 ≤ e) (h2 : e ≤ 16) : Sz 24 (D m e) := by
 have := Sz.raw (a := ⟨iN m, iM m, e⟩) (m := 8) (E := 16) (by show 8 * (iM m).size ≤ 8; rw [cM]; have : bu m.natAbs ≤ 8 := cN hm; omega) h1 h2
 rw [NR.d, NR.i, eD] at this
 exact this
def Bj (most far : Int) (l : List NR) : Bool := l.any fun a => decide (most < a.bk.size ∨ a.e < -far ∨ far < a.e)
end Go.Proofs.YtioilmppidlbnaaGreatDoor
/- Arguments opened: dyadic numbers, rows of them; and what the listed table tells. -/
namespace Go.Proofs.YtioilmppidlbnaaGreatDoor
open Go.ChangeShapes Go.WideShapes Go.ChangeAt Go.RowKit Go.ChangeMaps
set_option maxRecDepth 100000 in
theorem uv {H : Type} {enc : TypeId × Value → H} {W : World} {base fuel : Nat} {sp : Nat → Bool} {held : Bool} {cs : List Value} {x : DataW H × List MemPlace} (h : DataW.trod enc Tryz.prog W base sp held fuel 39 cs = some x) :
  ∃ a : NR, cs = a.cells ∧ (Lit.int .i64 a.e).wf = true := by
 have c1 : Tryz.prog.cellsOf 39 = 3 := by kernel_rfl
 have c2 : Tryz.prog.cellsOf 37 = 2 := by kernel_rfl
 have c3 : Tryz.prog.cellsOf 4 = 1 := by kernel_rfl
 have c4 : Tryz.prog.cellsOf 9 = 1 := by kernel_rfl
 have c5 : Tryz.prog.cellsOf 3 = 1 := by kernel_rfl
 obtain ⟨y0, y1, n, _, hl, h0, h1⟩ := trod_struct2 Tryz.underlying39 h
 obtain ⟨z0, z1, n2, _, hl2, h00, h01⟩ := trod_struct2 Tryz.underlying37 h0
 obtain ⟨b, e0, _⟩ := DataW.trod_bool Tryz.underlying4 h00
 obtain ⟨s, e1, _, hs⟩ := DataW.trod_string Tryz.underlying9 h01
 obtain ⟨z, e2, _, hz⟩ := DataW.trod_int Tryz.underlying3 h1
 rw [c1] at hl
 match cs, hl with
 | [x0, x1, x2], _ =>
  simp only [c2, c3, c4, c5] at e0 e1 e2
  simp at e0 e1 e2
  subst e0 e1 e2
  exact ⟨⟨b, s, z⟩, rfl, hz⟩
theorem qU {W : World} (h : laidMetH Tryz.prog Rows.liftMulsRow.laid W) : fK W := by
 rw [MakeChecks.laidMetH_plain _ _ _ (by kernel_rfl)] at h
 obtain ⟨ps, ⟨g, t, cs, fuel, p, q, hg, ht, hv, hd, _, _⟩, _, _⟩ := h
 obtain rfl := Option.some.inj ((show Tryz.prog.globalNamed "math/bits.deBruijn64tab" = some 0 by kernel_rfl).symm.trans hg)
 obtain rfl := Option.some.inj ((show (Tryz.prog.globals[0]?).map (·.type) = some 213 by kernel_rfl).symm.trans ht)
 obtain ⟨xs, m, _, ex, _, hl, hel⟩ := DataW.trod_array Tryz.underlying213 hd
 have c5 : Tryz.prog.cellsOf 5 = 1 := by kernel_rfl
 have e3 : (xs.map (·.1)) = sq.map fun n => .lit (.int .u8 n) := (DataW.agg.inj (Prod.mk.inj ex).1).symm
 have hlen : sq.length = 64 := by decide
 intro r u hu
 have hr : r < 64 := by
  have := (List.getElem?_eq_some_iff.1 hu).1
  rw [cj] at this
  omega
 have hE := hel r hr
 rw [c5, Nat.mul_one, List.getElem?_eq_getElem (by omega)] at hE
 obtain ⟨z, e1, e2, _⟩ := DataW.trod_int Tryz.underlying5 hE
 have e4 : (xs.map (·.1))[r]? = (sq.map fun (n : Nat) => (DataW.lit (.int .u8 n) : DataW Unit))[r]? := by rw [e3]
 rw [List.getElem?_map, List.getElem?_map, List.getElem?_eq_getElem (by omega : r < xs.length), List.getElem?_eq_getElem (by omega : r < sq.length), e2] at e4
 have hz : u = .int .u8 z := by
  rw [ff, List.getElem?_map, List.getElem?_eq_getElem (by omega : r < sq.length)] at hu
  simp only [Option.map_some, Option.some.injEq, DataW.lit.injEq, Lit.int.injEq, true_and] at e4 hu
  rw [← hu, e4]
 rw [eb, Nat.zero_add, World.var?_cell hg hv r, hz]
 have : cs.toList[r]? = some (.int .u8 z) := by
  have h0 : ((cs.toList.drop r).take 1)[0]? = some (.int .u8 z) := by rw [e1]; rfl
  simpa using h0
 simpa using this
end Go.Proofs.YtioilmppidlbnaaGreatDoor
/- Arguments opened: slices of records. -/
namespace Go.Proofs.YtioilmppidlbnaaGreatDoor
open Go.ChangeShapes Go.WideShapes Go.ChangeAt Go.RowKit Go.ChangeMaps
theorem nK {α : Type} {p : Nat → α → Prop} : ∀ (n : Nat), (∀ i, i < n → ∃ a, p i a) → ∃ l : List α, l.length = n ∧ ∀ i a, l[i]? = some a → p i a
 | 0, _ => ⟨[], rfl, fun i a h => by simp at h⟩
 | n + 1, h => by
  obtain ⟨l, h1, h2⟩ := nK n fun i hi => h i (by omega)
  obtain ⟨a, ha⟩ := h n (by omega)
  refine ⟨l ++ [a], by simp [h1], fun i b hb => ?_⟩
  rcases Nat.lt_or_ge i l.length with hi | hi
  ·rw [List.getElem?_append_left hi] at hb
   exact h2 i b hb
  ·rw [List.getElem?_append_right hi] at hb
   have h3 : i - l.length = 0 := by
    rcases Nat.eq_zero_or_pos (i - l.length) with h | h
    ·exact h
    ·rw [List.getElem?_eq_none (by simp; omega)] at hb; cases hb
   rw [h3] at hb
   simp only [List.getElem?_cons_zero, Option.some.injEq] at hb
   subst hb
   rw [show i = n by omega]
   exact ha
theorem ud {α : Type} {f : α → List Value} {p : α → Prop} {sz : Nat} {P : Program} {t e : TypeId} {H : Type} {enc : TypeId × Value → H} {W : World} {r : Reach} {base b0 : Nat} {sp : Nat → Bool} {held : Bool} {v : Value} {d : DataW H} {ps : List MemPlace}
  (hf : ∀ x, (f x).length = sz) (h0 : 0 < sz) (ht : P.underlying t = some (.slice e)) (hc : P.cellsOf e = sz) (one : ∀ fuel cs x, DataW.trod enc P W base sp held fuel e cs = some x → ∃ a, cs = f a ∧ p a)
  (hval : Value.okWide P W r b0 t v) (hd : DataW.Trod enc P W base sp held t v d ps) : ∃ (A : Option Addr) (n c : Nat) (l : List α), v = .slice A n c ∧ Sl W A n sz (br f l) ∧ ∀ a ∈ l, p a := by
 obtain ⟨a, len, cap, rfl⟩ := okWide_slice ht hval
 obtain ⟨fuel, hfu⟩ := hd
 rcases Go.Deep.open_slice ht hfu with ⟨h1, _⟩ | ⟨ad, n, cp, m, k, D, Pl, h1, _, h2, h3, hm, _, h5⟩
 ·have h1' : [Value.slice a len cap] = [.slice none 0 0] := h1
  simp only [List.cons.injEq, Value.slice.injEq, and_true] at h1'
  obtain ⟨rfl, rfl, rfl⟩ := h1'
  exact ⟨none, 0, 0, [], rfl, Sl.nil W none sz, fun _ h => by simp at h⟩
 ·have h1' : [Value.slice a len cap] = [.slice (some ad) n cp] := h1
  simp only [List.cons.injEq, Value.slice.injEq, and_true] at h1'
  obtain ⟨rfl, rfl, rfl⟩ := h1'
  have hnm : len ≤ m := by rw [hm]; split <;> omega
  obtain ⟨l, hl, hp⟩ := nK (p := fun i a => W.cells? base (ad.add (i * sz)) sz = some (f a) ∧ p a) len fun i hi => by
   obtain ⟨cs, h6, h7⟩ := h5 i (by omega)
   rw [hc] at h6
   obtain ⟨a, rfl, h8⟩ := one _ _ _ h7
   exact ⟨a, h6, h8⟩
  refine ⟨some ad, len, cap, l, rfl, ⟨by rw [fS hf, hl], fun _ => ⟨ad, rfl, fun j u hu => ?_⟩⟩, fun a ha => ?_⟩
  ·have hdm : j / sz * sz + j % sz = j := by rw [Nat.mul_comm]; exact Nat.div_add_mod j sz
   have hmod : j % sz < sz := Nat.mod_lt _ h0
   have hj : j / sz < l.length := by
    have := (List.getElem?_eq_some_iff.1 hu).1
    rw [fS hf] at this
    exact Nat.div_lt_of_lt_mul (by rw [Nat.mul_comm]; exact this)
   obtain ⟨x, hx⟩ := aO hj
   have h6 := nF hf hx
   have h7 : (f x)[j % sz]? = some u := by
    rw [← h6, List.getElem?_take, if_pos hmod, List.getElem?_drop, hdm]
    exact hu
   have h8 := (World.cells?_some (hp _ _ hx).1).2.2 (j % sz) hmod
   rw [h7, iJ, hdm] at h8
   exact h8
  ·obtain ⟨i, hi⟩ := List.mem_iff_getElem?.1 ha
   exact (hp i a hi).2
end Go.Proofs.YtioilmppidlbnaaGreatDoor
/- Arguments opened: rows of ints. -/
namespace Go.Proofs.YtioilmppidlbnaaGreatDoor
open Go.ChangeShapes Go.WideShapes Go.ChangeAt Go.RowKit Go.ChangeMaps
def IC (z : Int) : List Value := [.int .i64 z]
theorem IC.len (z : Int) : (IC z).length = 1 := rfl
theorem sZ (l : List Int) : br IC l = bP l := by
 induction l with
 | nil => rfl
 | cons z l ih => rw [gl, ih]; rfl
set_option maxRecDepth 100000 in
theorem oT {H : Type} {enc : TypeId × Value → H} {W : World} {base fuel : Nat} {sp : Nat → Bool} {held : Bool} {cs : List Value} {x : DataW H × List MemPlace} (h : DataW.trod enc Tryz.prog W base sp held fuel 3 cs = some x) :
  ∃ z : Int, cs = IC z ∧ (Lit.int .i64 z).wf = true := by
 have c1 : Tryz.prog.cellsOf 3 = 1 := by kernel_rfl
 obtain ⟨z, e2, _, hz⟩ := DataW.trod_int Tryz.underlying3 h
 exact ⟨z, e2, hz⟩
set_option maxRecDepth 100000 in
theorem uF {H : Type} {enc : TypeId × Value → H} {W : World} {r : Reach} {base b0 : Nat} {sp : Nat → Bool} {held : Bool} {v : Value} {d : DataW H} {ps : List MemPlace}
  (hval : Value.okWide Tryz.prog W r b0 25 v) (hd : DataW.Trod enc Tryz.prog W base sp held 25 v d ps) : ∃ (A : Option Addr) (n c : Nat) (l : List Int), v = .slice A n c ∧ Sl W A n 1 (bP l) ∧ ∀ z ∈ l, -9223372036854775808 ≤ z ∧ z ≤ 9223372036854775807 := by
 obtain ⟨A, n, c, l, h1, h2, h3⟩ := ud IC.len (by decide) Tryz.underlying25 (by kernel_rfl) (fun _ _ _ h => oT h) hval hd
 rw [sZ] at h2
 exact ⟨A, n, c, l, h1, h2, fun z hz => bounds_i64 (h3 z hz)⟩
end Go.Proofs.YtioilmppidlbnaaGreatDoor
/- The built-in clear, on a slice that one owns. Plain lemmas, no program in sight. -/
namespace Go.Proofs.YtioilmppidlbnaaGreatDoor
open Go.RowKit
variable {ro : Mode}
theorem fq {w : World} {b b' : Nat} {t : TypeId} {sz n c : Nat} {A : Option Addr} {xs : List Value} (h : w.ownsRow b t sz (.slice A n c) n xs) (hb : b' ≤ b) : w.ownsRow b' t sz (.slice A n c) n xs :=
 ⟨h.1, h.2.imp id fun ⟨g, cap, cur, h1, h2, h3⟩ => ⟨g, cap, cur, h1, Nat.le_trans hb h2, h3⟩⟩
theorem l9 {w : World} {b b' : Nat} {x : HE} (h : x.holds b w) (hb : b' ≤ b) : x.holds b' w := by
 cases x with
 | blk b t cs fz => exact ⟨Nat.le_trans hb h.1, h.2⟩
 | row A n c t sz xs => exact fq h hb
 | ob b o => exact ⟨Nat.le_trans hb h.1, h.2⟩
theorem Hp.join {w0 w w' : World} {H H2 : List HE} (h : Hp w0 H w) (h2 : Hp w H2 w') : Hp w0 (H2 ++ H) w' := by
 have h' := h.ext h2.below
 refine ⟨h'.below, fun x hx => ?_, ?_⟩
 ·rcases List.mem_append.1 hx with hx | hx
  ·exact l9 (h2.own x hx) h.size
  ·exact h'.own x hx
 ·rw [List.filterMap_append, List.nodup_append]
  refine ⟨h2.nd, h.nd, fun a ha b hb hab => ?_⟩
  subst hab
  obtain ⟨x, hx, hxa⟩ := List.mem_filterMap.1 ha
  obtain ⟨y, hy, hya⟩ := List.mem_filterMap.1 hb
  have h3 := dJ (h2.own x hx) hxa
  have h4 := dJ (h.own y hy) hya
  omega
section
variable {P : Program} {N : Nat} {ops : Array Oper} {Q : Kq} {ρ : Rf} {w w0 : World} {rest : List Oper} {H : List HE} {ty : TypeId} {pos : String} {af : Array Edge}
theorem tn {o : Oper} {v : Value} {w' : World} (hg : o.guard = none) (hd : o.dst = none)
  (hr : (execOp (ev ρ) o).run P w = .ok (.value v) w') (k : WL ro P N ops Q rest ρ w') : WL ro P N ops Q (o :: rest) ρ w :=
 ⟨fun hm a hf => wpList_plain hg fun K hK => by
  unfold Oper.wp
  rw [hf.eval, hr]
  show K (a.put o.dst v) w'
  rw [hd]
  exact hK _ _ (k.jt hm _ hf),
 fun a hf n => wpListIn_plain hg fun K hK => by
  refine ⟨fun _ _ => trivial, ?_⟩
  rw [hf.eval, iq _ hr (fun _ h => by cases h)]
  show K (a.put o.dst v) w'
  rw [hd]
  exact hK _ _ (k.ik _ hf n)⟩
theorem wC {α : Type} {l : List α} {i : Nat} {x : α} (h : l[i]? = some x) : l.set i x = l := by
 obtain ⟨h1, rfl⟩ := List.getElem?_eq_some_iff.1 h
 exact List.set_getElem_self h1
theorem qR (hh : Hp w0 H w) {t e : TypeId} {x : Operand} {i n c sz by' : Nat} {ag : Bool} {A : Option Addr} {zc xs : List Value} (hi : H[i]? = some (.row A n c e sz xs)) (hx : ev ρ x = .slice A n c)
  (ht : P.underlying t = some (.slice e)) (hte : cS P e = some (sz, ag, by', zc)) (hzl : zc.length = sz) (h1 : (zc.all Value.oneCell') = true)
  (k : ∀ w', Hp w0 (H.set i (.row A n c e sz (fY n zc))) w' → WL ro P N ops Q rest ρ w') : WL ro P N ops Q (⟨none, .call ⟨.builtin .clear, #[x], #[t]⟩, ty, pos, af, none⟩ :: rest) ρ w := by
 obtain ⟨z, hz, hzc⟩ := dw (w := w) hte
 have hrow := hh.at_ hi
 obtain ⟨hlen, h2⟩ := hrow
 by_cases h0 : n = 0
 ·subst h0
  have hxs : xs = fY 0 zc := by
   have : xs.length = 0 := by omega
   rw [List.eq_nil_of_length_eq_zero this]; rfl
  subst hxs
  rw [wC hi] at k
  refine tn rfl rfl (v := .tuple #[]) ?_ (k w hh)
  simp only [execOp, resolve, invoke, hx, List.map_toArray, List.map_cons, List.map_nil]
  cases A <;> simp [builtin, Builtin.clear_, run_underlying ht]
 ·rcases h2 with ⟨h2, _⟩ | ⟨g, cap, cur, hv, hg, hheap, hmc, hcm, hcur, htake⟩
  ·injection h2 with h2 h3; omega
  ·injection hv with hA hn hcap
   subst hA; subst hcap
   have hcl : cur.size = cur.toList.length := by simp
   have hle : n * sz ≤ c * sz := Nat.mul_le_mul_right _ hmc
   have hzr : (fY n zc).length = n * sz := by rw [jB, hzl]
   have hall : ∀ v ∈ fY n zc, v.oneCell' = true := fun v hv => by
    obtain ⟨j, hj⟩ := List.mem_iff_getElem?.1 hv
    have hj2 := (List.getElem?_eq_some_iff.1 hj).1
    rw [jB] at hj2
    rw [pE n zc j hj2] at hj
    exact List.all_eq_true.1 h1 v (List.mem_of_getElem? hj)
   obtain ⟨w', hr, hb', hgr, hs⟩ := fi (P := P) (b := g) (t := e) (fz := (0, 0)) 0 (fY n zc) 0 cur.toList w (by simpa using hheap) (.inr (Nat.le_refl _)) (by rw [← hcl, hzr]; omega) hall
   refine tn rfl rfl (w' := w') (v := .tuple #[]) ?_ (k w' (hh.grown hi hgr (.inl rfl) ⟨hzr, .inr ⟨g, c, (cB cur.toList 0 (fY n zc)).toArray, rfl, hg, by simpa using hb', hmc, hcm, ?_, ?_⟩⟩))
   ·simp only [execOp, resolve, invoke, hx, List.map_toArray, List.map_cons, List.map_nil]
    have hzz : Builtin.zeroCells z.cells n = (fY n zc).toArray := by
     rw [Builtin.zeroCells, hzc, List.size_toArray]; exact kz n zc
    obtain ⟨m, rfl⟩ : ∃ m, n = m + 1 := ⟨n - 1, by omega⟩
    simp [builtin, Builtin.clear_, run_underlying ht, hz, hzz, hr]
   ·simp only [List.size_toArray]
    rw [eE (by rw [← hcl, hzr]; omega), ← hcl, hcur]
   ·simp only [cB]
    rw [List.take_zero, List.nil_append, List.take_left' hzr]
end
abbrev Hp.sz {w0 w : World} {H : List HE} (_ : Hp w0 H w) : Nat := w.heap.size
theorem rv {base : Nat} {W : World} {A : Option Addr} {n c sz b : Nat} {t' t : TypeId} {xs : List Value} {cs : Array Value} {fz : Nat × Nat} (h : HE.holds base W (.row A n c t' sz xs)) (h3 : W.heap[b]? = some (.cells cs t fz)) (hne : t' ≠ t) : (HE.row A n c t' sz xs).id ≠ some b := by
 intro hid
 rcases h.2 with ⟨h1, _⟩ | ⟨g, cap, cur, h1, _, h4, _⟩
 ·injection h1 with e1
  subst e1
  cases hid
 ·injection h1 with e1
  subst e1
  obtain rfl : g = b := Option.some.inj hid
  rw [h3] at h4
  injection h4 with h4
  injection h4 with _ h5
  exact hne h5.symm
theorem JJ.um {w0 w W w1 : World} {H L : List HE} {t : TypeId} {cs : List Value} {b : Nat} (hJ : JJ w0 H w W) (hs : Hp w0 H w) (h2 : w.heap.size ≤ b) (h3 : W.heap[b]? = some (.cells cs.toArray t (0, 0))) (hb : w.heap.size ≤ w1.heap.size) (hL : Hp w1 L W) (hne : ∀ x ∈ L, x.id ≠ some b) : Hp w0 (.blk b t cs (0, 0) :: (L ++ H)) W := by
 have h1 := hs.join (⟨hJ.bl, fun x hx => l9 (hL.own x hx) hb, hL.nd⟩ : Hp w L W)
 refine ⟨h1.below, fun x hx => ?_, ?_⟩
 ·rcases List.mem_cons.1 hx with rfl | hx
  ·exact ⟨Nat.le_trans hs.size h2, h3, .inr (Nat.le_refl _)⟩
  ·exact h1.own x hx
 ·rw [List.filterMap_cons]
  show (b :: (L ++ H).filterMap HE.id).Nodup
  refine List.nodup_cons.2 ⟨fun hm => ?_, h1.nd⟩
  obtain ⟨y, hy, hyb⟩ := List.mem_filterMap.1 hm
  rcases List.mem_append.1 hy with hy | hy
  ·exact hne y hy hyb
  ·have := (dJ (hs.own y hy) hyb).2
   omega
theorem tg {base : Nat} {W : World} {A A' : Option Addr} {n c sz n' c' sz' : Nat} {t t' : TypeId} {xs xs' : List Value} (h : HE.holds base W (.row A n c t sz xs)) (h' : HE.holds base W (.row A' n' c' t' sz' xs')) (hne : t ≠ t') (b : Nat) (h1 : (HE.row A n c t sz xs).id = some b) : (HE.row A' n' c' t' sz' xs').id ≠ some b := by
 rcases h.2 with ⟨h2, _⟩ | ⟨g, cap, cur, h2, _, h4, _⟩
 ·injection h2 with e1
  subst e1
  cases h1
 ·injection h2 with e1
  subst e1
  obtain rfl : g = b := Option.some.inj h1
  exact rv h' h4 (fun e => hne e.symm)
theorem JJ.mP {w0 w W : World} {H : List HE} {t t1 t2 : TypeId} {cs xs1 xs2 : List Value} {b n1 c1 s1 n2 c2 s2 : Nat} {A1 A2 : Option Addr} (hJ : JJ w0 H w W) (hs : Hp w0 H w) (h2 : w.heap.size ≤ b) (h3 : W.heap[b]? = some (.cells cs.toArray t (0, 0)))
  (o1 : W.ownsRow w.heap.size t1 s1 (.slice A1 n1 c1) n1 xs1) (o2 : W.ownsRow w.heap.size t2 s2 (.slice A2 n2 c2) n2 xs2) (h12 : t1 ≠ t2) (ht1 : t1 ≠ t) (ht2 : t2 ≠ t) : Hp w0 (.blk b t cs (0, 0) :: .row A1 n1 c1 t1 s1 xs1 :: .row A2 n2 c2 t2 s2 xs2 :: H) W := by
 have hL : Hp w [.row A1 n1 c1 t1 s1 xs1, .row A2 n2 c2 t2 s2 xs2] W := by
  refine ⟨hJ.bl, fun x hx => ?_, ?_⟩
  ·rcases List.mem_cons.1 hx with rfl | hx
   ·exact o1
   ·obtain rfl := List.mem_singleton.1 hx
    exact o2
  ·rw [List.filterMap_cons]
   split
   ·rw [List.filterMap_cons]
    split
    ·exact List.nodup_nil
    ·exact List.nodup_cons.2 ⟨by simp, List.nodup_nil⟩
   ·rename_i b1 hb1
    refine List.nodup_cons.2 ⟨fun hm => ?_, ?_⟩
    ·obtain ⟨y, hy, hyb⟩ := List.mem_filterMap.1 hm
     obtain rfl := List.mem_singleton.1 hy
     exact tg o1 o2 h12 b1 hb1 hyb
    ·rw [List.filterMap_cons]
     split
     ·exact List.nodup_nil
     ·exact List.nodup_cons.2 ⟨by simp, List.nodup_nil⟩
 refine JJ.um hJ hs h2 h3 (Nat.le_refl _) hL fun x hx => ?_
 rcases List.mem_cons.1 hx with rfl | hx
 ·exact rv o1 h3 ht1
 ·obtain rfl := List.mem_singleton.1 hx
  exact rv o2 h3 ht2
def np (base : Nat) (t : TypeId) (n sz : Nat) (cs : List Value) : VP := fun v W => ∃ A c, v = .slice A n c ∧ W.ownsRow base t sz (.slice A n c) n cs
theorem np.ext {base : Nat} {t : TypeId} {n sz : Nat} {cs : List Value} (v : Value) (w w' : World) (h : np base t n sz cs v w) (hb : Below w.heap.size w w') : np base t n sz cs v w' := let ⟨A, c, h1, h2⟩ := h; ⟨A, c, h1, gY h2 hb⟩
def kD (base : Nat) (t1 t2 : TypeId) (n1 s1 n2 s2 : Nat) (xs1 xs2 : List Value) : VP := fun v W => ∃ A c B k, v = .agg #[.slice A n1 c, .slice B n2 k] ∧ W.ownsRow base t1 s1 (.slice A n1 c) n1 xs1 ∧ W.ownsRow base t2 s2 (.slice B n2 k) n2 xs2
theorem kD.ext {base : Nat} {t1 t2 : TypeId} {n1 s1 n2 s2 : Nat} {xs1 xs2 : List Value} (v : Value) (w w' : World) (h : kD base t1 t2 n1 s1 n2 s2 xs1 xs2 v w) (hb : Below w.heap.size w w') : kD base t1 t2 n1 s1 n2 s2 xs1 xs2 v w' := let ⟨A, c, B, k, h1, h2, h3⟩ := h; ⟨A, c, B, k, h1, gY h2 hb, gY h3 hb⟩
end Go.Proofs.YtioilmppidlbnaaGreatDoor
/- Append to a slice without room, whose memory nobody needs. Plain lemmas, no program in sight. -/
namespace Go.Proofs.YtioilmppidlbnaaGreatDoor
open Go.RowKit
variable {ro : Mode}
section
variable {P : Program} {N : Nat} {ops : Array Oper} {Q : Kq} {ρ : Rf} {w w0 : World} {rest : List Oper} {d : Nat} {ty : TypeId} {pos : String} {af : Array Edge}
theorem pQ {t e : TypeId} {s x : Operand} {m c' sz by' : Nat} {ag : Bool} {A B : Option Addr} {zc news : List Value} (hs : ev ρ s = .slice A 0 0) (hx : ev ρ x = .slice B m c') (hsl : Sl w B m sz news)
  (ht : P.underlying t = some (.slice e)) (hte : cS P e = some (sz, ag, by', zc)) (hzl : zc.length = sz) (hsz : 0 < sz) (h1 : (news.all Value.oneCell') = true) (h63 : m ≤ maxLen) (hbytes : m * by' ≤ 140737488355328) (hN : d < N)
  (k0 : m = 0 → WL ro P N ops Q rest (cm ρ d (.slice A 0 0)) w)
  (k : ∀ A' c2 w', 0 < m → Below w.heap.size w w' → w'.ownsRow w.heap.size e sz (.slice A' m c2) m news → WL ro P N ops Q rest (cm ρ d (.slice A' m c2)) w') :
  WL ro P N ops Q (⟨some d, .call ⟨.builtin .append, #[s, x], #[t, t]⟩, ty, pos, af, none⟩ :: rest) ρ w := by
 obtain ⟨i, z, dd, hi, hd, hz, hs2, hby, hzc, _⟩ := ep hte
 have h1' : ∀ u ∈ news, u.oneCell' = true := fun u hu => List.all_eq_true.1 h1 u hu
 rcases Nat.eq_zero_or_pos m with h0 | h0
 ·subst h0
  have hnews : news = [] := List.eq_nil_of_length_eq_zero (by simpa using hsl.1)
  subst hnews
  have hr : (Builtin.append_ #[t, t] ty #[.slice A 0 0, .slice B 0 c']).run P w = .ok (.slice A 0 0) w := by
   cases B with
   | none => exact run_append_nothing w t t ty e i ht hi _ 0 0 (Nat.le_refl _) _ (Src.ofNil w ht c')
   | some ad => exact run_append_nothing w t t ty e i ht hi _ 0 0 (Nat.le_refl _) _ (Src.ofSlice w ht ad 0 c' [] (by simp) (fun j u hu => by simp at hu) (fun u hu => by cases hu))
  refine a8 rfl rfl hN ?_ (k0 rfl)
  simp only [execOp, resolve, invoke, builtin, Sem.run_bind, Sem.run_pure, Result.andThen_ok, List.map_toArray, List.map_cons, List.map_nil, hs, hx, hr]
 ·obtain ⟨ad, rfl, hr⟩ := hsl.2 h0
  have hsrc : Src P i.size t (.slice (some ad) m c') m news w := Src.ofSlice w ht ad m c' news (by rw [hs2]; exact hsl.1) hr h1'
  have hfit : Builtin.nextslicecap (0 + m) 0 * i.bytes ≤ 281474976710656 := growslice_fits (by omega) (by rw [hby, Nat.zero_add]; exact hbytes)
  have hb63 : ((0 + m : Nat) : Int) ≤ 9223372036854775807 := by unfold maxLen at h63; omega
  have hone : ∀ base2 : Option Addr, (Builtin.firstCells i.size 0 (.slice base2 0 0)).run P w.drew = .ok ([] : List Value).toArray w.drew := fun base2 => by
   cases base2 with
   | none => exact run_firstCells_none w.drew i.size 0 0 0
   | some a2 => exact run_firstCells_some w.drew i.size 0 a2 0 0 [] (by simp) (fun j u hu => by simp at hu)
  have hA := run_append_grow_src w t t ty e i z ht hi hz A 0 0 [] (hone _) _ m news hsrc (by omega) hb63 hfit
  have hB := run_append_grow_src w t t ty e i z ht hi hz none 0 0 [] (hone _) _ m news hsrc (by omega) hb63 hfit
  obtain ⟨A', c2, w', r1, r2, r3, _⟩ := ig (P := P) (w := w) w.heap.size t ty e sz by' ag zc ht hte hzl hsz none 0 0 [] (World.ownsRow_nil w w.heap.size e sz) (some ad) m c' news ⟨hsl.1, fun _ => ⟨ad, rfl, hr⟩⟩ h1' (by omega) (by rw [Nat.zero_add]; exact hbytes) (Nat.le_refl _)
  rw [hB, ← hA] at r1
  rw [Nat.zero_add] at r1 r2
  rw [List.nil_append] at r2
  refine a8 rfl rfl hN ?_ (k A' c2 w' h0 ⟨r3.os, r3.tape, r3.output, r3.size, fun k hk => r3.block k hk (by simp)⟩ r2)
  simp only [execOp, resolve, invoke, builtin, Sem.run_bind, Sem.run_pure, Result.andThen_ok, List.map_toArray, List.map_cons, List.map_nil, hs, hx, r1]
theorem mD {t e u : TypeId} {x y : Operand} {A : Option Addr} {n c n' c' : Nat} (ht : P.underlying t = some (.slice e)) (hx : ev ρ x = .slice A n c) (hy : ev ρ y = .slice none n' c') (hN : d < N)
  (kk : WL ro P N ops Q rest (cm ρ d (.bool A.isNone)) w) : WL ro P N ops Q (⟨some d, .binOp .eql t x y u, ty, pos, af, none⟩ :: rest) ρ w :=
 a8 rfl rfl hN (by
  have h1 := Go.Lib.run_eql_slice_nil (P := P) w t e A n c n' c' ht
  simp only [execOp, hx, hy]
  simp [eqGuard, h1]) kk
end
end Go.Proofs.YtioilmppidlbnaaGreatDoor
/- Plain laws of rows of indices: places, sums, rows gathered by places. No program in sight. -/
namespace Go.Proofs.YtioilmppidlbnaaGreatDoor
def sm {α : Type} : List α → (α → Dyadic) → Dyadic
 | [], _ => 0
 | a :: l, f => f a + sm l f
section
variable {α β : Type}
theorem uu (l m : List α) (f : α → Dyadic) : sm (l ++ m) f = sm l f + sm m f := by
 induction l with
 | nil => simp [sm, Dyadic.zero_add]
 | cons a l ih => simp only [List.cons_append, sm, ih]; grind
theorem kW (l : List α) (a : α) (f : α → Dyadic) : sm (l ++ [a]) f = sm l f + f a := by
 rw [uu]; simp only [sm]; grind
theorem jq {l : List α} {f g : α → Dyadic} (h : ∀ a ∈ l, f a = g a) : sm l f = sm l g := by
 induction l with
 | nil => rfl
 | cons a l ih => rw [sm, sm, h a List.mem_cons_self, ih fun b hb => h b (List.mem_cons_of_mem _ hb)]
end
def wI (N : Nat) (L : List (Nat × Dyadic)) : List Dyadic := (List.range N).map fun p => sm L fun q => if q.1 = p then q.2 else 0
theorem qS (N : Nat) : wI N [] = List.replicate N 0 := by
 refine List.ext_getElem (by simp [wI]) fun i h1 h2 => ?_
 simp [wI, sm]
theorem yq {α : Type} {l : List α} {f : α → Dyadic} {k : Nat} (h : ∀ a ∈ l, Sz k (f a)) : Sz (k + l.length) (sm l f) := by
 induction l with
 | nil => exact Sz.zero _
 | cons a l ih =>
  have h1 := ih fun b hb => h b (List.mem_cons_of_mem _ hb)
  have h2 := ((h a List.mem_cons_self).mono (show k ≤ k + l.length by omega)).add h1
  rw [sm, List.length_cons]
  exact h2.mono (by omega)
def aC : List Nat → Nat
 | [] => 1
 | d :: ds => (d + 1) * aC ds
def dp : List Nat → Nat → List Nat
 | [], _ => []
 | d :: ds, p => p % (d + 1) :: dp ds (p / (d + 1))
def ij : List Nat → List Nat → Nat
 | d :: ds, r :: rs => r + (d + 1) * ij ds rs
 | _, _ => 0
def rn : List Nat → List Nat → Prop
 | [], [] => True
 | d :: ds, r :: rs => r ≤ d ∧ rn ds rs
 | _, _ => False
theorem dx (ds : List Nat) : 0 < aC ds := by
 induction ds with
 | nil => exact Nat.one_pos
 | cons d ds ih => exact Nat.mul_pos (by omega) ih
theorem nX : ∀ (ds : List Nat) (p : Nat), (dp ds p).length = ds.length
 | [], _ => rfl
 | d :: ds, p => by rw [dp, List.length_cons, nX ds, List.length_cons]
theorem pL : ∀ (ds : List Nat) (p : Nat), rn ds (dp ds p)
 | [], _ => trivial
 | d :: ds, p => ⟨by have := Nat.mod_lt p (show 0 < d + 1 by omega); omega, pL ds _⟩
theorem q7 : ∀ {ds : List Nat} {p : Nat}, p < aC ds → ij ds (dp ds p) = p
 | [], p, h => by
  have : p < 1 := h
  show 0 = p
  omega
 | d :: ds, p, h => by
  have h1 : p / (d + 1) < aC ds := by rw [Nat.div_lt_iff_lt_mul (by omega), Nat.mul_comm]; exact h
  rw [dp, ij, q7 h1, Nat.mod_add_div]
theorem sY : ∀ {ds rs : List Nat}, rn ds rs → ij ds rs < aC ds
 | [], [], _ => Nat.one_pos
 | d :: ds, r :: rs, h => by
  have h1 := sY h.2
  have h2 := h.1
  rw [ij, aC]
  have h3 : (d + 1) * ij ds rs + (d + 1) ≤ (d + 1) * aC ds := by
   have := Nat.mul_le_mul_left (d + 1) (show ij ds rs + 1 ≤ aC ds by omega)
   rw [Nat.mul_add, Nat.mul_one] at this
   exact this
  omega
end Go.Proofs.YtioilmppidlbnaaGreatDoor
/- All products within some degrees: the odometer's list. Plain lemmas, no program in sight. -/
namespace Go.Proofs.YtioilmppidlbnaaGreatDoor
open Go.RowKit
def iy (d : Int) : List Int := (List.range (d.toNat + 1)).map fun (k : Nat) => (k : Int)
def dD : List Int → List (List Int)
 | [] => [[]]
 | d :: ds => (iy d).flatMap fun k => (dD ds).map (k :: ·)
def oM (n : Nat) : List Int := List.replicate n 0
def Bv : List Int → List Int → Option (List Int)
 | d :: ds, k :: l => match Bv ds l with
  | some l' => some (k :: l')
  | none => if k < d then some ((k + 1) :: oM l.length) else none
 | _, _ => none
def AR {α : Type} (f : α → Option α) : α → List α → Prop
 | a, [b] => b = a ∧ f a = none
 | a, b :: L => b = a ∧ ∃ c, f a = some c ∧ AR f c L
 | _, [] => False
theorem kZ : ∀ (ds : List Int) (l : List Int), l ∈ dD ds → l.length = ds.length
 | [], l, h => by simp [dD] at h; simp [h]
 | d :: ds, l, h => by
  simp only [dD, List.mem_flatMap, List.mem_map] at h
  obtain ⟨k, _, l', h2, rfl⟩ := h
  simp [kZ ds l' h2]
theorem jN (d : Int) : ∀ ds : List Int, dD (ds ++ [d]) = (dD ds).flatMap fun p => (iy d).map fun k => p ++ [k]
 | [] => by simp only [List.nil_append, dD, List.flatMap_cons, List.flatMap_nil, List.append_nil, List.map_cons, List.map_nil]; induction iy d with
  | nil => rfl
  | cons a l ih => simp [ih]
 | e :: ds => by
  simp only [List.cons_append, dD, jN d ds, List.map_flatMap, List.flatMap_assoc, List.flatMap_map, List.map_map, Function.comp_def]
theorem l0 (d : Int) : (iy d).length = d.toNat + 1 := by simp [iy]
theorem lU (d : Int) (ds : List Int) : (dD (ds ++ [d])).length = (dD ds).length * (d.toNat + 1) := by
 rw [jN, List.length_flatMap]
 simp only [List.length_map, l0]
 induction dD ds with
 | nil => simp
 | cons a l ih => simp [ih, Nat.add_mul]; omega
def n4 : Int → List Int → Bool
 | _, [] => true
 | n, d :: ds => decide (0 ≤ d) && (decide (d ≤ 127) && (decide (n * (d + 1) ≤ 65536) && n4 (n * (d + 1)) ds))
def fX (l : List Int) : ByteArray := str (l.map ru)
def nY (ds : List Int) : List ByteArray := if n4 1 ds then (dD ds).map fX else []
theorem ra : ∀ ds : List Int, 0 < (dD ds).length
 | [] => by simp [dD]
 | d :: ds => by
  simp only [dD, iy, List.length_flatMap]
  rw [List.range_succ_eq_map]
  have := ra ds
  simp; omega
theorem sy : ∀ (ds : List Int) (n : Int), n4 n ds = true → ∀ d ∈ ds, 0 ≤ d ∧ d ≤ 127
 | [], _, _, d, h => by simp at h
 | e :: ds, n, h, d, hd => by
  simp only [n4, Bool.and_eq_true, decide_eq_true_eq] at h
  rcases List.mem_cons.1 hd with rfl | hd
  ·exact ⟨h.1, h.2.1⟩
  ·exact sy ds _ h.2.2.2 d hd
theorem q4 {ds : List Int} {k : Nat} {d n : Int} (hk : ds[k]? = some d) (h : n4 1 ds = n4 n (ds.drop k)) (hb : (0 ≤ d ∧ d ≤ 127) ∧ n * (d + 1) ≤ 65536) :
  n4 1 ds = n4 (n * (d + 1)) (ds.drop (k + 1)) := by
 obtain ⟨hlt, he⟩ := List.getElem?_eq_some_iff.1 hk
 rw [h, List.drop_eq_getElem_cons hlt, he]
 simp [n4, hb.1.1, hb.1.2, hb.2]
theorem na {ds : List Int} {k : Nat} {d n : Int} (hk : ds[k]? = some d) (h : n4 1 ds = n4 n (ds.drop k)) (hb : ¬ ((0 ≤ d ∧ d ≤ 127) ∧ n * (d + 1) ≤ 65536)) : n4 1 ds = false := by
 obtain ⟨hlt, he⟩ := List.getElem?_eq_some_iff.1 hk
 rw [h, List.drop_eq_getElem_cons hlt, he]
 simp only [n4, Bool.and_eq_false_iff, decide_eq_false_iff_not]
 rcases Classical.em (0 ≤ d) with h1 | h1 <;> rcases Classical.em (d ≤ 127) with h2 | h2
 ·exact .inr (.inr (.inl (by omega)))
 ·exact .inr (.inl h2)
 ·exact .inl h1
 ·exact .inl h1
theorem gm {ds : List Int} {k : Nat} {d : Int} (hk : ds[k]? = some d) (h0 : 0 ≤ d) : ((dD (ds.take (k + 1))).length : Int) = (dD (ds.take k)).length * (d + 1) := by
 rw [a9 hk, lU, Int.natCast_mul]
 congr 1
 omega
theorem nC {ds : List Int} (h : n4 1 ds = true) : ∀ k, k ≤ ds.length → n4 1 ds = n4 (dD (ds.take k)).length (ds.drop k) ∧ (dD (ds.take k)).length ≤ 65536
 | 0, _ => ⟨by simp [dD], by simp [dD]⟩
 | k + 1, hk => by
  obtain ⟨h1, h2⟩ := nC h k (by omega)
  obtain ⟨d, hd⟩ := aO (l := ds) (k := k) (by omega)
  have hb := sy ds 1 h d (List.mem_of_getElem? hd)
  by_cases hc : ((dD (ds.take k)).length : Int) * (d + 1) ≤ 65536
  ·have h3 := q4 hd h1 ⟨hb, hc⟩
   have h4 := gm hd hb.1
   rw [← h4] at h3 hc
   exact ⟨h3, by omega⟩
  ·have := na hd h1 fun x => hc x.2
   rw [h] at this; cases this
def gX (d : Int) (s : ByteArray) : List ByteArray := (iy d).map fun q => s ++ str [ru q]
theorem xG {ds : List Int} {k : Nat} {d : Int} (hk : ds[k]? = some d) : (dD (ds.take (k + 1))).map fX = ((dD (ds.take k)).map fX).flatMap (gX d) := by
 rw [a9 hk, jN, List.map_flatMap, List.flatMap_map]
 congr 1
 funext p
 simp only [gX, List.map_map]
 apply List.map_congr_left
 intro q _
 simp only [Function.comp, fX, List.map_append, rp, List.map_cons, List.map_nil]
theorem yt {d : Int} {s : ByteArray} {q : Nat} (hq : (q : Int) ≤ d) : (gX d s)[q]? = some (s ++ str [ru q]) := by
 simp only [gX, iy, List.map_map, List.getElem?_map, List.getElem?_range (show q < d.toNat + 1 by omega), Option.map_some, Function.comp]
theorem uh (d : Int) (s : ByteArray) : (gX d s).length = d.toNat + 1 := by simp [gX, iy]
theorem z7 {d : Int} {S : List ByteArray} {j : Nat} {s : ByteArray} (hs : S[j]? = some s) (q : Nat) : ((S.take j).flatMap (gX d) ++ (gX d s).take q).length ≤ (S.flatMap (gX d)).length := by
 have e : S.flatMap (gX d) = (S.take j).flatMap (gX d) ++ (gX d s ++ (S.drop (j + 1)).flatMap (gX d)) := by
  obtain ⟨h1, h2⟩ := List.getElem?_eq_some_iff.1 hs
  conv => lhs; rw [← List.take_append_drop j S, List.drop_eq_getElem_cons h1, h2]
  rw [List.flatMap_append, List.flatMap_cons]
 rw [e]
 simp only [List.length_append, List.length_take]
 omega
theorem xb {ds : List Int} {k : Nat} {j : Nat} {s : ByteArray} (hs : ((dD (ds.take k)).map fX)[j]? = some s) : s.size ≤ k := by
 have := List.mem_of_getElem? hs
 obtain ⟨l, hl, rfl⟩ := List.mem_map.1 this
 have := kZ _ l hl
 simp only [fX, jj, List.length_map]
 simp at this
 omega
theorem Hp.perm {w0 w : World} {H H' : List HE} (h : Hp w0 H w) (p : H.Perm H') : Hp w0 H' w :=
 ⟨h.below, fun x hx => h.own x (p.mem_iff.2 hx), ((p.filterMap _).nodup_iff).1 h.nd⟩
def Bu (ls : List Int) (k n : Nat) : List Int := ls.take k ++ oM (n - k)
end Go.Proofs.YtioilmppidlbnaaGreatDoor
/- Plain laws: ways to choose, rows in their order, forms that may be. No program in sight. -/
namespace Go.Proofs.YtioilmppidlbnaaGreatDoor
def bin : Nat → Nat → Nat
 | _, 0 => 1
 | 0, _ + 1 => 0
 | n + 1, k + 1 => bin n k + bin n (k + 1)
theorem nW (n : Nat) : bin n 0 = 1 := by cases n <;> rfl
theorem pN : ∀ {n k : Nat}, n < k → bin n k = 0
 | 0, k + 1, _ => rfl
 | n + 1, k + 1, h => by rw [bin, pN (show n < k by omega), pN (show n < k + 1 by omega)]
theorem mR : ∀ n, bin n n = 1
 | 0 => rfl
 | n + 1 => by rw [bin, mR n, pN (show n < n + 1 by omega)]
theorem nU : ∀ n k : Nat, bin n k ≤ 2 ^ n
 | n, 0 => by rw [nW]; exact Nat.pow_pos (by decide)
 | 0, k + 1 => Nat.zero_le _
 | n + 1, k + 1 => by
  have h1 := nU n k
  have h2 := nU n (k + 1)
  rw [bin, Nat.pow_succ]
  omega
def jc (n : Nat) : List Nat := (List.range (n + 1)).map (bin n)
theorem m9 (n : Nat) : (jc n).length = n + 1 := by simp [jc]
theorem ml {n k : Nat} (h : k ≤ n) : (jc n)[k]? = some (bin n k) := by
 unfold jc
 rw [List.getElem?_map, List.getElem?_range (by omega)]
 rfl
def nD (n : Nat) : Dyadic := ((n : Int) : Dyadic)
theorem xN : nD 0 = 0 := rfl
theorem yB : nD 1 = 1 := rfl
theorem pY (a b : Nat) : nD (a + b) = nD a + nD b := by
 show Dyadic.ofIntWithPrec ((a + b : Nat) : Int) 0 = Dyadic.ofIntWithPrec (a : Int) 0 + Dyadic.ofIntWithPrec (b : Int) 0
 rw [mn, Int.natCast_add]
theorem zA (a b : Nat) : nD (a * b) = nD a * nD b := by
 induction a with
 | zero => rw [Nat.zero_mul, xN]; grind
 | succ a ih => rw [Nat.succ_mul, pY, pY, ih, yB]; grind
theorem wo {n k : Nat} (h : n < 2 ^ k) : Sz k (nD n) := by
 refine ⟨(n : Int) * 2 ^ k, ?_, ?_⟩
 ·have := jJ (n : Int) 0 k
  rw [show (0 : Int) + (k : Int) = k by omega] at this
  rw [this]
  rfl
 ·rw [Int.natAbs_mul, Int.natAbs_pow, Int.natAbs_natCast, show 2 * k = k + k by omega, Nat.pow_add]
  exact Nat.mul_lt_mul_of_pos_right h (Nat.pow_pos (by decide))
theorem kh {α β : Type} {m : Nat} (hm : 0 < m) (g : α → List β) : ∀ (l : List α) (p : Nat), (∀ a ∈ l, (g a).length = m) → (l.flatMap g)[p]? = (l[p / m]?).bind fun a => (g a)[p % m]?
 | [], p, _ => by simp
 | a :: l, p, h => by
  have ha := h a List.mem_cons_self
  rw [List.flatMap_cons]
  by_cases hp : p < m
  ·rw [List.getElem?_append_left (by omega), Nat.div_eq_of_lt hp, Nat.mod_eq_of_lt hp]
   rfl
  ·obtain ⟨q, rfl⟩ : ∃ q, p = q + m := ⟨p - m, by omega⟩
   rw [List.getElem?_append_right (by omega), ha, Nat.add_sub_cancel, kh hm g l q fun b hb => h b (List.mem_cons_of_mem _ hb), Nat.add_div_right _ hm, Nat.add_mod_right, List.getElem?_cons_succ]
theorem l8 {α β : Type} {m : Nat} (g : α → List β) : ∀ (l : List α), (∀ a ∈ l, (g a).length = m) → (l.flatMap g).length = l.length * m
 | [], _ => by simp
 | a :: l, h => by
  rw [List.flatMap_cons, List.length_append, h a List.mem_cons_self, l8 g l fun b hb => h b (List.mem_cons_of_mem _ hb), List.length_cons, Nat.succ_mul, Nat.add_comm]
def bL (l : List Nat) : List Int := l.map fun (n : Nat) => (n : Int)
theorem iw (l : List Nat) : (bL l).length = l.length := by simp [bL]
theorem iH {l : List Nat} {i n : Nat} (h : l[i]? = some n) : (bL l)[i]? = some (n : Int) := by simp [bL, h]
theorem nJ : ∀ (rs : List Nat), (dD (bL rs.reverse)).length = aC rs ∧ ∀ p, p < aC rs → (dD (bL rs.reverse))[p]? = some (bL (dp rs p).reverse)
 | [] => ⟨rfl, fun p h => by obtain rfl : p = 0 := (by have h2 : p < 1 := h; omega); rfl⟩
 | d :: rs => by
  obtain ⟨h1, h2⟩ := nJ rs
  have e1 : bL (d :: rs).reverse = bL rs.reverse ++ [(d : Int)] := by simp [bL]
  have hu : (iy (d : Int)).length = d + 1 := by rw [l0]; simp
  have hg : ∀ a ∈ dD (bL rs.reverse), ((iy (d : Int)).map fun k => a ++ [k]).length = d + 1 := fun a _ => by rw [List.length_map, hu]
  rw [e1, jN]
  refine ⟨by rw [l8 _ _ hg, h1, aC, Nat.mul_comm], fun p hp => ?_⟩
  have hq : p / (d + 1) < aC rs := by rw [Nat.div_lt_iff_lt_mul (by omega), Nat.mul_comm]; exact hp
  have hr : p % (d + 1) < d + 1 := Nat.mod_lt _ (by omega)
  rw [kh (by omega) _ _ _ hg, h2 _ hq]
  show ((iy (d : Int)).map fun k => bL (dp rs (p / (d + 1))).reverse ++ [k])[p % (d + 1)]? = _
  rw [List.getElem?_map, iy, List.getElem?_map, List.getElem?_range (by simpa using hr)]
  simp [dp, bL]
theorem vZ (ds : List Nat) : (dD (bL ds)).length = aC ds.reverse := by
 have := (nJ ds.reverse).1
 rwa [List.reverse_reverse] at this
theorem wW {ds : List Nat} {p : Nat} (h : p < aC ds.reverse) : (dD (bL ds))[p]? = some (bL (dp ds.reverse p).reverse) := by
 have := (nJ ds.reverse).2 p h
 rwa [List.reverse_reverse] at this
theorem p4 : ∀ {ds rs : List Nat}, rn ds rs → rs.length = ds.length
 | [], [], _ => rfl
 | _ :: _, _ :: _, h => by rw [List.length_cons, List.length_cons, p4 h.2]
theorem vp {ds rs : List Nat} {i d r : Nat} (hd : ds[i]? = some d) (hr : rs[i]? = some r) : ij (ds.take (i + 1)).reverse (rs.take (i + 1)).reverse = r + (d + 1) * ij (ds.take i).reverse (rs.take i).reverse := by
 rw [a9 hd, a9 hr]
 simp [ij]
theorem u7 {ds : List Nat} {i d : Nat} (hd : ds[i]? = some d) : aC (ds.take (i + 1)).reverse = (d + 1) * aC (ds.take i).reverse := by
 rw [a9 hd]
 simp [aC]
theorem eV (a b : List Nat) : aC (a ++ b) = aC a * aC b := by
 induction a with
 | nil => simp [aC]
 | cons d a ih => rw [List.cons_append, aC, aC, ih, Nat.mul_assoc]
theorem eC (ds : List Nat) : aC ds.reverse = aC ds := by
 induction ds with
 | nil => rfl
 | cons d ds ih => rw [List.reverse_cons, eV, ih, aC, aC, aC, Nat.mul_one, Nat.mul_comm]
theorem gx (ds : List Nat) (i : Nat) : aC (ds.take i) ≤ aC ds := by
 have : ds = ds.take i ++ ds.drop i := (List.take_append_drop i ds).symm
 calc aC (ds.take i) = aC (ds.take i) * 1 := (Nat.mul_one _).symm
  _ ≤ aC (ds.take i) * aC (ds.drop i) := Nat.mul_le_mul_left _ (dx _)
  _ = aC ds := by rw [← eV, List.take_append_drop]
end Go.Proofs.YtioilmppidlbnaaGreatDoor
/- The walks through the library's small functions over rows; plain laws of forms that may be. -/
namespace Go.Proofs.YtioilmppidlbnaaGreatDoor
open Go.RowKit
theorem kL (A : Option Addr) (n c : Nat) (ds : List Int) (w : World) (hS : Sl w A n 1 (bP ds)) (hn : n ≤ 1000000) :
  Calls Tryz.prog 58 #[.slice A n c] w fun r w' => ∃ B c', r = .returned (.slice B n c') ∧ w'.ownsRow w.heap.size 3 1 (.slice B n c') n (bP ds) ∧ Below w.heap.size w w' := by
 have hh := Hp.start w
 rcases A with _ | ad
 ·have hn0 : n = 0 := by
   rcases Nat.eq_zero_or_pos n with h | h
   ·exact h
   ·obtain ⟨_, h1, _⟩ := hS.2 h; cases h1
  subst hn0
  have hl : ds = [] := List.eq_nil_of_length_eq_zero (by simpa [bP] using hS.1)
  subst hl
  refine aj (N := 8) (l := [.slice none 0 c]) Tryz.func58 rfl rfl (by simp) ?_
  refine sr (aL (aa (ah (sr (mL ?_)))))
  refine mD aN.out rfl rfl (by decide) ?_
  refine aa (cT (sr (aL (aa (ao (aQ ?_))))))
  refine cx ?_
  exact ⟨_, _, rfl, World.ownsRow_nil _ _ _ _, hh.below⟩
 ·refine aj (N := 8) (l := [.slice (some ad) n c]) Tryz.func58 rfl rfl (by simp) ?_
  refine sr (aL (aa (ah (sr (mL ?_)))))
  refine mD aN.out rfl rfl (by decide) ?_
  refine aa (cF (ak (ai (sr ?_))))
  refine fU hh aN.out aA.out (by decide) ?_
  intro b5 w5 hh
  refine mL ?_
  refine df hh (i := 0) rfl rfl rfl (hS.ext hh.below) aN.out aA.out rfl (by decide) ?one2 (by omega) (by omega) (by decide) ?kk2
  case one2 => first | rfl | assumption | exact bW _ | exact oneCells_u8s _
  intro A7 c7 w7 hh
  simp only [List.set_cons_zero] at hh
  rw [Nat.zero_add] at hh ⊢
  rw [List.nil_append] at hh
  refine aL (aa (ao ?_))
  refine cx ?_
  exact ⟨_, _, rfl, hh.at_ (i := 0) rfl, hh.below⟩
theorem iL (A : Option Addr) (n c : Nat) (xs : List NR) (w : World) (hS : Sl w A n 3 (br NR.cells xs)) (hn : n ≤ 1000000) :
  Calls Tryz.prog 92 #[.slice A n c] w fun r w' => ∃ B c', r = .returned (.slice B n c') ∧ w'.ownsRow w.heap.size 39 3 (.slice B n c') n (br NR.cells xs) ∧ Below w.heap.size w w' := by
 have hh := Hp.start w
 rcases A with _ | ad
 ·have hn0 : n = 0 := by
   rcases Nat.eq_zero_or_pos n with h | h
   ·exact h
   ·obtain ⟨_, h1, _⟩ := hS.2 h; cases h1
  subst hn0
  have hl : xs = [] := List.eq_nil_of_length_eq_zero (by have := hS.eI NR.len (by decide); omega)
  subst hl
  refine aj (N := 8) (l := [.slice none 0 c]) Tryz.func92 rfl rfl (by simp) ?_
  refine sr (aL (aa (ah (sr (mL ?_)))))
  refine mD aN.out rfl rfl (by decide) ?_
  refine aa (cT (sr (aL (aa (ao (aQ ?_))))))
  refine cx ?_
  exact ⟨_, _, rfl, World.ownsRow_nil _ _ _ _, hh.below⟩
 ·have hone : ((br NR.cells xs).all Value.oneCell') = true := cz NR.one _
  refine aj (N := 8) (l := [.slice (some ad) n c]) Tryz.func92 rfl rfl (by simp) ?_
  refine sr (aL (aa (ah (sr (mL ?_)))))
  refine mD aN.out rfl rfl (by decide) ?_
  refine aa (cF (ak (ai (sr ?_))))
  refine fU hh aN.out aA.out (by decide) ?_
  intro b5 w5 hh
  refine mL ?_
  refine df hh (i := 0) rfl rfl rfl (hS.ext hh.below) aN.out aA.out rfl (by decide) ?one3 (by omega) (by omega) (by decide) ?kk3
  case one3 => first | rfl | assumption | exact bW _ | exact oneCells_u8s _
  intro A7 c7 w7 hh
  simp only [List.set_cons_zero] at hh
  rw [Nat.zero_add] at hh ⊢
  rw [List.nil_append] at hh
  refine aL (aa (ao ?_))
  refine cx ?_
  exact ⟨_, _, rfl, hh.at_ (i := 0) rfl, hh.below⟩
theorem sk (A : Option Addr) (n c : Nat) (l : List Int) (g : FuncId) (cap : List Value) (p : Int → Bool) (w : World) (hS : Sl w A n 1 (bP l)) (hn : n ≤ 1000000) [av Tryz.prog g]
  (hg : ∀ (z : Int) (w1 : World), z ∈ l → Below w.heap.size w w1 → Calls Tryz.prog g (.int .i64 z :: cap).toArray w1 fun r w' => r = .returned (.bool (p z)) ∧ Below w1.heap.size w1 w') :
  Calls Tryz.prog 142 #[.slice A n c, .func (.func g) #[] cap.toArray] w fun r w' => ∃ v, r = .returned (.int .i64 v) ∧ (0 ≤ v ↔ l.any p = true) ∧ Below w.heap.size w w' := by
 have hh := Hp.start w
 have hln : l.length = n := by have := hS.1; simpa [bP] using this
 refine aj (N := 19) (l := [.slice A n c, .func (.func g) #[] cap.toArray]) Tryz.func142 rfl rfl (by simp) ?_
 refine sr (aI (aa (ah (sr (mL (a7 (mI (aa (al ?_)))))))))
 refine bx [4, 5, 8, 9, 10, 11, 12, 13, 14, 15, 16, 17, 18] 8
  (fun v w' => ∃ i : Nat, i ≤ n ∧ v = .int .i64 i ∧ (l.take i).any p = false ∧ Hp w [] w')
  (fun v _ => n - (intOf v).toNat) ?_ ?_
 ·exact ⟨0, Nat.zero_le _, rfl, rfl, hh⟩
 ·clear hh
  rintro ρ' v w' ⟨i, hi, rfl, hall, hh⟩
  by_cases hlt : i < n
  ·obtain ⟨z, hz⟩ := aO (l := l) (k := i) (by omega)
   have hgi := cg hz
   obtain ⟨ad, rfl, hr⟩ := hS.at_ (by omega)
   have hc := fun w1 => hg z w1 (List.mem_of_getElem? hz)
   cases gz : p z with
   | true =>
    rw [gz] at hc
    refine sr ?_
    refine aK (aa (ah (cT (ak (ai (ah (al (sr (mI (aI (aa ?_)))))))))))
    refine sr ?_
    refine gD (by first | exact gK rfl | exact gJ rfl) (by decide) ?_
    refine mL (mI ?_)
    refine aX (k := i) aN.out aA.size rfl rfl (by omega) (by omega) (by decide) ?_
    refine aV aA.out rfl ((hr.ext hh.below).fJ hgi) (by decide) ?_
    refine lv (hc _ hh.below) av.out rfl rfl (by decide) ?_
    rintro e_ w16 ⟨rfl, hb_⟩
    refine ⟨_, rfl, ?_⟩
    replace hh := hh.ext hb_
    refine aa (cT (sr (mI (aI (aa (ao (bZ (aQ (aQ (bZ (aQ ?_)))))))))))
    refine cx ?_
    exact ⟨_, rfl, ⟨fun _ => List.any_eq_true.2 ⟨z, List.mem_of_getElem? hz, gz⟩, fun _ => by omega⟩, hh.below⟩
   | false =>
    rw [gz] at hc
    refine sr ?_
    refine aK (aa (ah (cT (ak (ai (ah (al (sr (mI (aI (aa ?_)))))))))))
    refine sr ?_
    refine gD (by first | exact gK rfl | exact gJ rfl) (by decide) ?_
    refine mL (mI ?_)
    refine aX (k := i) aN.out aA.size rfl rfl (by omega) (by omega) (by decide) ?_
    refine aV aA.out rfl ((hr.ext hh.below).fJ hgi) (by decide) ?_
    refine lv (hc _ hh.below) av.out rfl rfl (by decide) ?_
    rintro e_ w16 ⟨rfl, hb_⟩
    refine ⟨_, rfl, ?_⟩
    replace hh := hh.ext hb_
    refine aa (cF (ak (a0 (ai (aq ?_)))))
    refine bz (mI (aD (ai ?_)))
    refine ⟨⟨i + 1, by omega, rfl, by rw [a9 hz, List.any_append, hall, List.any_cons, List.any_nil, gz]; rfl, hh⟩, by show n - (i + 1) < n - i; omega, ?_⟩
    (repeat (first | exact aw _ _ _ | refine az rfl ?_ | refine au rfl ?_))
  ·rw [List.take_of_length_le (by omega)] at hall
   refine sr ?_
   refine aK (aa (ah (cF ?_)))
   refine aY ?_
   refine ay (ay (bm (ai (sr (aI (aa (ao ?_)))))))
   refine cx ?_
   exact ⟨_, rfl, ⟨fun h => absurd h (by decide), fun h => by rw [hall] at h; cases h⟩, hh.below⟩
theorem m0 (A : Option Addr) (n c : Nat) (l : List Int) (g : FuncId) (cap : List Value) (p : Int → Bool) (w : World) (hS : Sl w A n 1 (bP l)) (hn : n ≤ 1000000) [av Tryz.prog g]
  (hg : ∀ (z : Int) (w1 : World), z ∈ l → Below w.heap.size w w1 → Calls Tryz.prog g (.int .i64 z :: cap).toArray w1 fun r w' => r = .returned (.bool (p z)) ∧ Below w1.heap.size w1 w') :
  Calls Tryz.prog 90 #[.slice A n c, .func (.func g) #[] cap.toArray] w fun r w' => r = .returned (.bool (l.any p)) ∧ Below w.heap.size w w' := by
 have hh := Hp.start w
 refine aj (N := 9) (l := [.slice A n c, .func (.func g) #[] cap.toArray]) Tryz.func90 rfl rfl (by simp) ?_
 refine sr (aB (aa (sr (mL ?_))))
 refine gD (by first | exact gK rfl | exact gJ rfl) (by decide) ?_
 refine aU (sk A n c l g cap p _ (hS.ext hh.below) hn hg) av.out rfl (by decide) ?_
 rintro e_ w7 ⟨v_, rfl, hv_, hb_⟩
 refine ⟨_, rfl, ?_⟩
 replace hh := hh.ext hb_
 cases ga : l.any p with
 | true =>
  have h0 := hv_.2 ga
  refine dn (aB (aa (ao ?_)))
  refine cx ?_
  exact ⟨rfl, hh.below⟩
 | false =>
  have h0 : ¬ 0 ≤ v_ := fun h => by rw [hv_.1 h] at ga; cases ga
  refine dn (aB (aa (ao ?_)))
  refine cx ?_
  exact ⟨rfl, hh.below⟩
theorem rQ (A : Option Addr) (n c : Nat) (l : List NR) (g : FuncId) (cap : List Value) (p : NR → Bool) (w : World) (hS : Sl w A n 3 (br NR.cells l)) (hn : n ≤ 1000000) [av Tryz.prog g]
  (hg : ∀ (z : NR) (w1 : World), z ∈ l → Below w.heap.size w w1 → Calls Tryz.prog g (.agg #[.bool z.neg, .string z.bk, .int .i64 z.e] :: cap).toArray w1 fun r w' => r = .returned (.bool (p z)) ∧ Below w1.heap.size w1 w') :
  Calls Tryz.prog 155 #[.slice A n c, .func (.func g) #[] cap.toArray] w fun r w' => ∃ v, r = .returned (.int .i64 v) ∧ (0 ≤ v ↔ l.any p = true) ∧ Below w.heap.size w w' := by
 have hh := Hp.start w
 have hln := hS.eI NR.len (by decide)
 refine aj (N := 19) (l := [.slice A n c, .func (.func g) #[] cap.toArray]) Tryz.func155 rfl rfl (by simp) ?_
 refine sr (aI (aa (ah (sr (mL (a7 (mI (aa (al ?_)))))))))
 refine bx [4, 5, 8, 9, 10, 11, 12, 13, 14, 15, 16, 17, 18] 8
  (fun v w' => ∃ i : Nat, i ≤ n ∧ v = .int .i64 i ∧ (l.take i).any p = false ∧ Hp w [] w')
  (fun v _ => n - (intOf v).toNat) ?_ ?_
 ·exact ⟨0, Nat.zero_le _, rfl, rfl, hh⟩
 ·clear hh
  rintro ρ' v w' ⟨i, hi, rfl, hall, hh⟩
  by_cases hlt : i < n
  ·obtain ⟨z, hz⟩ := aO (l := l) (k := i) (by omega)
   obtain ⟨ad, rfl, hr⟩ := hS.at_ (by omega)
   have hc := fun w1 => hg z w1 (List.mem_of_getElem? hz)
   cases gz : p z with
   | true =>
    rw [gz] at hc
    refine sr ?_
    refine aK (aa (ah (cT (ak (ai (ah (al (sr (mI (aI (aa ?_)))))))))))
    refine sr ?_
    refine gD (by first | exact gK rfl | exact gJ rfl) (by decide) ?_
    refine mL (mI ?_)
    refine aX (k := i) aN.out aA.size rfl rfl (by omega) (by omega) (by decide) ?_
    refine fu (vs := [_, _, _]) aA.out rfl ((hr.ext hh.below).recAt NR.len hz) rfl (by decide) ?_
    refine lv (hc _ hh.below) av.out rfl rfl (by decide) ?_
    rintro e_ w16 ⟨rfl, hb_⟩
    refine ⟨_, rfl, ?_⟩
    replace hh := hh.ext hb_
    refine aa (cT (sr (mI (aI (aa (ao (bZ (aQ (aQ (bZ (aQ ?_)))))))))))
    refine cx ?_
    exact ⟨_, rfl, ⟨fun _ => List.any_eq_true.2 ⟨z, List.mem_of_getElem? hz, gz⟩, fun _ => by omega⟩, hh.below⟩
   | false =>
    rw [gz] at hc
    refine sr ?_
    refine aK (aa (ah (cT (ak (ai (ah (al (sr (mI (aI (aa ?_)))))))))))
    refine sr ?_
    refine gD (by first | exact gK rfl | exact gJ rfl) (by decide) ?_
    refine mL (mI ?_)
    refine aX (k := i) aN.out aA.size rfl rfl (by omega) (by omega) (by decide) ?_
    refine fu (vs := [_, _, _]) aA.out rfl ((hr.ext hh.below).recAt NR.len hz) rfl (by decide) ?_
    refine lv (hc _ hh.below) av.out rfl rfl (by decide) ?_
    rintro e_ w16 ⟨rfl, hb_⟩
    refine ⟨_, rfl, ?_⟩
    replace hh := hh.ext hb_
    refine aa (cF (ak (a0 (ai (aq ?_)))))
    refine bz (mI (aD (ai ?_)))
    refine ⟨⟨i + 1, by omega, rfl, by rw [a9 hz, List.any_append, hall, List.any_cons, List.any_nil, gz]; rfl, hh⟩, by show n - (i + 1) < n - i; omega, ?_⟩
    (repeat (first | exact aw _ _ _ | refine az rfl ?_ | refine au rfl ?_))
  ·rw [List.take_of_length_le (by omega)] at hall
   refine sr ?_
   refine aK (aa (ah (cF ?_)))
   refine aY ?_
   refine ay (ay (bm (ai (sr (aI (aa (ao ?_)))))))
   refine cx ?_
   exact ⟨_, rfl, ⟨fun h => absurd h (by decide), fun h => by rw [hall] at h; cases h⟩, hh.below⟩
theorem sB (A : Option Addr) (n c : Nat) (l : List NR) (g : FuncId) (cap : List Value) (p : NR → Bool) (w : World) (hS : Sl w A n 3 (br NR.cells l)) (hn : n ≤ 1000000) [av Tryz.prog g]
  (hg : ∀ (z : NR) (w1 : World), z ∈ l → Below w.heap.size w w1 → Calls Tryz.prog g (.agg #[.bool z.neg, .string z.bk, .int .i64 z.e] :: cap).toArray w1 fun r w' => r = .returned (.bool (p z)) ∧ Below w1.heap.size w1 w') :
  Calls Tryz.prog 115 #[.slice A n c, .func (.func g) #[] cap.toArray] w fun r w' => r = .returned (.bool (l.any p)) ∧ Below w.heap.size w w' := by
 have hh := Hp.start w
 refine aj (N := 9) (l := [.slice A n c, .func (.func g) #[] cap.toArray]) Tryz.func115 rfl rfl (by simp) ?_
 refine sr (aB (aa (sr (mL ?_))))
 refine gD (by first | exact gK rfl | exact gJ rfl) (by decide) ?_
 refine aU (rQ A n c l g cap p _ (hS.ext hh.below) hn hg) av.out rfl (by decide) ?_
 rintro e_ w7 ⟨v_, rfl, hv_, hb_⟩
 refine ⟨_, rfl, ?_⟩
 replace hh := hh.ext hb_
 cases ga : l.any p with
 | true =>
  have h0 := hv_.2 ga
  refine dn (aB (aa (ao ?_)))
  refine cx ?_
  exact ⟨rfl, hh.below⟩
 | false =>
  have h0 : ¬ 0 ≤ v_ := fun h => by rw [hv_.1 h] at ga; cases ga
  refine dn (aB (aa (ao ?_)))
  refine cx ?_
  exact ⟨rfl, hh.below⟩
end Go.Proofs.YtioilmppidlbnaaGreatDoor
/- Plain laws: forms that may be. No program in sight. -/
namespace Go.Proofs.YtioilmppidlbnaaGreatDoor
def fP : Int → List Int → Int
 | n, [] => n
 | n, d :: ds => if d < 0 ∨ 127 < d ∨ 4096 < n * (d + 1) then 0 else fP (n * (d + 1)) ds
def o4 : Int → List Int → Int
 | n, [] => n
 | n, d :: ds => o4 (min (n * (d + 1)) 4097) ds
def mg (ds : List Int) : Int := if ds.any (fun d => !dI d) then -1 else o4 1 ds
def me (a : NR) : Bool := !(((nR a.d).neg == a.neg && (nR a.d).bk == a.bk) && (nR a.d).e == a.e)
theorem iB {a : NR} : me a = false ↔ nR a.d = a := by
 unfold me
 rw [Bool.not_eq_false', lk]
def fE (ds : List Int) (cs : List NR) : Int :=
 if 12 < ds.length ∨ ds.any (fun d => !dI d) = true then 1 else if fP 1 ds = 0 then 3 else if (cs.length : Int) ≠ fP 1 ds then 1 else if cs.any me = true then 1 else 0
theorem lP {ds : List Int} (h : ds.any (fun d => !dI d) = false) : ∃ ns : List Nat, ds = bL ns ∧ ∀ n ∈ ns, n ≤ 127 := by
 refine ⟨ds.map Int.toNat, ?_, fun n hn => ?_⟩
 ·unfold bL
  rw [List.map_map]
  refine (List.map_id' ds).symm.trans (List.map_congr_left fun d hd => ?_)
  have := List.any_eq_false.1 h d hd
  simp [dI] at this
  show d = ((d.toNat : Nat) : Int)
  omega
 ·obtain ⟨d, hd, rfl⟩ := List.mem_map.1 hn
  have := List.any_eq_false.1 h d hd
  simp [dI] at this
  omega
theorem sP {ns : List Nat} (h : ∀ n ∈ ns, n ≤ 127) : (bL ns).any (fun d => !dI d) = false := by
 rw [List.any_eq_false]
 intro d hd
 obtain ⟨n, hn, rfl⟩ := List.mem_map.1 hd
 have := h n hn
 simp [dI]
 omega
theorem je : ∀ (ns : List Nat) (n : Nat), 1 ≤ n → n ≤ 4096 → (∀ d ∈ ns, d ≤ 127) → fP n (bL ns) = if n * aC ns ≤ 4096 then ((n * aC ns : Nat) : Int) else 0
 | [], n, _, h, _ => by show (n : Int) = _; rw [aC, Nat.mul_one, if_pos h]
 | d :: ns, n, h1, h2, h3 => by
  show (if (d : Int) < 0 ∨ 127 < (d : Int) ∨ 4096 < (n : Int) * ((d : Int) + 1) then 0 else fP ((n : Int) * ((d : Int) + 1)) (bL ns)) = _
  have hd := h3 d List.mem_cons_self
  have e1 : (n : Int) * ((d : Int) + 1) = ((n * (d + 1) : Nat) : Int) := by rw [Int.natCast_mul, Int.natCast_add]; rfl
  rw [e1]
  by_cases hg : n * (d + 1) ≤ 4096
  ·rw [if_neg (by omega), je ns (n * (d + 1)) (Nat.mul_pos h1 (by omega)) hg fun x hx => h3 x (List.mem_cons_of_mem _ hx), aC, Nat.mul_assoc]
  ·have h4 : n * (d + 1) * 1 ≤ n * (d + 1) * aC ns := Nat.mul_le_mul_left _ (dx ns)
   rw [if_pos (by omega), if_neg]
   rw [aC, ← Nat.mul_assoc]
   omega
theorem p9 : ∀ (ns : List Nat) (n : Nat), 1 ≤ n → n ≤ 4097 → o4 n (bL ns) = ((min (n * aC ns) 4097 : Nat) : Int)
 | [], n, _, h => by show (n : Int) = _; rw [aC, Nat.mul_one, Nat.min_eq_left h]
 | d :: ns, n, h1, h2 => by
  show o4 (min ((n : Int) * ((d : Int) + 1)) 4097) (bL ns) = _
  have e1 : min ((n : Int) * ((d : Int) + 1)) 4097 = ((min (n * (d + 1)) 4097 : Nat) : Int) := by
   have : (n : Int) * ((d : Int) + 1) = ((n * (d + 1) : Nat) : Int) := by rw [Int.natCast_mul, Int.natCast_add]; rfl
   rw [this]; omega
  have hp := Nat.mul_pos h1 (show 0 < d + 1 by omega)
  rw [e1, p9 ns _ (by omega) (by omega), aC, ← Nat.mul_assoc]
  by_cases hg : n * (d + 1) ≤ 4097
  ·rw [Nat.min_eq_left hg]
  ·have h4 : n * (d + 1) * 1 ≤ n * (d + 1) * aC ns := Nat.mul_le_mul_left _ (dx ns)
   have h5 : 4097 * 1 ≤ 4097 * aC ns := Nat.mul_le_mul_left _ (dx ns)
   rw [Nat.min_eq_right (by omega : 4097 ≤ n * (d + 1)), Nat.min_eq_right (by omega), Nat.min_eq_right (by omega)]
theorem tJ : ∀ (ds : List Int) (n : Int), 1 ≤ n → n ≤ 4096 → 0 ≤ fP n ds ∧ fP n ds ≤ 4096
 | [], n, _, h => by show 0 ≤ n ∧ n ≤ 4096; omega
 | d :: ds, n, h1, h2 => by
  rw [fP]
  split
  ·omega
  ·rename_i hg
   have : 1 * 1 ≤ n * (d + 1) := Int.mul_le_mul h1 (by omega) (by decide) (by omega)
   exact tJ ds _ (by omega) (by omega)
structure FV (ds : List Int) (cs : List NR) (ns : List Nat) (xs : List Dyadic) : Prop where
 BM : ds = bL ns
 num : cs = xs.map nR
 BH : ns.length ≤ 12
 low : ∀ n ∈ ns, n ≤ 127
 len : xs.length = aC ns
 max : aC ns ≤ 4096
theorem zU {ds : List Int} {cs : List NR} (h : fE ds cs = 0) : ∃ ns xs, FV ds cs ns xs ∧ xs = cs.map NR.d := by
 unfold fE at h
 split at h
 ·cases h
 rename_i h1
 split at h
 ·cases h
 rename_i h2
 split at h
 ·cases h
 rename_i h3
 split at h
 ·cases h
 rename_i h4
 have hb : ds.any (fun d => !dI d) = false := by
  cases hx : ds.any (fun d => !dI d) with
  | false => rfl
  | true => exact absurd (.inr hx) h1
 obtain ⟨ns, rfl, hl⟩ := lP hb
 have hc := je ns 1 (by decide) (by decide) hl
 rw [Nat.one_mul] at hc
 have hc1 : fP ((1 : Nat) : Int) (bL ns) = fP 1 (bL ns) := rfl
 rw [hc1] at hc
 have hmax : aC ns ≤ 4096 := by
  apply Classical.byContradiction
  intro hg
  rw [if_neg hg] at hc
  exact h2 hc
 rw [if_pos hmax] at hc
 have hlen : cs.length = aC ns := by
  have : (cs.length : Int) = fP 1 (bL ns) := Classical.not_not.1 h3
  rw [hc] at this
  omega
 refine ⟨ns, cs.map NR.d, ⟨rfl, ?_, (by have h2 : ¬ 12 < (bL ns).length := fun h => h1 (.inl h); rw [iw] at h2; omega), hl, by rw [List.length_map, hlen], hmax⟩, rfl⟩
 rw [List.map_map]
 refine (List.map_id' cs).symm.trans (List.map_congr_left fun a ha => ?_)
 have h5 : me a = false := by
  cases hx : me a with
  | false => rfl
  | true => exact absurd (List.any_eq_true.2 ⟨a, ha, hx⟩) h4
 exact (iB.1 h5).symm
theorem FV.ok {ds : List Int} {cs : List NR} {ns : List Nat} {xs : List Dyadic} (h : FV ds cs ns xs) : fE ds cs = 0 := by
 obtain ⟨rfl, rfl, h1, h2, h3, h4⟩ := h
 have hc := je ns 1 (by decide) (by decide) h2
 rw [Nat.one_mul, if_pos h4] at hc
 have hc1 : fP ((1 : Nat) : Int) (bL ns) = fP 1 (bL ns) := rfl
 rw [hc1] at hc
 have hp := dx ns
 unfold fE
 rw [if_neg, if_neg (by omega), if_neg (by rw [List.length_map]; omega), if_neg]
 ·rw [List.any_eq_true]
  rintro ⟨a, ha, hx⟩
  obtain ⟨x, _, rfl⟩ := List.mem_map.1 ha
  have : me (nR x) = false := iB.2 (by rw [dH])
  rw [this] at hx
  cases hx
 ·rw [iw, sP h2]
  rintro (h | h)
  ·omega
  ·cases h
end Go.Proofs.YtioilmppidlbnaaGreatDoor
/- The walks through package bern: what is wrong with a form; ways to choose. -/
namespace Go.Proofs.YtioilmppidlbnaaGreatDoor
open Go.RowKit
theorem td {α : Type} {l : List α} {k : Nat} {x : α} (h : l[k]? = some x) : l.drop k = x :: l.drop (k + 1) := by
 obtain ⟨h1, rfl⟩ := List.getElem?_eq_some_iff.1 h
 exact List.drop_eq_getElem_cons h1
theorem dM (A : Option Addr) (n c : Nat) (ds : List Int) (w : World) (hS : Sl w A n 1 (bP ds)) (hn : n ≤ 1000000) :
  Calls Tryz.prog 79 #[.slice A n c] w fun r w' => r = .returned (.int .i64 (fP 1 ds)) ∧ Below w.heap.size w w' := by
 have hh := Hp.start w
 have hln : ds.length = n := by have := hS.1; simpa [bP] using this
 refine aj (N := 31) (l := [.slice A n c]) Tryz.func79 rfl rfl (by simp) ?_
 refine sr (aI (aa (sr (aI (aa (ah (sr (mL (a7 (mI (aa ?_)))))))))))
 refine al ?_
 refine bY [2, 3, 5, 8, 9, 10, 11, 12, 13, 14, 15, 16, 17, 18, 19, 20, 21, 22, 23, 24, 25, 26, 27, 28, 29] 3 8
  (fun v3 v w' => ∃ (i : Nat) (q : Int), i ≤ n ∧ v = .int .i64 i ∧ v3 = .int .i64 q ∧ 1 ≤ q ∧ q ≤ 4096 ∧ fP 1 ds = fP q (ds.drop i) ∧ Hp w [] w')
  (fun _ v _ => n - (intOf v).toNat) ?_ ?_
 ·exact ⟨0, 1, Nat.zero_le _, rfl, rfl, by omega, by omega, rfl, hh⟩
 ·clear hh
  rintro ρ' v3 v w' ⟨i, q, hi, rfl, rfl, hq1, hq2, hc, hh⟩
  by_cases hlt : i < n
  ·obtain ⟨d, hd⟩ := aO (l := ds) (k := i) (by omega)
   have hgi := cg hd
   obtain ⟨ad, rfl, hr⟩ := hS.at_ (by omega)
   rw [td hd, fP] at hc
   by_cases h1 : d < 0
   ·rw [if_pos (.inl h1)] at hc
    refine sr ?_
    refine aK (aa (ah (cT (ak (ai (ah (al (sr ?_))))))))
    refine aX (k := i) aN.out aA.size rfl rfl (by omega) (by omega) (by decide) ?_
    refine aV aA.out rfl ((hr.ext hh.below).fJ hgi) (by decide) ?_
    refine aI (aa (ah (sr (mI ?_))))
    refine aK (mB ?_)
    first | refine gS ?_ | (refine gT ?_; refine mI ?_) | refine gV ?_
    first | refine gS ?_ | (refine gT ?_; refine bO ?_) | refine gV ?_
    first | refine db ?_ | refine de ?_
    refine mB ?_
    first | refine gS ?_ | (refine gT ?_; refine mI ?_) | refine gV ?_
    first | refine gS ?_ | (refine gT ?_; refine mI ?_) | refine gV ?_
    first | refine gS ?_ | (refine gT ?_; refine bz ?_) | refine gV ?_
    first | refine gS ?_ | (refine gT ?_; refine mulC ?_) | refine gV ?_
    first | refine gS ?_ | (refine gT ?_; refine bO ?_) | refine gV ?_
    first | refine db ?_ | refine de ?_
    refine aa (cT (sr (aI (aa (ao (aQ (bZ (aQ (aQ (bZ (aQ ?_)))))))))))
    refine cx ?_
    exact ⟨by rw [hc], hh.below⟩
   ·by_cases h2 : 127 < d
    ·rw [if_pos (.inr (.inl h2))] at hc
     refine sr ?_
     refine aK (aa (ah (cT (ak (ai (ah (al (sr ?_))))))))
     refine aX (k := i) aN.out aA.size rfl rfl (by omega) (by omega) (by decide) ?_
     refine aV aA.out rfl ((hr.ext hh.below).fJ hgi) (by decide) ?_
     refine aI (aa (ah (sr (mI ?_))))
     refine aK (mB ?_)
     first | refine gS ?_ | (refine gT ?_; refine mI ?_) | refine gV ?_
     first | refine gS ?_ | (refine gT ?_; refine bO ?_) | refine gV ?_
     first | refine db ?_ | refine de ?_
     refine mB ?_
     first | refine gS ?_ | (refine gT ?_; refine mI ?_) | refine gV ?_
     first | refine gS ?_ | (refine gT ?_; refine mI ?_) | refine gV ?_
     first | refine gS ?_ | (refine gT ?_; refine bz ?_) | refine gV ?_
     first | refine gS ?_ | (refine gT ?_; refine mulC ?_) | refine gV ?_
     first | refine gS ?_ | (refine gT ?_; refine bO ?_) | refine gV ?_
     first | refine db ?_ | refine de ?_
     refine aa (cT (sr (aI (aa (ao (aQ (bZ (aQ (aQ (bZ (aQ ?_)))))))))))
     refine cx ?_
     exact ⟨by rw [hc], hh.below⟩
    ·have hm1 : 1 * 1 ≤ q * (d + 1) := Int.mul_le_mul hq1 (by omega) (by decide) (by omega)
     have hm2 : q * (d + 1) ≤ 4096 * 128 := Int.mul_le_mul hq2 (by omega) (by omega) (by decide)
     by_cases h3 : 4096 < q * (d + 1)
     ·rw [if_pos (.inr (.inr h3))] at hc
      refine sr ?_
      refine aK (aa (ah (cT (ak (ai (ah (al (sr ?_))))))))
      refine aX (k := i) aN.out aA.size rfl rfl (by omega) (by omega) (by decide) ?_
      refine aV aA.out rfl ((hr.ext hh.below).fJ hgi) (by decide) ?_
      refine aI (aa (ah (sr (mI ?_))))
      refine aK (mB ?_)
      first | refine gS ?_ | (refine gT ?_; refine mI ?_) | refine gV ?_
      first | refine gS ?_ | (refine gT ?_; refine bO ?_) | refine gV ?_
      first | refine db ?_ | refine de ?_
      refine mB ?_
      first | refine gS ?_ | (refine gT ?_; refine mI ?_) | refine gV ?_
      first | refine gS ?_ | (refine gT ?_; refine mI ?_) | refine gV ?_
      first | refine gS ?_ | (refine gT ?_; refine bz ?_) | refine gV ?_
      first | refine gS ?_ | (refine gT ?_; refine mulC ?_) | refine gV ?_
      first | refine gS ?_ | (refine gT ?_; refine bO ?_) | refine gV ?_
      first | refine db ?_ | refine de ?_
      refine aa (cT (sr (aI (aa (ao (aQ (bZ (aQ (aQ (bZ (aQ ?_)))))))))))
      refine cx ?_
      exact ⟨by rw [hc], hh.below⟩
     ·rw [if_neg (by omega)] at hc
      refine sr ?_
      refine aK (aa (ah (cT (ak (ai (ah (al (sr ?_))))))))
      refine aX (k := i) aN.out aA.size rfl rfl (by omega) (by omega) (by decide) ?_
      refine aV aA.out rfl ((hr.ext hh.below).fJ hgi) (by decide) ?_
      refine aI (aa (ah (sr (mI ?_))))
      refine aK (mB ?_)
      first | refine gS ?_ | (refine gT ?_; refine mI ?_) | refine gV ?_
      first | refine gS ?_ | (refine gT ?_; refine bO ?_) | refine gV ?_
      first | refine db ?_ | refine de ?_
      refine mB ?_
      first | refine gS ?_ | (refine gT ?_; refine mI ?_) | refine gV ?_
      first | refine gS ?_ | (refine gT ?_; refine mI ?_) | refine gV ?_
      first | refine gS ?_ | (refine gT ?_; refine bz ?_) | refine gV ?_
      first | refine gS ?_ | (refine gT ?_; refine mulC ?_) | refine gV ?_
      first | refine gS ?_ | (refine gT ?_; refine bO ?_) | refine gV ?_
      first | refine db ?_ | refine de ?_
      refine aa (cF (ak (ai (aq (mI (mI ?_))))))
      refine bz ?_
      refine mulC (aI (aD (a0 (ai (aq ?_)))))
      refine bz (mI (aD (ai ?_)))
      refine ⟨⟨i + 1, _, by omega, rfl, rfl, by omega, by omega, hc, hh⟩, by show n - (i + 1) < n - i; omega, ?_⟩
      (repeat (first | exact aw _ _ _ | refine az rfl ?_ | refine au rfl ?_))
  ·rw [List.drop_of_length_le (by omega)] at hc
   refine sr ?_
   refine aK (aa (ah (cF ?_)))
   refine aY ?_
   refine ay (ay (bm (ai (sr (mI (aI (aa (ao ?_))))))))
   refine cx ?_
   exact ⟨by rw [hc]; rfl, hh.below⟩
theorem ry (d : Int) (w : World) :
  Calls Tryz.prog 114 #[.int .i64 d] w fun r w' => r = .returned (.bool (!dI d)) ∧ Below w.heap.size w w' := by
 have hh := Hp.start w
 by_cases h1 : d < 0
 ·refine aj (N := 9) (l := [.int .i64 d]) Tryz.func114 rfl rfl (by simp) ?_
  refine sr (aB (aa (sr (mI ?_))))
  refine aK (mB ?_)
  first | refine gS ?_ | (refine gT ?_; refine mI ?_) | refine gV ?_
  first | refine gS ?_ | (refine gT ?_; refine bO ?_) | refine gV ?_
  first | refine db ?_ | refine de ?_
  refine aB (aa (ao ?_))
  refine cx ?_
  refine ⟨?_, hh.below⟩
  unfold dI
  rw [decide_eq_false (show ¬ 0 ≤ d by omega)]
  rfl
 ·by_cases h2 : 127 < d
  ·refine aj (N := 9) (l := [.int .i64 d]) Tryz.func114 rfl rfl (by simp) ?_
   refine sr (aB (aa (sr (mI ?_))))
   refine aK (mB ?_)
   first | refine gS ?_ | (refine gT ?_; refine mI ?_) | refine gV ?_
   first | refine gS ?_ | (refine gT ?_; refine bO ?_) | refine gV ?_
   first | refine db ?_ | refine de ?_
   refine aB (aa (ao ?_))
   refine cx ?_
   refine ⟨?_, hh.below⟩
   unfold dI
   rw [decide_eq_false (show ¬ d ≤ 127 by omega), Bool.and_false]
   rfl
  ·refine aj (N := 9) (l := [.int .i64 d]) Tryz.func114 rfl rfl (by simp) ?_
   refine sr (aB (aa (sr (mI ?_))))
   refine aK (mB ?_)
   first | refine gS ?_ | (refine gT ?_; refine mI ?_) | refine gV ?_
   first | refine gS ?_ | (refine gT ?_; refine bO ?_) | refine gV ?_
   first | refine db ?_ | refine de ?_
   refine aB (aa (ao ?_))
   refine cx ?_
   refine ⟨?_, hh.below⟩
   unfold dI
   rw [decide_eq_true (show 0 ≤ d by omega), decide_eq_true (show d ≤ 127 by omega)]
   rfl
theorem rI (a : NR) (w : World) (hT : fK w) (ha : a.ok) :
  Calls Tryz.prog 116 #[.agg #[.bool a.neg, .string a.bk, .int .i64 a.e]] w fun r w' => r = .returned (.bool (me a)) ∧ Below w.heap.size w w' := by
 have hh := Hp.start w
 have hf := fun w1 hT1 => eh a w1 hT1 (by have := ha.1; omega) (by have := ha.2; omega) (by have := ha.2; omega)
 cases hx : me a with
 | false =>
  have he := iB.1 hx
  refine aj (N := 7) (l := [.agg #[.bool a.neg, .string a.bk, .int .i64 a.e]]) Tryz.func116 rfl rfl (by simp) ?_
  refine sr ?_
  refine cw hh [_,_,_] ?_
  intro b1 w1 hh
  refine aB (aa (ah ?_))
  refine aE 3 [[(1, none)], [(3, some 0)], [(1, none)]] [(2, 5), (1, 4), (0, 3)] hh mixed (by kernel_rfl) ?_
  refine dV 0 [_,_,_] ?_
  refine dC (fun _ hj => hf _ (hT.hp hj.hp)) ?_
  refine dV 0 [_,_,_] ?_
  refine aW ?_
  intro f W hJ hV
  have hb_1 := hJ.bl
  obtain ⟨v5, v4, v3, _⟩ := hV
  replace hh := hJ.hp
  refine aJ (aZ (ae v5 (ae v4 (ae v3 aH)))) ?_
  dsimp only [bQ]
  clear hJ
  first | refine lq rfl rfl (by first | assumption | rfl) (by decide) ?_ | refine kK rfl rfl (by assumption) (by decide) ?_
  refine aB (aa (ao ?_))
  refine cx ?_
  exact ⟨rfl, hh.below⟩
 | true =>
  have he : ¬ nR a.d = a := fun h => by rw [iB.2 h] at hx; cases hx
  refine aj (N := 7) (l := [.agg #[.bool a.neg, .string a.bk, .int .i64 a.e]]) Tryz.func116 rfl rfl (by simp) ?_
  refine sr ?_
  refine cw hh [_,_,_] ?_
  intro b1 w1 hh
  refine aB (aa (ah ?_))
  refine aE 3 [[(1, none)], [(3, some 0)], [(1, none)]] [(2, 5), (1, 4), (0, 3)] hh mixed (by kernel_rfl) ?_
  refine dV 0 [_,_,_] ?_
  refine dC (fun _ hj => hf _ (hT.hp hj.hp)) ?_
  refine dV 0 [_,_,_] ?_
  refine aW ?_
  intro f W hJ hV
  have hb_1 := hJ.bl
  obtain ⟨v5, v4, v3, _⟩ := hV
  replace hh := hJ.hp
  refine aJ (aZ (ae v5 (ae v4 (ae v3 aH)))) ?_
  dsimp only [bQ]
  clear hJ
  first | refine lq rfl rfl (by first | assumption | rfl) (by decide) ?_ | refine kK rfl rfl (by assumption) (by decide) ?_
  refine aB (aa (ao ?_))
  refine cx ?_
  exact ⟨rfl, hh.below⟩
theorem n6 (A B : Option Addr) (n c m c2 : Nat) (ds : List Int) (cs : List NR) (w : World) (hT : fK w) (hS : Sl w A n 1 (bP ds)) (hS2 : Sl w B m 3 (br NR.cells cs)) (hn : n ≤ 1000000) (hm : m ≤ 1000000) (hc : ∀ a ∈ cs, a.ok) :
  Calls Tryz.prog 64 #[.agg #[.slice A n c, .slice B m c2]] w fun r w' => r = .returned (.int .i64 (fE ds cs)) ∧ Below w.heap.size w w' := by
 have hh := Hp.start w
 have hln : ds.length = n := by have := hS.1; simpa [bP] using this
 have hlm := hS2.eI NR.len (by decide)
 have h1 := fun w1 hS1 => m0 A n c ds 114 [] (fun d => !dI d) w1 hS1 hn (fun z w2 _ hb => ry z w2)
 have h2 := fun w1 (hT1 : fK w1) hS1 => sB B m c2 cs 116 [] me w1 hS1 hm (fun z w2 hz hb => rI z w2 (hT1.ext hb) (hc z hz))
 have h3 := tJ ds 1 (by omega) (by omega)
 unfold fE
 by_cases g1 : 12 < n
 ·refine aj (N := 29) (l := [.agg #[.slice A n c, .slice B m c2]]) Tryz.func64 rfl rfl (by simp) ?_
  refine sr ?_
  refine cw hh [_,_] ?_
  intro b1 w1 hh
  refine aI (aa (ah (al (sr (bG ?_)))))
  refine bI hh 0 ?_
  refine a7 ?_
  refine bO (mB ?_)
  first | refine gS ?_ | (refine gT ?_; refine bG ?_) | refine gV ?_
  first | refine gS ?_ | (refine gT ?_; refine bI hh 0 ?_) | refine gV ?_
  refine cG (by decide) rfl rfl (by decide) ?_
  first | refine db ?_ | refine de ?_
  refine aB (aa (cT (sr (aI (aa (ao (bZ (aQ ?_))))))))
  refine cx ?_
  exact ⟨by rw [if_pos (.inl (by omega))], hh.below⟩
 ·cases g2 : ds.any (fun d => !dI d) with
  | true =>
   refine aj (N := 29) (l := [.agg #[.slice A n c, .slice B m c2]]) Tryz.func64 rfl rfl (by simp) ?_
   refine sr ?_
   refine cw hh [_,_] ?_
   intro b1 w1 hh
   refine aI (aa (ah (al (sr (bG ?_)))))
   refine bI hh 0 ?_
   refine a7 ?_
   refine bO (mB ?_)
   first | refine gS ?_ | (refine gT ?_; refine bG ?_) | refine gV ?_
   first | refine gS ?_ | (refine gT ?_; refine bI hh 0 ?_) | refine gV ?_
   refine bp rfl rfl ?_
   refine bB hh (h1 _ (hS.ext hh.below)) rfl ?_
   intro w11 hh
   rw [g2]
   first | refine db ?_ | refine de ?_
   refine aB (aa (cT (sr (aI (aa (ao (bZ (aQ ?_))))))))
   refine cx ?_
   exact ⟨by rw [if_pos (.inr rfl)], hh.below⟩
  | false =>
   rw [if_neg (fun h => h.elim (fun h => by omega) (fun h => by cases h))]
   by_cases g3 : fP 1 ds = 0
   ·refine aj (N := 29) (l := [.agg #[.slice A n c, .slice B m c2]]) Tryz.func64 rfl rfl (by simp) ?_
    refine sr ?_
    refine cw hh [_,_] ?_
    intro b1 w1 hh
    refine aI (aa (ah (al (sr (bG ?_)))))
    refine bI hh 0 ?_
    refine a7 ?_
    refine bO (mB ?_)
    first | refine gS ?_ | (refine gT ?_; refine bG ?_) | refine gV ?_
    first | refine gS ?_ | (refine gT ?_; refine bI hh 0 ?_) | refine gV ?_
    refine bp rfl rfl ?_
    refine bB hh (h1 _ (hS.ext hh.below)) rfl ?_
    intro w11 hh
    rw [g2]
    first | refine db ?_ | refine de ?_
    refine aB (aa (cF (sr (bG ?_))))
    refine bI hh 0 ?_
    refine bB hh (dM A n c ds _ (hS.ext hh.below) hn) rfl ?_
    intro w16 hh
    refine cV (aB (aa (cT (sr (aI (aa (ao (bZ (aQ ?_)))))))))
    refine cx ?_
    exact ⟨by rw [if_pos g3], hh.below⟩
   ·rw [if_neg g3]
    by_cases g4 : (m : Int) = fP 1 ds
    ·rw [if_neg (show ¬ (cs.length : Int) ≠ fP 1 ds by omega)]
     cases g5 : cs.any me with
     | true =>
      refine aj (N := 29) (l := [.agg #[.slice A n c, .slice B m c2]]) Tryz.func64 rfl rfl (by simp) ?_
      refine sr ?_
      refine cw hh [_,_] ?_
      intro b1 w1 hh
      refine aI (aa (ah (al (sr (bG ?_)))))
      refine bI hh 0 ?_
      refine a7 ?_
      refine bO (mB ?_)
      first | refine gS ?_ | (refine gT ?_; refine bG ?_) | refine gV ?_
      first | refine gS ?_ | (refine gT ?_; refine bI hh 0 ?_) | refine gV ?_
      refine bp rfl rfl ?_
      refine bB hh (h1 _ (hS.ext hh.below)) rfl ?_
      intro w11 hh
      rw [g2]
      first | refine db ?_ | refine de ?_
      refine aB (aa (cF (sr (bG ?_))))
      refine bI hh 0 ?_
      refine bB hh (dM A n c ds _ (hS.ext hh.below) hn) rfl ?_
      intro w16 hh
      refine cV (aB (aa (cF (ah ?_))))
      refine aE 6 [[(1, none)], [(19, some 0)], [(20, some 1)], [(1, none)], [(22, some 3)], [(23, some 4)]] [(5, 24), (4, 23), (3, 22), (2, 21), (1, 20), (0, 19)] hh mixed (by kernel_rfl) ?_
      refine dT ?_
      refine eY 0 ?_
      refine qa ?_
      refine dT ?_
      refine eY 0 ?_
      refine dC (fun _ hj => dM A n c ds _ (hS.ext hj.hp.below) hn) ?_
      refine aW ?_
      intro f W hJ hV
      have hb_5 := hJ.bl
      obtain ⟨v24, v23, v22, v21, v20, v19, _⟩ := hV
      replace hh := hJ.hp
      refine aJ (aZ (ae v24 (ae v23 (ae v22 (ae v21 (ae v20 (ae v19 aH))))))) ?_
      dsimp only [bQ]
      clear hJ
      refine gA (aB (aa (cF (ak (a0 (ai (ah (sr (bG ?_)))))))))
      refine bI hh 0 ?_
      refine bB hh (h2 _ (hT.hp hh) (hS2.ext hh.below)) rfl ?_
      intro w28 hh
      rw [g5]
      refine aa (cT (sr (aI (aa (ao (aQ ?_))))))
      refine cx ?_
      exact ⟨by rw [if_pos rfl], hh.below⟩
     | false =>
      refine aj (N := 29) (l := [.agg #[.slice A n c, .slice B m c2]]) Tryz.func64 rfl rfl (by simp) ?_
      refine sr ?_
      refine cw hh [_,_] ?_
      intro b1 w1 hh
      refine aI (aa (ah (al (sr (bG ?_)))))
      refine bI hh 0 ?_
      refine a7 ?_
      refine bO (mB ?_)
      first | refine gS ?_ | (refine gT ?_; refine bG ?_) | refine gV ?_
      first | refine gS ?_ | (refine gT ?_; refine bI hh 0 ?_) | refine gV ?_
      refine bp rfl rfl ?_
      refine bB hh (h1 _ (hS.ext hh.below)) rfl ?_
      intro w11 hh
      rw [g2]
      first | refine db ?_ | refine de ?_
      refine aB (aa (cF (sr (bG ?_))))
      refine bI hh 0 ?_
      refine bB hh (dM A n c ds _ (hS.ext hh.below) hn) rfl ?_
      intro w16 hh
      refine cV (aB (aa (cF (ah ?_))))
      refine aE 6 [[(1, none)], [(19, some 0)], [(20, some 1)], [(1, none)], [(22, some 3)], [(23, some 4)]] [(5, 24), (4, 23), (3, 22), (2, 21), (1, 20), (0, 19)] hh mixed (by kernel_rfl) ?_
      refine dT ?_
      refine eY 0 ?_
      refine qa ?_
      refine dT ?_
      refine eY 0 ?_
      refine dC (fun _ hj => dM A n c ds _ (hS.ext hj.hp.below) hn) ?_
      refine aW ?_
      intro f W hJ hV
      have hb_5 := hJ.bl
      obtain ⟨v24, v23, v22, v21, v20, v19, _⟩ := hV
      replace hh := hJ.hp
      refine aJ (aZ (ae v24 (ae v23 (ae v22 (ae v21 (ae v20 (ae v19 aH))))))) ?_
      dsimp only [bQ]
      clear hJ
      refine gA (aB (aa (cF (ak (a0 (ai (ah (sr (bG ?_)))))))))
      refine bI hh 0 ?_
      refine bB hh (h2 _ (hT.hp hh) (hS2.ext hh.below)) rfl ?_
      intro w28 hh
      rw [g5]
      refine aa (cF (ak (ai (sr (aI (aa (ao ?_)))))))
      refine cx ?_
      exact ⟨by rw [if_neg (by decide)], hh.below⟩
    ·rw [if_pos (show (cs.length : Int) ≠ fP 1 ds by omega)]
     refine aj (N := 29) (l := [.agg #[.slice A n c, .slice B m c2]]) Tryz.func64 rfl rfl (by simp) ?_
     refine sr ?_
     refine cw hh [_,_] ?_
     intro b1 w1 hh
     refine aI (aa (ah (al (sr (bG ?_)))))
     refine bI hh 0 ?_
     refine a7 ?_
     refine bO (mB ?_)
     first | refine gS ?_ | (refine gT ?_; refine bG ?_) | refine gV ?_
     first | refine gS ?_ | (refine gT ?_; refine bI hh 0 ?_) | refine gV ?_
     refine bp rfl rfl ?_
     refine bB hh (h1 _ (hS.ext hh.below)) rfl ?_
     intro w11 hh
     rw [g2]
     first | refine db ?_ | refine de ?_
     refine aB (aa (cF (sr (bG ?_))))
     refine bI hh 0 ?_
     refine bB hh (dM A n c ds _ (hS.ext hh.below) hn) rfl ?_
     intro w16 hh
     refine cV (aB (aa (cF (ah ?_))))
     refine aE 6 [[(1, none)], [(19, some 0)], [(20, some 1)], [(1, none)], [(22, some 3)], [(23, some 4)]] [(5, 24), (4, 23), (3, 22), (2, 21), (1, 20), (0, 19)] hh mixed (by kernel_rfl) ?_
     refine dT ?_
     refine eY 0 ?_
     refine qa ?_
     refine dT ?_
     refine eY 0 ?_
     refine dC (fun _ hj => dM A n c ds _ (hS.ext hj.hp.below) hn) ?_
     refine aW ?_
     intro f W hJ hV
     have hb_5 := hJ.bl
     obtain ⟨v24, v23, v22, v21, v20, v19, _⟩ := hV
     replace hh := hJ.hp
     refine aJ (aZ (ae v24 (ae v23 (ae v22 (ae v21 (ae v20 (ae v19 aH))))))) ?_
     dsimp only [bQ]
     clear hJ
     refine gA (aB (aa (cT (sr (aI (aa (ao (bZ (aQ ?_)))))))))
     refine cx ?_
     exact ⟨rfl, hh.below⟩
end Go.Proofs.YtioilmppidlbnaaGreatDoor
/- Plain laws: forms of greater degrees. No program in sight. -/
namespace Go.Proofs.YtioilmppidlbnaaGreatDoor
def okB : List Nat → List Nat → Bool
 | [], [] => true
 | d :: ds, r :: rs => decide (r ≤ d) && okB ds rs
 | _, _ => false
theorem tx : ∀ (ds rs : List Nat), okB ds rs = true ↔ rn ds rs
 | [], [] => by simp [okB, rn]
 | [], _ :: _ => by simp [okB, rn]
 | _ :: _, [] => by simp [okB, rn]
 | d :: ds, r :: rs => by rw [okB, rn, Bool.and_eq_true, decide_eq_true_eq, tx ds rs]
def co (ds : List Nat) (xs : List Dyadic) (row : List Nat) : Dyadic := if okB ds row then (xs[ij ds row]?).getD 0 else 0
theorem yj {ds : List Nat} {xs : List Dyadic} {row : List Nat} (h : rn ds row) : co ds xs row = (xs[ij ds row]?).getD 0 := by
 unfold co; rw [if_pos ((tx _ _).2 h)]
theorem yU {ds : List Nat} {xs : List Dyadic} {p : Nat} (h : p < aC ds) : co ds xs (dp ds p) = (xs[p]?).getD 0 := by
 rw [yj (pL ds p), q7 h]
def sM : List Nat → List Nat → List Nat
 | a :: l, b :: m => (a + b) :: sM l m
 | _, _ => []
def AH : (List Nat → Dyadic) → List Nat → List Nat → Dyadic
 | F, r :: rs, j :: js => if j ≤ r then AH (fun t => F ((r - j) :: t)) rs js else 0
 | F, [], [] => F []
 | _, _, _ => 0
def Aq : List Nat → List Nat → Nat
 | m :: ms, j :: js => bin m j * Aq ms js
 | _, _ => 1
def Ba : List Nat → (List Nat → Dyadic) → List Nat → Dyadic
 | m :: ms, F, r :: rs => sm (List.range (m + 1)) fun j => if j ≤ r then nD (bin m j) * Ba ms (fun t => F ((r - j) :: t)) rs else 0
 | _, F, row => F row
def Bi (ds es : List Nat) (xs ys : List Dyadic) : List (Nat × Dyadic) :=
 (List.range (aC es)).flatMap fun k => (List.range (aC ds)).map fun i => (ij (sM ds es) (sM (dp ds i) (dp es k)), (xs[i]?).getD 0 * (ys[k]?).getD 0)
theorem vJ (n : Nat) (f : Nat → Dyadic) : sm (List.range (n + 1)) f = f 0 + sm (List.range n) fun j => f (j + 1) := by
 induction n with
 | zero => simp only [List.range_succ, List.range_zero, List.nil_append, sm]
 | succ n ih => rw [List.range_succ, kW, ih, List.range_succ (n := n), kW]; grind
def AF (row : List Nat) (a : Nat) : List Nat := row.set a (row.getD a 0 - 1)
end Go.Proofs.YtioilmppidlbnaaGreatDoor
/- The walks through package bern: ways to choose, weights. -/
namespace Go.Proofs.YtioilmppidlbnaaGreatDoor
open Go.RowKit
def kd (n : Nat) : List NR := (jc n).map fun k => nR (nD k)
theorem wy (n : Nat) : (kd n).length = n + 1 := by simp [kd, m9]
theorem jV {n k : Nat} (h : k ≤ n) : (kd n)[k]? = some (nR (nD (bin n k))) := by
 unfold kd
 rw [List.getElem?_map, ml h]
 rfl
theorem lJ (n k : Nat) (h : n ≤ 127) : Sz 128 (nD (bin n k)) := wo (Nat.lt_of_le_of_lt (nU n k) (Nat.pow_lt_pow_right (by decide) (by omega)))
theorem oe (n : Nat) (w : World) (hT : fK w) (hn : n ≤ 127) :
  Calls Tryz.prog 118 #[.int .i64 n] w fun r w' => ∃ A c', r = .returned (.slice A (n + 1) c') ∧ w'.ownsRow w.heap.size 39 3 (.slice A (n + 1) c') (n + 1) (br NR.cells (kd n)) ∧ Below w.heap.size w w' := by
 have hh := Hp.start w
 refine aj (N := 39) (l := [.int .i64 n]) Tryz.func118 rfl rfl (by simp) ?_
 refine sr (aL (aa (sr ?_)))
 refine bB hh (fB 1 _ (hT.hp hh) (by omega) (by omega)) rfl ?_
 intro w6 hh
 refine bo hh (cs := [_, _, _]) aN.out aA.out (a6 (ed rfl) bR) rfl rfl (by decide) (by decide) (by decide) rfl (by decide) ?_
 intro b7 w7 hh
 refine aL (aa (ah (sr (mI (mI (aa (al ?_)))))))
 refine bY [3, 4, 5, 9, 10, 11, 12, 13, 14, 15, 16, 17, 18, 19, 20, 21, 22, 23, 24, 25, 26, 27, 28, 29, 30, 31, 32, 33, 34, 35, 36, 37] 3 9
  (fun v3 v w' => ∃ (i c3 : Nat) (A : Option Addr), i ≤ n ∧ v = .int .i64 i ∧ v3 = .slice A (i + 1) c3 ∧ Hp w [.row A (i + 1) c3 39 3 (br NR.cells (kd i))] w')
  (fun _ v _ => n - (intOf v).toNat) ?_ ?_
 ·exact ⟨0, _, _, Nat.zero_le _, rfl, rfl, hh⟩
 ·clear hh
  rintro ρ' v3 v w' ⟨i, c3, A, hi, rfl, rfl, hh⟩
  by_cases hlt : i < n
  ·refine sr ?_
   refine aK (aa (ah (cT (ak (ai (ah (al (sr ?_))))))))
   refine bB hh (fB 1 _ (hT.hp hh) (by omega) (by omega)) rfl ?_
   intro w11 hh
   refine bo hh (cs := [_, _, _]) aN.out aA.out (a6 (ed rfl) bR) rfl rfl (by decide) (by decide) (by decide) rfl (by decide) ?_
   intro b12 w12 hh
   refine aL (aa (ah (sr (aI (aa (al ?_))))))
   refine bY [4, 5, 13, 14, 15, 16, 17, 18, 19, 20, 21, 22, 23, 24, 25, 26, 27, 28, 29, 30, 31, 32] 4 5
    (fun v4 v w' => ∃ (k c4 : Nat) (B : Option Addr), k ≤ i ∧ v = .int .i64 ((k + 1 : Nat) : Int) ∧ v4 = .slice B (k + 1) c4 ∧ Hp w [.row B (k + 1) c4 39 3 (br NR.cells ((kd (i + 1)).take (k + 1))), .row A (i + 1) c3 39 3 (br NR.cells (kd i))] w')
    (fun _ v _ => i + 1 - (intOf v).toNat) ?_ ?_
   ·refine ⟨0, _, _, Nat.zero_le _, rfl, rfl, ?_⟩
    rw [show (kd (i + 1)).take (0 + 1) = [nR (nD 1)] by rw [a9 (jV (Nat.zero_le _)), nW]; rfl]
    exact hh
   ·clear hh
    rintro ρ2 v4 v w2 ⟨k, c4, B, hk, rfl, rfl, hh⟩
    by_cases hlk : k < i
    ·have e1 := jV (n := i) (k := k) (by omega)
     have e2 := jV (n := i) (k := k + 1) (by omega)
     have e3 := jV (n := i + 1) (k := k + 1) (by omega)
     have z1 := lJ i k (by omega)
     have z2 := lJ i (k + 1) (by omega)
     have hadd := fun A cc w1 hT1 hS1 => kp A 2 cc [nR (nD (bin i k)), nR (nD (bin i (k + 1)))] w1 hT1 hS1 (by simpa using ⟨z1.ok (by omega), z2.ok (by omega)⟩) 128 (by simpa [dH] using ⟨z1, z2⟩) (by omega)
     rw [show kU ([nR (nD (bin i k)), nR (nD (bin i (k + 1)))].map NR.d) = nD (bin (i + 1) (k + 1)) by simp only [List.map_cons, List.map_nil, dH, nn, bin, pY]] at hadd
     obtain ⟨go, rfl⟩ := hh.ea (i := 1) rfl (by omega)
     refine ah (sr (mI (mL (a7 ?_))))
     refine aK (aa (cT (ak (ai (ah (al ?_))))))
     refine aE 13 [[(4, none)], [(3, none)], [(5, none)], [(21, some 2)], [(20, some 1), (22, some 3)], [(23, some 4)], [(3, none)], [(5, none)], [(25, some 6), (26, some 7)], [(27, some 8)], [(24, some 5), (28, some 9)], [(29, some 10)], [(30, some 11)]] [(12, 31), (11, 30), (10, 29), (9, 28), (8, 27), (7, 26), (6, 25), (5, 24), (4, 23), (3, 22), (2, 21), (1, 20), (0, 19)] hh mixed (by kernel_rfl) ?_
     refine g6 ?_
     refine g6 ?_
     refine dk ?_
     refine kg ?_
     refine wJ (k) ?_
     refine uW [_,_,_] (fun _ hj => hj.hp.ie (f := NR.cells) (x := nR (nD (bin i k))) (l := kd i) (i := 1) rfl NR.len (by decide) e1) ?_
     refine g6 ?_
     refine dk ?_
     refine wJ ((k + 1)) ?_
     refine uW [_,_,_] (fun _ hj => hj.hp.ie (f := NR.cells) (x := nR (nD (bin i (k + 1)))) (l := kd i) (i := 1) rfl NR.len (by decide) e2) ?_
     refine uT [_,_,_,_,_,_] ?_
     refine bC (i := 11) (Is (.agg #[.bool (nR (nD (bin (i + 1) (k + 1)))).neg, .string (nR (nD (bin (i + 1) (k + 1)))).bk, .int .i64 (nR (nD (bin (i + 1) (k + 1)))).e])) Is.ext ?_ ?_
     ·intro ρ1 w1 hj hR
      obtain ⟨A29, c29, h29, s29⟩ := hR.1
      exact bV rfl (bJ av.out (aM h29 bE)) (hadd A29 c29 _ (hT.hp hj.hp) s29) (fun _ _ hq => ⟨_, hq.1, hq.2, rfl⟩)
     refine uT [_,_,_] ?_
     refine aW ?_
     intro f W hJ hV
     have hb_8 := hJ.bl
     obtain ⟨v31, v30, v29, v28, v27, v26, v25, v24, v23, v22, v21, v20, v19, _⟩ := hV
     obtain ⟨A29, c29, e29, f29⟩ : Rows _ _ _ (f 10) W := v29
     obtain ⟨A31, c31, e31, f31⟩ : Rows _ _ _ (f 12) W := v31
     replace hh := hJ.hp
     refine aJ (aZ (ae e31 (ae v30 (ae e29 (ae v28 (ae v27 (ae v26 (ae v25 (ae v24 (ae v23 (ae v22 (ae v21 (ae v20 (ae v19 aH)))))))))))))) ?_
     dsimp only [bQ]
     clear e29 e31 hJ
     refine df hh (i := 0) rfl rfl rfl (f31) aN.out aA.out rfl (by decide) (by first | rfl | exact dr _ | exact cH _ | exact bW _ | exact cz NR.one _) (by omega) (by omega) (by decide) ?_
     intro A32 c32 w32 hh
     simp only [List.set_cons_zero] at hh
     refine aL (aD (a0 (ai (aq (mI ?_)))))
     refine bz (aI (aD (ai ?_)))
     replace hh := hh.sub (List.Sublist.cons_cons _ (List.Sublist.cons_cons _ List.Sublist.slnil))
     refine ⟨⟨k + 1, c32, A32, by omega, rfl, rfl, ?_⟩, by show i + 1 - (k + 1 + 1) < i + 1 - (k + 1); omega, ?_⟩
     ·rw [a9 e3, eP]
      exact hh
     ·(repeat (first | exact aw _ _ _ | refine az rfl ?_ | refine au rfl ?_))
    ·obtain rfl : k = i := by omega
     have e3 := jV (n := k + 1) (k := k + 1) (Nat.le_refl _)
     refine ah (sr (mI (mL (a7 ?_))))
     refine aK (aa (cF ?_))
     refine aY ?_
     refine ay (ay (bm (ai (aq (mL ?_)))))
     refine bB hh (fB 1 _ (hT.hp hh) (by omega) (by omega)) rfl ?_
     intro w34 hh
     refine bo hh (cs := [_, _, _]) aN.out aA.out (a6 (ed rfl) bR) rfl rfl (by decide) (by decide) (by decide) rfl (by decide) ?_
     intro b35 w35 hh
     refine df hh (i := 1) rfl rfl rfl (hh.bf (i := 0) rfl) aN.out aA.out rfl (by decide) (by first | rfl | exact dr _ | exact cH _ | exact bW _ | exact cz NR.one _) (by omega) (by omega) (by decide) ?_
     intro A36 c36 w36 hh
     simp only [List.set_cons_zero, List.set_cons_succ] at hh
     replace hh := hh.sub (List.sublist_cons_self _ _)
     refine aL (aD (a0 (ai (aq ?_))))
     refine bz (mI (aD (ai ?_)))
     replace hh := hh.sub (List.Sublist.cons_cons _ (List.Sublist.cons _ List.Sublist.slnil))
     refine ⟨⟨k + 1, c36, A36, by omega, rfl, rfl, ?_⟩, by show n - (k + 1) < n - k; omega, ?_⟩
     ·have e4 : kd (k + 1) = (kd (k + 1)).take (k + 1) ++ [nR (nD (bin (k + 1) (k + 1)))] := by
       rw [← a9 e3, List.take_of_length_le (by rw [wy]; omega)]
      rw [e4, eP, mR]
      exact hh
     ·(repeat (first | exact aw _ _ _ | refine az rfl ?_ | refine au rfl ?_))
  ·obtain rfl : i = n := by omega
   refine sr ?_
   refine aK (aa (ah (cF ?_)))
   refine aY ?_
   refine ay (ay (bm (ai (sr (mL (aL (aa (ao ?_))))))))
   refine cx ?_
   exact ⟨_, _, rfl, hh.at_ (i := 0) rfl, hh.below⟩
def se (ds : List Nat) : List Nat := (List.range (aC ds.reverse)).map fun p => Aq ds.reverse (dp ds.reverse p)
theorem qh (ds : List Nat) (d : Nat) : se (ds ++ [d]) = (se ds).flatMap fun x => (jc d).map (x * ·) := by
 have hl : ∀ a ∈ se ds, ((jc d).map (a * ·)).length = d + 1 := fun a _ => by rw [List.length_map, m9]
 refine List.ext_getElem? fun p => ?_
 rw [kh (by omega) _ _ _ hl]
 unfold se
 rw [List.reverse_append, List.reverse_singleton, List.singleton_append]
 by_cases hp : p < aC (d :: ds.reverse)
 ·have hq : p / (d + 1) < aC ds.reverse := by rw [Nat.div_lt_iff_lt_mul (by omega), Nat.mul_comm]; exact hp
  have hr : p % (d + 1) ≤ d := by have := Nat.mod_lt p (show 0 < d + 1 by omega); omega
  rw [List.getElem?_map, List.getElem?_range hp, List.getElem?_map, List.getElem?_range hq]
  simp only [Option.map_some, Option.bind_some, List.getElem?_map, ml hr, dp, Aq, Nat.mul_comm]
 ·have hq : ¬ p / (d + 1) < aC ds.reverse := by rw [Nat.div_lt_iff_lt_mul (by omega), Nat.mul_comm]; exact hp
  rw [List.getElem?_eq_none (by simp; omega), List.getElem?_eq_none (l := List.map _ _) (by simp; omega)]
  rfl
theorem tR (ds : List Nat) : (se ds).length = aC ds := by simp [se, eC]
def vD (ds : List Nat) : List NR := (se ds).map fun k => nR (nD k)
end Go.Proofs.YtioilmppidlbnaaGreatDoor
