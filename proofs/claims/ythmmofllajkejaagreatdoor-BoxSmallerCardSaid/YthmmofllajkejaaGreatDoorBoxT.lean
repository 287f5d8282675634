/- Plain laws of boxes: halves, volumes, places. No program in sight. -/
import Derived.Test.YthmmofllajkejaaGreatDoorLawBA
namespace Go.Proofs.YthmmofllajkejaaGreatDoor
theorem SR.le (s : SR) : ¬ s.H < s.L := lo_le_hi _ _
theorem SR.f_L (s : SR) : s.f.L = s.L := by
  have h := s.le
  show loD (nR s.L).d (nR s.H).d = s.L
  rw [nR_d, nR_d, loD, if_neg h]
theorem SR.f_H (s : SR) : s.f.H = s.H := by
  have h := s.le
  show hiD (nR s.L).d (nR s.H).d = s.H
  rw [nR_d, nR_d, hiD]
  split
  · rfl
  · rename_i g
    grind
theorem SR.mid_LH (s : SR) : s.f.mid + s.f.mid = s.L + s.H := by
  unfold SR.mid
  have := two_half s.f.lo.d s.f.hi.d
  rw [this]
  show (nR s.L).d + (nR s.H).d = _
  rw [nR_d, nR_d]
theorem SR.mid_bd (s : SR) : ¬ s.f.mid < s.L ∧ ¬ s.H < s.f.mid := by
  have h := s.mid_LH
  have h2 := s.le
  generalize s.f.mid = m at *
  grind
theorem SR.half_lo (s : SR) : (s.f.half (nR s.f.mid) false).L = s.L ∧ (s.f.half (nR s.f.mid) false).H = s.f.mid := by
  have h := s.mid_bd
  have e1 : (s.f.half (nR s.f.mid) false).lo.d = s.L := nR_d _
  have e2 : (s.f.half (nR s.f.mid) false).hi.d = s.f.mid := nR_d _
  refine ⟨by unfold SR.L loD; rw [e1, e2, if_neg h.1]; rfl, ?_⟩
  show hiD _ _ = _
  rw [e1, e2, hiD]
  split
  · rfl
  · grind
theorem SR.half_hi (s : SR) : (s.f.half (nR s.f.mid) true).L = s.f.mid ∧ (s.f.half (nR s.f.mid) true).H = s.H := by
  have h := s.mid_bd
  have e1 : (s.f.half (nR s.f.mid) true).lo.d = s.f.mid := nR_d _
  have e2 : (s.f.half (nR s.f.mid) true).hi.d = s.H := nR_d _
  refine ⟨by unfold SR.L loD; rw [e1, e2, if_neg h.2], ?_⟩
  show hiD _ _ = _
  rw [e1, e2, hiD]
  split
  · rfl
  · grind
theorem SR.has_iff (s : SR) (x : Dyadic) : s.has x = true ↔ ¬ x < s.L ∧ ¬ s.H < x := by unfold SR.has; rw [decide_eq_true_eq]
theorem SR.has_f (s : SR) (x : Dyadic) : s.f.has x = s.has x := by unfold SR.has; rw [SR.f_L, SR.f_H]
theorem hasB_iff (b : List SR) (p : List NR) : hasB b p = true ↔ b.length = p.length ∧ ∀ (i : Nat) (s : SR) (a : NR), b[i]? = some s → p[i]? = some a → s.has a.d = true := by
  unfold hasB
  rw [Bool.and_eq_true, decide_eq_true_eq, List.all_eq_true]
  refine and_congr_right fun _ => ⟨fun h i s a hs ha => h (s, a) (List.mem_of_getElem? (i := i) (by rw [List.getElem?_zip_eq_some]; exact ⟨hs, ha⟩)), fun h x hx => ?_⟩
  obtain ⟨i, hi⟩ := List.mem_iff_getElem?.1 hx
  obtain ⟨h1, h2⟩ := List.getElem?_zip_eq_some.1 hi
  exact h i x.1 x.2 h1 h2
theorem withinB_iff (a b : List SR) : withinB a b = true ↔ a.length = b.length ∧ ∀ (i : Nat) (s t : SR), a[i]? = some s → b[i]? = some t → t.has s.lo.d = true ∧ t.has s.hi.d = true := by
  unfold withinB
  rw [Bool.and_eq_true, decide_eq_true_eq, List.all_eq_true]
  refine and_congr_right fun _ => ⟨fun h i s t hs ht => by simpa using h (s, t) (List.mem_of_getElem? (i := i) (by rw [List.getElem?_zip_eq_some]; exact ⟨hs, ht⟩)), fun h x hx => ?_⟩
  obtain ⟨i, hi⟩ := List.mem_iff_getElem?.1 hx
  obtain ⟨h1, h2⟩ := List.getElem?_zip_eq_some.1 hi
  simpa using h i x.1 x.2 h1 h2
/-- A half of a box. -/
def halfB (b : List SR) (a : Nat) (s : SR) (u : Bool) : List SR := (b.map SR.f).set a (s.f.half (nR s.f.mid) u)
theorem halfB_len (b : List SR) (a : Nat) (s : SR) (u : Bool) : (halfB b a s u).length = b.length := by simp [halfB]
theorem halfB_at {b : List SR} {a : Nat} {s : SR} (u : Bool) (h : b[a]? = some s) : (halfB b a s u)[a]? = some (s.f.half (nR s.f.mid) u) := by
  unfold halfB
  rw [List.getElem?_set_self]
  rw [List.length_map]
  exact (List.getElem?_eq_some_iff.1 h).1
theorem halfB_ne {b : List SR} {a i : Nat} {s t : SR} (u : Bool) (hi : i ≠ a) (h : b[i]? = some t) : (halfB b a s u)[i]? = some t.f := by
  unfold halfB
  rw [List.getElem?_set_ne (fun e => hi e.symm), List.getElem?_map, h]
  rfl
theorem halfB_get {b : List SR} {a i : Nat} {s x : SR} (u : Bool) (hs : b[a]? = some s) (hx : (halfB b a s u)[i]? = some x) : (i = a ∧ x = s.f.half (nR s.f.mid) u) ∨ ∃ t, i ≠ a ∧ b[i]? = some t ∧ x = t.f := by
  by_cases g : i = a
  · subst g
    rw [halfB_at u hs] at hx
    exact .inl ⟨rfl, (Option.some.inj hx).symm⟩
  · have hl := (List.getElem?_eq_some_iff.1 hx).1
    rw [halfB_len] at hl
    obtain ⟨t, ht⟩ := get_of_lt hl
    rw [halfB_ne u g ht] at hx
    exact .inr ⟨t, g, ht, (Option.some.inj hx).symm⟩
theorem has_halves {b : List SR} {a : Nat} {s : SR} (hs : b[a]? = some s) (p : List NR) : hasB b p = (hasB (halfB b a s false) p || hasB (halfB b a s true) p) := by
  rw [Bool.eq_iff_iff, Bool.or_eq_true, hasB_iff, hasB_iff, hasB_iff, halfB_len, halfB_len]
  have l0 := s.half_lo
  have l1 := s.half_hi
  have hb := s.mid_bd
  constructor
  · rintro ⟨h1, h2⟩
    obtain ⟨x, hx⟩ := get_of_lt (l := p) (k := a) (by rw [← h1]; exact (List.getElem?_eq_some_iff.1 hs).1)
    have h3 := (SR.has_iff _ _).1 (h2 a s x hs hx)
    by_cases g : s.f.mid < x.d
    · refine .inr ⟨h1, fun i t y ht hy => ?_⟩
      rcases halfB_get true hs ht with ⟨rfl, rfl⟩ | ⟨t', _, ht', rfl⟩
      · rw [hx] at hy
        cases hy
        rw [SR.has_iff, l1.1, l1.2]
        exact ⟨by grind, h3.2⟩
      · rw [SR.has_f]
        exact h2 i t' y ht' hy
    · refine .inl ⟨h1, fun i t y ht hy => ?_⟩
      rcases halfB_get false hs ht with ⟨rfl, rfl⟩ | ⟨t', _, ht', rfl⟩
      · rw [hx] at hy
        cases hy
        rw [SR.has_iff, l0.1, l0.2]
        exact ⟨h3.1, g⟩
      · rw [SR.has_f]
        exact h2 i t' y ht' hy
  · have key : ∀ u, (b.length = p.length ∧ ∀ (i : Nat) (t : SR) (y : NR), (halfB b a s u)[i]? = some t → p[i]? = some y → t.has y.d = true) → b.length = p.length ∧ ∀ (i : Nat) (t : SR) (y : NR), b[i]? = some t → p[i]? = some y → t.has y.d = true := fun u ⟨h1, h2⟩ => ⟨h1, fun i t y ht hy => by
      by_cases g : i = a
      · subst g
        rw [hs] at ht
        cases ht
        have h3 := (SR.has_iff _ _).1 (h2 i _ y (halfB_at u hs) hy)
        rw [SR.has_iff]
        cases u with
        | false => rw [l0.1, l0.2] at h3; exact ⟨h3.1, by grind⟩
        | true => rw [l1.1, l1.2] at h3; exact ⟨by grind, h3.2⟩
      · have h3 := h2 i _ y (halfB_ne u g ht) hy
        rwa [SR.has_f] at h3⟩
    rintro (h | h)
    · exact key false h
    · exact key true h
theorem within_half {b : List SR} {a : Nat} {s : SR} (hs : b[a]? = some s) (u : Bool) : withinB (halfB b a s u) b = true := by
  rw [withinB_iff, halfB_len]
  refine ⟨rfl, fun i x t hx ht => ?_⟩
  have hb := s.mid_bd
  have hle := s.le
  rw [SR.has_iff, SR.has_iff]
  rcases halfB_get u hs hx with ⟨rfl, rfl⟩ | ⟨t', _, ht', rfl⟩
  · rw [hs] at ht
    cases ht
    cases u with
    | false =>
      rw [show (s.f.half (nR s.f.mid) false).lo.d = s.L from nR_d _, show (s.f.half (nR s.f.mid) false).hi.d = s.f.mid from nR_d _]
      generalize s.f.mid = m at *
      grind
    | true =>
      rw [show (s.f.half (nR s.f.mid) true).lo.d = s.f.mid from nR_d _, show (s.f.half (nR s.f.mid) true).hi.d = s.H from nR_d _]
      generalize s.f.mid = m at *
      grind
  · have := t'.le
    rw [ht'] at ht
    obtain rfl : t' = t := Option.some.inj ht
    rw [show t'.f.lo.d = t'.L from nR_d _, show t'.f.hi.d = t'.H from nR_d _]
    grind
theorem foldl_mul (l : List Dyadic) (x : Dyadic) : l.foldl (· * ·) x = x * prodD l := by
  unfold prodD
  induction l generalizing x with
  | nil => simp [Dyadic.mul_one]
  | cons y l ih => rw [List.foldl_cons, List.foldl_cons, ih, ih (1 * y)]; grind
theorem prodD_mid (l1 l2 : List Dyadic) (x : Dyadic) : prodD (l1 ++ x :: l2) = prodD l1 * x * prodD l2 := by
  show (l1 ++ x :: l2).foldl (· * ·) 1 = _
  rw [List.foldl_append, List.foldl_cons, foldl_mul]
  rfl
theorem vol_halves {b : List SR} {a : Nat} {s : SR} (hs : b[a]? = some s) : volB (halfB b a s false) + volB (halfB b a s true) = volB b := by
  obtain ⟨l1, l2, rfl, rfl⟩ : ∃ l1 l2, b = l1 ++ s :: l2 ∧ l1.length = a := by
    obtain ⟨h1, h2⟩ := List.getElem?_eq_some_iff.1 hs
    exact ⟨b.take a, b.drop (a + 1), by rw [← h2, ← List.drop_eq_getElem_cons h1, List.take_append_drop], by simp; omega⟩
  have hw : ∀ l : List SR, (l.map SR.f).map SR.wid = l.map SR.wid := fun l => by
    rw [List.map_map]
    refine List.map_congr_left fun t _ => ?_
    show t.f.H - t.f.L = t.H - t.L
    rw [SR.f_L, SR.f_H]
  have hv : ∀ u, volB (halfB (l1 ++ s :: l2) l1.length s u) = prodD (l1.map SR.wid) * (s.f.half (nR s.f.mid) u).wid * prodD (l2.map SR.wid) := fun u => by
    unfold volB halfB
    rw [List.map_append, List.map_cons, List.set_append_right _ _ (by simp), List.length_map, Nat.sub_self, List.set_cons_zero, List.map_append, List.map_cons, prodD_mid, hw, hw]
  rw [hv, hv]
  unfold volB
  rw [List.map_append, List.map_cons, prodD_mid]
  have e1 : (s.f.half (nR s.f.mid) false).wid = s.f.mid - s.L := by unfold SR.wid; rw [s.half_lo.1, s.half_lo.2]
  have e2 : (s.f.half (nR s.f.mid) true).wid = s.H - s.f.mid := by unfold SR.wid; rw [s.half_hi.1, s.half_hi.2]
  have e3 : s.wid = s.H - s.L := rfl
  rw [e1, e2, e3]
  generalize s.f.mid = m
  generalize s.L = x
  generalize s.H = y
  generalize prodD (l1.map SR.wid) = p
  generalize prodD (l2.map SR.wid) = q
  grind
theorem has_mid {b : List SR} {a : Nat} {s : SR} (hs : b[a]? = some s) (u : Bool) : hasB (halfB b a s u) (b.mapIdx fun _ s => nR s.f.mid) = true := by
  rw [hasB_iff, halfB_len, List.length_mapIdx]
  refine ⟨rfl, fun i t y ht hy => ?_⟩
  rw [List.getElem?_mapIdx] at hy
  have hb := s.mid_bd
  rcases halfB_get u hs ht with ⟨rfl, rfl⟩ | ⟨t', _, ht', rfl⟩
  · rw [hs] at hy
    cases hy
    rw [nR_d, SR.has_iff]
    cases u with
    | false => rw [s.half_lo.1, s.half_lo.2]; exact ⟨hb.1, by grind⟩
    | true => rw [s.half_hi.1, s.half_hi.2]; exact ⟨by grind, hb.2⟩
  · rw [ht'] at hy
    cases hy
    rw [nR_d, SR.has_f, SR.has_iff]
    exact t'.mid_bd
theorem halfB_fin {b : List SR} {a k : Nat} {s : SR} (hs : b[a]? = some s) (hb : ∀ s ∈ b, s.fin k) (hk : k + 2 ≤ 3000000) (u : Bool) : ∀ x ∈ halfB b a s u, x.fin (k + 2) := fun x hx => by
  have h : ∀ u : Bool, halveS b (2 * (a : Int) + (if u then 1 else 0)) = some (halfB b a s u) := fun u => by
    unfold halveS
    rw [Int.fdiv_eq_ediv_of_nonneg _ (by decide)]
    cases u with
    | false =>
      rw [if_neg (by simp only [Bool.false_eq_true, if_false]; omega), show (2 * (a : Int) + (if false = true then 1 else 0)) / 2 = (a : Int) by simp only [Bool.false_eq_true, if_false]; omega, Int.toNat_natCast, hs, decide_eq_false (by simp only [Bool.false_eq_true, if_false]; omega)]
      rfl
    | true =>
      rw [if_neg (by simp only [if_true]; omega), show (2 * (a : Int) + (if true = true then 1 else 0)) / 2 = (a : Int) by simp only [if_true]; omega, Int.toNat_natCast, hs, decide_eq_true (by simp only [if_true]; omega)]
      rfl
  exact (halveS_fin hb hk (h u)).1 x hx
end Go.Proofs.YthmmofllajkejaaGreatDoor
