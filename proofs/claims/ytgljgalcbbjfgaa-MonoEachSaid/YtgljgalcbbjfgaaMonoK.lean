/- What was multiplied is divided back. Plain lemmas, no program in sight. -/
import Derived.Test.YtgljgalcbbjfgaaMonoF
namespace Go.Proofs.Ytgljgalcbbjfgaa
open Go.RowKit
theorem ints_toB {l : List Int} (h : l.all expOk = true) : ints (l.map toB) = l := by
  induction l with
  | nil => rfl
  | cons x l ih =>
    simp only [List.all_cons, Bool.and_eq_true] at h
    have h1 : ((toB x).toNat : Int) = x := by
      have := toB_val h.1
      injection this with _ this
      exact this.symm
    have := ih h.2
    simp only [ints, List.map_cons, h1]
    congr 1
theorem toB_ints (a : List UInt8) : (ints a).map toB = a := by
  induction a with
  | nil => rfl
  | cons c a ih =>
    simp only [ints, List.map_cons]
    congr 1
    simp [toB]
theorem mayB_toB {l : List Int} (h : l.all expOk = true) : mayB (l.map toB) = true := by
  rw [mayB, List.all_eq_true]
  intro c hc
  obtain ⟨x, hx, rfl⟩ := List.mem_map.1 hc
  have h1 := List.all_eq_true.1 h x hx
  have := toB_val h1
  injection this with _ this
  simp only [expOk, Bool.and_eq_true, decide_eq_true_eq] at h1
  simp only [decide_eq_true_eq]
  omega
theorem ints_ok {a : List UInt8} (h : mayB a = true) : (ints a).all expOk = true := by
  rw [List.all_eq_true]
  intro x hx
  obtain ⟨c, hc, rfl⟩ := List.mem_map.1 hx
  have := List.all_eq_true.1 h c hc
  simp only [decide_eq_true_eq] at this
  simp only [expOk, Bool.and_eq_true, decide_eq_true_eq]
  omega
theorem both_spec {f : Int → Int → Int} {a b : List UInt8} {l : List Int} (h : bothL f a b = some l) : mayB a = true ∧ mayB b = true ∧ b.length = a.length ∧ l = List.zipWith f (ints a) (ints b) := by
  unfold bothL at h
  split at h
  · rename_i hc
    simp only [Bool.and_eq_true, decide_eq_true_eq] at hc
    injection h with h
    exact ⟨hc.1, hc.2.1, by omega, h.symm⟩
  · cases h
theorem both_mk {f : Int → Int → Int} {a b : List UInt8} (h1 : mayB a = true) (h2 : mayB b = true) (h3 : b.length = a.length) : bothL f a b = some (List.zipWith f (ints a) (ints b)) := by
  unfold bothL
  rw [if_pos (by simp [h1, h2, h3])]
theorem mul_bad {a c : List UInt8} (h : ¬ (mulL a c).2 = 0) : (mulL a c).1 = [] := by
  unfold mulL at h ⊢
  split
  · rename_i l hl
    rw [hl] at h
    simp only at h ⊢
    by_cases hc : l.all expOk = true
    · exact absurd (of_good hc).2 h
    · simp [ofL, hc]
  · rfl
/-- A product that is answered. -/
theorem mul_ok {a c : List UInt8} (h : (mulL a c).2 = 0) : mayB a = true ∧ mayB c = true ∧ c.length = a.length ∧ mayB (mulL a c).1 = true ∧ ints (mulL a c).1 = List.zipWith (· + ·) (ints a) (ints c) := by
  unfold mulL at h ⊢
  split
  · rename_i l hl
    rw [hl] at h
    simp only at h ⊢
    obtain ⟨h1, h2, h3, h4⟩ := both_spec hl
    by_cases hc : l.all expOk = true
    · rw [(of_good hc).1]
      exact ⟨h1, h2, h3, mayB_toB hc, by rw [ints_toB hc, h4]⟩
    · simp [ofE, hc] at h
  · rename_i hl
    rw [hl] at h
    simp at h
theorem zip_sub_r : ∀ (a c : List Int), c.length = a.length → List.zipWith (· - ·) (List.zipWith (· + ·) a c) c = a
  | [], c, _ => by simp
  | x :: a, [], h => by simp at h
  | x :: a, y :: c, h => by
    simp only [List.zipWith_cons_cons, zip_sub_r a c (by simpa using h)]
    congr 1; omega
theorem zip_sub_l : ∀ (a c : List Int), c.length = a.length → List.zipWith (· - ·) (List.zipWith (· + ·) a c) a = c
  | [], c, h => by simp at h; simp [h]
  | x :: a, [], h => by simp at h
  | x :: a, y :: c, h => by
    simp only [List.zipWith_cons_cons, zip_sub_l a c (by simpa using h)]
    congr 1; omega
theorem zip_sum : ∀ (a c : List Int), c.length = a.length → (List.zipWith (· + ·) a c).sum = a.sum + c.sum
  | [], c, h => by simp at h; simp [h]
  | x :: a, [], h => by simp at h
  | x :: a, y :: c, h => by
    simp only [List.zipWith_cons_cons, List.sum_cons, zip_sum a c (by simpa using h)]; omega
theorem length_mul {a c : List UInt8} (h : (mulL a c).2 = 0) : (mulL a c).1.length = a.length := by
  obtain ⟨_, _, h3, _, h5⟩ := mul_ok h
  have := congrArg List.length h5
  rw [length_ints, List.length_zipWith, length_ints, length_ints] at this
  omega
theorem div_r {a c : List UInt8} (h : (mulL a c).2 = 0) : divL (mulL a c).1 c = (a, true) := by
  obtain ⟨h1, h2, h3, h4, h5⟩ := mul_ok h
  have hl := length_mul h
  have hb := both_mk (f := (· - ·)) h4 h2 (by omega)
  rw [h5, zip_sub_r _ _ (by rw [length_ints, length_ints]; exact h3)] at hb
  obtain ⟨e1, e2⟩ := of_good (ints_ok h1)
  simp only [divL, hb, e1, e2, toB_ints, decide_true]
theorem div_l {a c : List UInt8} (h : (mulL a c).2 = 0) : divL (mulL a c).1 a = (c, true) := by
  obtain ⟨h1, h2, h3, h4, h5⟩ := mul_ok h
  have hl := length_mul h
  have hb := both_mk (f := (· - ·)) h4 h1 (by omega)
  rw [h5, zip_sub_l _ _ (by rw [length_ints, length_ints]; exact h3)] at hb
  obtain ⟨e1, e2⟩ := of_good (ints_ok h2)
  simp only [divL, hb, e1, e2, toB_ints, decide_true]
theorem deg_mul {a c : List UInt8} (h : (mulL a c).2 = 0) : degL (mulL a c).1 = degL a + degL c := by
  obtain ⟨h1, h2, h3, h4, h5⟩ := mul_ok h
  simp only [degL, exps_good h1, exps_good h2, exps_good h4, h5]
  exact zip_sum _ _ (by rw [length_ints, length_ints]; exact h3)
theorem less_add : ∀ (a b c m n : List UInt8), c.length = a.length → c.length = b.length → ints m = List.zipWith (· + ·) (ints a) (ints c) → ints n = List.zipWith (· + ·) (ints b) (ints c) → Op.bytesLess m n = Op.bytesLess a b ∧ (m = n ↔ a = b)
  | [], [], [], [], [], _, _, _, _ => ⟨rfl, by simp⟩
  | x :: a, y :: b, z :: c, u :: m, v :: n, h1, h2, h3, h4 => by
    simp only [ints, List.map_cons, List.zipWith_cons_cons, List.cons.injEq] at h3 h4
    obtain ⟨ih1, ih2⟩ := less_add a b c m n (by simpa using h1) (by simpa using h2) h3.2 h4.2
    have e1 : (u < v) ↔ (x < y) := by rw [UInt8.lt_iff_toNat_lt, UInt8.lt_iff_toNat_lt]; omega
    have e2 : (u = v) ↔ (x = y) := by
      rw [← UInt8.toNat_inj, ← UInt8.toNat_inj]; omega
    constructor
    · have e3 : (u == v) = (x == y) := by
        rw [Bool.eq_iff_iff, beq_iff_eq, beq_iff_eq]; exact e2
      simp only [Op.bytesLess, e3, ih1, e1]
    · rw [List.cons.injEq, List.cons.injEq, e2, ih2]
  | [], _ :: _, c, _, _, h1, h2, _, _ => by simp at h1; simp [h1] at h2
  | _ :: _, [], c, _, _, h1, h2, _, _ => by simp at h2; simp [h2] at h1
  | _ :: _, _ :: _, [], _, _, h1, _, _, _ => by simp at h1
  | [], [], _ :: _, _, _, h1, _, _, _ => by simp at h1
  | [], [], [], _ :: _, _, _, _, h3, _ => by simp [ints] at h3
  | [], [], [], [], _ :: _, _, _, _, h4 => by simp [ints] at h4
  | _ :: _, _ :: _, _ :: _, [], _, _, _, h3, _ => by simp [ints] at h3
  | _ :: _, _ :: _, _ :: _, _ :: _, [], _, _, _, h4 => by simp [ints] at h4
theorem order_mul {a b c : List UInt8} (h1 : (mulL a c).2 = 0) (h2 : (mulL b c).2 = 0) : Op.bytesLess (mulL a c).1 (mulL b c).1 = Op.bytesLess a b ∧ ((mulL a c).1 = (mulL b c).1 ↔ a = b) := by
  obtain ⟨_, _, h3, _, h5⟩ := mul_ok h1
  obtain ⟨_, _, h6, _, h7⟩ := mul_ok h2
  exact less_add a b c _ _ h3 h6 h5 h7
end Go.Proofs.Ytgljgalcbbjfgaa
