/- Queues, the least entry first: what swaps keep, what stands first. Plain Lean, no program in sight. -/
import Derived.Test.YthmmofllajkejaaDoorCore
namespace Go.Proofs.YthmmofllajkejaaDoor
/-- A strict order whose other side is transitive. -/
structure Ord {α : Type} (lt : α → α → Bool) : Prop where
  irr : ∀ a, lt a a = false
  tr : ∀ a b c, lt b a = false → lt c b = false → lt c a = false
  as : ∀ a b, lt a b = true → lt b a = false
section
variable {α : Type} {lt : α → α → Bool}
/-- k is a child of i. -/
def Kid (i k : Nat) : Prop := k = 2 * i + 1 ∨ k = 2 * i + 2
/-- From s on, nobody stands ahead of the one above it. -/
def Heap (lt : α → α → Bool) (s : Nat) (L : List α) : Prop := ∀ i k a b, s ≤ i → Kid i k → L[i]? = some a → L[k]? = some b → lt b a = false
def swp (L : List α) (i k : Nat) : List α := match L[i]?, L[k]? with
  | some a, some b => (L.set i b).set k a
  | _, _ => L
theorem swp_len (L : List α) (i k : Nat) : (swp L i k).length = L.length := by
  unfold swp; split <;> simp
theorem swp_eq {L : List α} {i k : Nat} {a b : α} (ha : L[i]? = some a) (hb : L[k]? = some b) : swp L i k = (L.set i b).set k a := by
  unfold swp; rw [ha, hb]
theorem swp_at {L : List α} {i k : Nat} {a b : α} (ha : L[i]? = some a) (hb : L[k]? = some b) (j : Nat) : (swp L i k)[j]? = if j = k then some a else if j = i then some b else L[j]? := by
  have hi := (List.getElem?_eq_some_iff.1 ha).1
  have hk := (List.getElem?_eq_some_iff.1 hb).1
  rw [swp_eq ha hb, List.getElem?_set, List.getElem?_set]
  simp only [List.length_set]
  by_cases h1 : k = j
  · subst h1; simp [hk]
  · have h1' : ¬ j = k := fun e => h1 e.symm
    rw [if_neg h1, if_neg h1']
    by_cases h2 : i = j
    · subst h2; simp [hi]
    · have h2' : ¬ j = i := fun e => h2 e.symm
      rw [if_neg h2, if_neg h2']
theorem perm_set : ∀ (L : List α) (i : Nat) (b x : α), L[i]? = some x → (b :: L).Perm (x :: L.set i b)
  | [], i, b, x, h => by simp at h
  | y :: L, 0, b, x, h => by
    simp only [List.getElem?_cons_zero, Option.some.injEq] at h
    subst h
    simpa using List.Perm.swap y b L
  | y :: L, i + 1, b, x, h => by
    simp only [List.getElem?_cons_succ] at h
    have h1 := perm_set L i b x h
    have h2 : (b :: y :: L).Perm (y :: b :: L) := List.Perm.swap y b L
    have h3 : (y :: b :: L).Perm (y :: x :: L.set i b) := h1.cons y
    have h4 : (y :: x :: L.set i b).Perm (x :: y :: L.set i b) := List.Perm.swap x y _
    simpa using h2.trans (h3.trans h4)
theorem swp_perm (L : List α) (i k : Nat) : (swp L i k).Perm L := by
  unfold swp
  split
  · rename_i a b ha hb
    have hk := (List.getElem?_eq_some_iff.1 hb).1
    by_cases hik : i = k
    · subst hik
      rw [ha] at hb
      cases hb
      rw [List.set_set]
      have := perm_set L i a a ha
      exact ((List.perm_cons a).1 this).symm
    · have hb2 : (L.set i b)[k]? = some b := by rw [List.getElem?_set, if_neg hik, hb]
      have h1 := perm_set L i b a ha
      have h2 := perm_set (L.set i b) k a b hb2
      exact ((List.perm_cons b).1 (h1.trans h2)).symm
  · exact List.Perm.refl _
/-- While an entry sinks. -/
structure Sinks (lt : α → α → Bool) (s at_ : Nat) (L : List α) : Prop where
  ge : s ≤ at_
  h1 : ∀ i k a b, s ≤ i → Kid i k → i ≠ at_ → L[i]? = some a → L[k]? = some b → lt b a = false
  h2 : ∀ p k a b, s ≤ p → Kid p at_ → Kid at_ k → L[p]? = some a → L[k]? = some b → lt b a = false
theorem Sinks.start {s : Nat} {L : List α} (h : Heap lt (s + 1) L) : Sinks lt s s L :=
  ⟨Nat.le_refl _, fun i k a b hi hk hne ha hb => h i k a b (by omega) hk ha hb, fun p k a b hp hk _ _ _ => by unfold Kid at hk; omega⟩
theorem Sinks.stop {s at_ : Nat} {L : List α} (h : Sinks lt s at_ L) (hk : ∀ k a b, Kid at_ k → L[at_]? = some a → L[k]? = some b → lt b a = false) : Heap lt s L := fun i k a b hi hik ha hb => by
  by_cases he : i = at_
  · subst he; exact hk k a b hik ha hb
  · exact h.h1 i k a b hi hik he ha hb
theorem Sinks.step {s at_ best : Nat} {L : List α} {x y : α} (h : Sinks lt s at_ L) (hb : Kid at_ best) (hx : L[at_]? = some x) (hy : L[best]? = some y) (hxy : lt x y = false)
    (hmin : ∀ k b, Kid at_ k → L[k]? = some b → lt b y = false) : Sinks lt s best (swp L at_ best) := by
  have hne : at_ ≠ best := by unfold Kid at hb; omega
  refine ⟨by have := h.ge; unfold Kid at hb; omega, fun i k a b hi hik hib ha hb2 => ?_, fun p k a b hp hpb hbk ha hb2 => ?_⟩
  · rw [swp_at hx hy] at ha hb2
    rw [if_neg hib] at ha
    by_cases hia : i = at_
    · subst hia
      rw [if_pos rfl] at ha
      cases ha
      by_cases hkb : k = best
      · subst hkb
        rw [if_pos rfl] at hb2
        cases hb2
        exact hxy
      · rw [if_neg hkb, if_neg (by unfold Kid at hik; omega)] at hb2
        exact hmin k b hik hb2
    · rw [if_neg hia] at ha
      have hkb : k ≠ best := by unfold Kid at hik hb; omega
      rw [if_neg hkb] at hb2
      by_cases hka : k = at_
      · subst hka
        rw [if_pos rfl] at hb2
        cases hb2
        exact h.h2 i best a y hi hik hb ha hy
      · rw [if_neg hka] at hb2
        exact h.h1 i k a b hi hik hia ha hb2
  · rw [swp_at hx hy] at ha hb2
    have hpa : p = at_ := by unfold Kid at hpb hb; omega
    subst hpa
    rw [if_neg hne, if_pos rfl] at ha
    cases ha
    rw [if_neg (by unfold Kid at hbk; omega), if_neg (by unfold Kid at hbk hb; omega)] at hb2
    exact h.h1 best k y b (by have := h.ge; unfold Kid at hb; omega) hbk (fun e => hne e.symm) hy hb2
/-- While an entry rises. -/
structure Rises (lt : α → α → Bool) (at_ : Nat) (L : List α) : Prop where
  h1 : ∀ i k a b, Kid i k → k ≠ at_ → L[i]? = some a → L[k]? = some b → lt b a = false
  h2 : ∀ p k a b, Kid p at_ → Kid at_ k → L[p]? = some a → L[k]? = some b → lt b a = false
theorem Rises.start {L : List α} {x : α} (h : Heap lt 0 L) : Rises lt L.length (L ++ [x]) :=
  ⟨fun i k a b hik hk ha hb => by
    have hkl : k < L.length := by
      have := (List.getElem?_eq_some_iff.1 hb).1
      simp at this; omega
    rw [List.getElem?_append_left hkl] at hb
    rw [List.getElem?_append_left (by unfold Kid at hik; omega)] at ha
    exact h i k a b (Nat.zero_le _) hik ha hb, fun p k a b _ hk _ hb => by
    have := (List.getElem?_eq_some_iff.1 hb).1
    simp at this
    unfold Kid at hk; omega⟩
theorem Rises.stop {at_ : Nat} {L : List α} (h : Rises lt at_ L) (hk : ∀ p a b, Kid p at_ → L[p]? = some a → L[at_]? = some b → lt b a = false) : Heap lt 0 L := fun i k a b _ hik ha hb => by
  by_cases he : k = at_
  · subst he; exact hk i a b hik ha hb
  · exact h.h1 i k a b hik he ha hb
theorem Rises.step (o : Ord lt) {at_ over : Nat} {L : List α} {x y : α} (h : Rises lt at_ L) (hb : Kid over at_) (hx : L[at_]? = some x) (hy : L[over]? = some y) (hxy : lt x y = true) : Rises lt over (swp L at_ over) := by
  have hne : at_ ≠ over := by unfold Kid at hb; omega
  have hyx := o.as _ _ hxy
  refine ⟨fun i k a b hik hko ha hb2 => ?_, fun p k a b hpo hok ha hb2 => ?_⟩
  · rw [swp_at hx hy] at ha hb2
    rw [if_neg hko] at hb2
    by_cases hio : i = over
    · subst hio
      rw [if_pos rfl] at ha
      cases ha
      by_cases hka : k = at_
      · subst hka
        rw [if_pos rfl] at hb2
        cases hb2
        exact hyx
      · rw [if_neg hka] at hb2
        have h3 := h.h1 i k y b hik hka hy hb2
        exact o.tr _ _ _ hyx h3
    · rw [if_neg hio] at ha
      by_cases hka : k = at_
      · subst hka
        exact absurd (by unfold Kid at hik hb; omega) hio
      · rw [if_neg hka] at hb2
        by_cases hia : i = at_
        · subst hia
          rw [if_pos rfl] at ha
          cases ha
          exact h.h2 over k y b hb hik hy hb2
        · rw [if_neg hia] at ha
          exact h.h1 i k a b hik hka ha hb2
  · rw [swp_at hx hy] at ha hb2
    have hpo' : p ≠ over := by unfold Kid at hpo; omega
    have hpa : p ≠ at_ := by unfold Kid at hpo hb; omega
    rw [if_neg hpo', if_neg hpa] at ha
    have h4 := h.h1 p over a y hpo (fun e => hne e.symm) ha hy
    rw [if_neg (by unfold Kid at hok; omega)] at hb2
    by_cases hka : k = at_
    · subst hka
      rw [if_pos rfl] at hb2
      cases hb2
      exact h4
    · rw [if_neg hka] at hb2
      exact o.tr _ _ _ h4 (h.h1 over k y b hok hka hy hb2)
theorem Heap.first (o : Ord lt) {L : List α} (h : Heap lt 0 L) {a : α} (ha : L[0]? = some a) : ∀ (k : Nat) (b : α), L[k]? = some b → lt b a = false := fun k => by
  induction k using Nat.strongRecOn with
  | _ k ih =>
    intro b hb
    by_cases h0 : k = 0
    · subst h0
      rw [ha] at hb
      cases hb
      exact o.irr a
    · have hk : Kid ((k - 1) / 2) k := by unfold Kid; omega
      have hlt : (k - 1) / 2 < L.length := by
        have := (List.getElem?_eq_some_iff.1 hb).1
        omega
      have h1 := ih ((k - 1) / 2) (by omega) _ (List.getElem?_eq_getElem hlt)
      exact o.tr _ _ _ h1 (h _ _ _ _ (Nat.zero_le _) hk (List.getElem?_eq_getElem hlt) hb)
theorem Heap.nil (s : Nat) : Heap lt s ([] : List α) := fun _ _ _ _ _ _ h => by simp at h
theorem Heap.past {s : Nat} {L : List α} (h : L.length ≤ 2 * s + 1) : Heap lt s L := fun i k a b hi hk _ hb => by
  have := (List.getElem?_eq_some_iff.1 hb).1
  unfold Kid at hk; omega
theorem Heap.le {s t : Nat} {L : List α} (h : Heap lt s L) (hst : s ≤ t) : Heap lt t L := fun i k a b hi => h i k a b (by omega)
theorem Heap.take {s n : Nat} {L : List α} (h : Heap lt s L) : Heap lt s (L.take n) := fun i k a b hi hk ha hb => by
  rw [List.getElem?_take] at ha hb
  split at ha <;> split at hb <;> first | exact h i k a b hi hk ha hb | simp at ha | simp at hb
/-- The first one replaced. -/
theorem Heap.set0 {L : List α} {x : α} (h : Heap lt 0 L) : Heap lt 1 (L.set 0 x) := fun i k a b hi hk ha hb => by
  rw [List.getElem?_set, if_neg (by omega)] at ha
  rw [List.getElem?_set, if_neg (by unfold Kid at hk; omega)] at hb
  exact h i k a b (by omega) hk ha hb
/-- The last one put ahead, the row cut: the first one goes. -/
theorem perm_take {L : List α} {n : Nat} {x : α} {y : α} (hn : L.length = n + 1) (hx : L[0]? = some x) (hy : L[n]? = some y) : (x :: (L.set 0 y).take n).Perm L := by
  match L, hn with
  | z :: M, hn =>
    simp only [List.getElem?_cons_zero, Option.some.injEq] at hx
    subst hx
    have hM : M.length = n := by simpa using hn
    cases n with
    | zero =>
      have : M = [] := List.length_eq_zero_iff.1 hM
      subst this
      simp
    | succ n =>
      simp only [List.set_cons_zero, List.take_succ_cons]
      refine List.Perm.cons z ?_
      simp only [List.getElem?_cons_succ] at hy
      have h2 : M = M.take n ++ [y] := by
        have h3 := List.take_append_drop n M
        have h4 : M.drop n = [y] := by
          rw [List.drop_eq_getElem_cons (by omega), List.drop_of_length_le (by omega)]
          have := (List.getElem?_eq_some_iff.1 hy).2
          rw [this]
        rw [h4] at h3
        exact h3.symm
      have h5 : (y :: M.take n).Perm (M.take n ++ [y]) := by simpa using (List.perm_append_comm (l₁ := [y]) (l₂ := M.take n))
      rw [← h2] at h5
      exact h5
end
end Go.Proofs.YthmmofllajkejaaDoor
