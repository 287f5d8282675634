/- Two queues side by side: the entries in the order of a heap, and as they were put. Plain Lean, no program in sight. -/
import Derived.Test.YthmmofllajkejaaDoorHeapM
namespace Go.Proofs.YthmmofllajkejaaDoor
structure QI {α : Type} (L B : List (Ent α)) (next : Int) : Prop where
  perm : L.Perm B
  heap : Heap ah 0 L
  dist : B.Pairwise fun a b => a.t < b.t
  bd : ∀ e ∈ B, 0 ≤ e.t ∧ e.t < next
section
variable {α : Type} {L L' B : List (Ent α)} {next : Int}
theorem QI.nil : QI ([] : List (Ent α)) [] next := ⟨List.Perm.refl _, Heap.nil _, List.Pairwise.nil, fun _ h => by cases h⟩
theorem QI.put (h : QI L B next) (h0 : 0 ≤ next) {e : Ent α} (he : e.t = next) (hp : L'.Perm (L ++ [e])) (hh : Heap ah 0 L') : QI L' (B ++ [e]) (next + 1) := by
  refine ⟨hp.trans (h.perm.append_right _), hh, List.pairwise_append.2 ⟨h.dist, List.pairwise_singleton _ _, fun a ha b hb => ?_⟩, fun x hx => ?_⟩
  · obtain rfl := List.mem_singleton.1 hb
    have := (h.bd a ha).2
    omega
  · rcases List.mem_append.1 hx with hx | hx
    · have := h.bd x hx
      omega
    · obtain rfl := List.mem_singleton.1 hx
      omega
theorem QI.len (h : QI L B next) : L.length = B.length := h.perm.length_eq
theorem pw_get {R : Ent α → Ent α → Prop} (h : B.Pairwise R) {i j : Nat} {a b : Ent α} (ha : B[i]? = some a) (hb : B[j]? = some b) (hij : i < j) : R a b := by
  obtain ⟨h1, rfl⟩ := List.getElem?_eq_some_iff.1 ha
  obtain ⟨h2, rfl⟩ := List.getElem?_eq_some_iff.1 hb
  exact List.pairwise_iff_getElem.1 h i j h1 h2 hij
/-- Each of the rest stands behind the first one. -/
theorem QI.least (h : QI L B next) {e : Ent α} (he : L[0]? = some e) : ∀ a ∈ B, ah a e = false := fun a ha => by
  obtain ⟨k, hk⟩ := List.mem_iff_getElem?.1 (h.perm.mem_iff.2 ha)
  exact h.heap.first ah_ord he k a hk
theorem QI.first (h : QI L B next) {e y : Ent α} {m : Nat} (he : L[0]? = some e) (hm : B[m]? = some y) (hy : ∀ (k : Nat) (a : Ent α), B[k]? = some a → ah a y = false) : e = y := by
  obtain ⟨k, hk⟩ := List.mem_iff_getElem?.1 (h.perm.mem_iff.1 (List.mem_of_getElem? he))
  have h1 := of_decide_eq_false (hy k e hk)
  have h2 := of_decide_eq_false (h.least he y (List.mem_of_getElem? hm))
  have hd : e.k.d = y.k.d := by
    rcases d_tri e.k.d y.k.d with h3 | h3 | h3
    · exact absurd (.inl h3) h1
    · exact h3
    · exact absurd (.inl h3) h2
  have h1' : ¬ e.t < y.t := fun h3 => h1 (.inr ⟨hd, h3⟩)
  have h2' : ¬ y.t < e.t := fun h3 => h2 (.inr ⟨hd.symm, h3⟩)
  rcases Nat.lt_trichotomy k m with h3 | h3 | h3
  · exact absurd (pw_get h.dist hk hm h3) h1'
  · subst h3
    rw [hk] at hm
    exact Option.some.inj hm
  · exact absurd (pw_get h.dist hm hk h3) h2'
theorem erase_perm : ∀ (B : List (Ent α)) (m : Nat) (e : Ent α), B[m]? = some e → (e :: B.eraseIdx m).Perm B
  | [], m, e, h => by simp at h
  | y :: B, 0, e, h => by
    simp only [List.getElem?_cons_zero, Option.some.injEq] at h
    subst h
    exact List.Perm.refl _
  | y :: B, m + 1, e, h => by
    simp only [List.getElem?_cons_succ] at h
    simp only [List.eraseIdx_cons_succ]
    exact (List.Perm.swap y e _).trans ((erase_perm B m e h).cons y)
theorem QI.take (h : QI L B next) {e : Ent α} {m : Nat} (hm : B[m]? = some e) (hp : (e :: L').Perm L) (hh : Heap ah 0 L') : QI L' (B.eraseIdx m) next := by
  have h2 := (hp.trans h.perm).trans (erase_perm B m e hm).symm
  exact ⟨(List.perm_cons _).1 h2, hh, h.dist.sublist (List.eraseIdx_sublist _ _), fun x hx => h.bd x ((List.eraseIdx_sublist _ _).subset hx)⟩
theorem QI.drop (h : QI L B next) {p : Ent α → Bool} (hp : L'.Perm (L.filter p)) (hh : Heap ah 0 L') : QI L' (B.filter p) next :=
  ⟨hp.trans (h.perm.filter p), hh, h.dist.sublist List.filter_sublist, fun x hx => h.bd x (List.mem_filter.1 hx).1⟩
theorem QI.droplen (h : QI L B next) (p : Ent α → Bool) : (L.filter p).length = (B.filter p).length := (h.perm.filter p).length_eq
end
end Go.Proofs.YthmmofllajkejaaDoor
