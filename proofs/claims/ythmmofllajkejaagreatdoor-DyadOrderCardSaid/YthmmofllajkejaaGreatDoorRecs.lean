/- Rows of records: slices of structs. Plain lemmas, no program in sight. -/
import Derived.Test.YthmmofllajkejaaGreatDoorDraw
namespace Go.Proofs.YthmmofllajkejaaGreatDoor
open Go.RowKit
def recs {α : Type} (f : α → List Value) (l : List α) : List Value := l.flatMap f
section
variable {α : Type} {f : α → List Value} {sz : Nat}
theorem recs_len (hf : ∀ x, (f x).length = sz) (l : List α) : (recs f l).length = l.length * sz := by
  induction l with
  | nil => simp [recs]
  | cons x l ih =>
    have : recs f (x :: l) = f x ++ recs f l := by simp [recs]
    rw [this, List.length_append, hf, ih, List.length_cons, Nat.succ_mul]; omega
theorem recs_cons (x : α) (l : List α) : recs f (x :: l) = f x ++ recs f l := by simp [recs]
theorem recs_append (l m : List α) : recs f (l ++ m) = recs f l ++ recs f m := by simp [recs]
theorem recs_one (x : α) : recs f [x] = f x := by simp [recs]
theorem recs_drop (hf : ∀ x, (f x).length = sz) (l : List α) (k : Nat) : (recs f l).drop (k * sz) = recs f (l.drop k) := by
  induction l generalizing k with
  | nil => simp [recs]
  | cons x l ih =>
    cases k with
    | zero => simp
    | succ k => rw [recs_cons, Nat.succ_mul, Nat.add_comm, ← hf x, List.drop_append, List.drop_succ_cons, ← ih k, hf x]; simp [hf x]
theorem recs_take (hf : ∀ x, (f x).length = sz) (l : List α) (k : Nat) : (recs f l).take (k * sz) = recs f (l.take k) := by
  induction l generalizing k with
  | nil => simp [recs]
  | cons x l ih =>
    cases k with
    | zero => simp [recs]
    | succ k => rw [recs_cons, Nat.succ_mul, Nat.add_comm, List.take_succ_cons, recs_cons, ← ih k, ← hf x, List.take_append]; simp; exact List.take_of_length_le (Nat.le_add_right _ _)
theorem recs_get (hf : ∀ x, (f x).length = sz) {l : List α} {k : Nat} {x : α} (h : l[k]? = some x) : ((recs f l).drop (k * sz)).take sz = f x := by
  obtain ⟨h1, h2⟩ := List.getElem?_eq_some_iff.1 h
  rw [recs_drop hf, List.drop_eq_getElem_cons h1, h2, recs_cons, List.take_append_of_le_length (by rw [hf]; omega), List.take_of_length_le (by rw [hf]; omega)]
theorem Rd.recAt {w : World} {ad : Addr} {l : List α} (h : Rd w ad (recs f l)) (hf : ∀ x, (f x).length = sz) {k : Nat} {x : α} (hx : l[k]? = some x) : Rd w (ad.add (k * sz)) (f x) := by
  have := h.elem k sz
  rwa [recs_get hf hx] at this
theorem Sl.recLen {w : World} {A : Option Addr} {n : Nat} {l : List α} (h : Sl w A n sz (recs f l)) (hf : ∀ x, (f x).length = sz) (h0 : 0 < sz) : l.length = n := by
  have := h.1
  rw [recs_len hf] at this
  exact Nat.eq_of_mul_eq_mul_right h0 this
theorem recs_splice (hf : ∀ x, (f x).length = sz) {l : List α} {k : Nat} {y : α} (h : k < l.length) : splice (recs f l) (k * sz) (f y) = recs f (l.set k y) := by
  unfold splice
  rw [recs_take hf, hf, ← Nat.succ_mul, recs_drop hf, List.set_eq_take_append_cons_drop, if_pos h, recs_append, recs_cons, List.append_assoc]
theorem recs_oneCells (h : ∀ x, (f x).all Value.oneCell' = true) (l : List α) : ((recs f l).all Value.oneCell') = true := by
  rw [List.all_eq_true]
  intro v hv
  obtain ⟨x, _, hx⟩ := List.mem_flatMap.1 hv
  exact List.all_eq_true.1 (h x) v hx
end
end Go.Proofs.YthmmofllajkejaaGreatDoor
