/- The values of a drawn region, laid in at one stroke. -/
import Derived.Test.YtgljgalcbbjfgaaGreatDoorDrawB
namespace Go.Proofs.YtgljgalcbbjfgaaGreatDoor
open Go.RowKit
def updK (ρ : Rf) : List (Nat × Value) → Rf
  | [] => ρ
  | (d, v) :: r => upd (updK ρ r) d v
def EqL (f : Nat → Value) : List (Nat × Nat) → List (Nat × Value) → Prop
  | [], [] => True
  | (i, d) :: r, (d', v) :: s => (d = d' ∧ f i = v) ∧ EqL f r s
  | _, _ => False
theorem updL_K {ρ : Rf} {f : Nat → Value} : ∀ {ds : List (Nat × Nat)} {vs : List (Nat × Value)}, EqL f ds vs → updL ρ f ds = updK ρ vs
  | [], [], _ => rfl
  | [], _ :: _, h => h.elim
  | _ :: _, [], h => h.elim
  | (i, d) :: r, (d', v) :: s, h => by
    obtain ⟨⟨rfl, rfl⟩, h2⟩ := h
    rw [updL, updK, updL_K h2]
theorem eql_nil {f : Nat → Value} : EqL f [] [] := trivial
theorem eql_cons {f : Nat → Value} {i d : Nat} {v : Value} {r : List (Nat × Nat)} {s : List (Nat × Value)} (h : f i = v) (hr : EqL f r s) : EqL f ((i, d) :: r) ((d, v) :: s) := ⟨⟨rfl, h⟩, hr⟩
theorem wl_cast {P : Program} {N : Nat} {ops : Array Oper} {Q : Kq} {l : List Oper} {ρ ρ' : Rf} {w : World} (h : ρ = ρ') (k : WL P N ops Q l ρ' w) : WL P N ops Q l ρ w := h ▸ k
end Go.Proofs.YtgljgalcbbjfgaaGreatDoor
