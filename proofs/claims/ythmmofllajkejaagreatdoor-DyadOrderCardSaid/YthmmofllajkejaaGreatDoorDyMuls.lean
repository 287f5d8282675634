/- The walk through the law DyadMuls. -/
import Derived.Test.YthmmofllajkejaaGreatDoorLawD
namespace Go.Proofs.YthmmofllajkejaaGreatDoor
open Go.RowKit
-- umode
theorem short {most far : Int} {l : List NR} (h : longB most far l = false) : ∀ a ∈ l, (a.mag.size : Int) ≤ most ∧ -far ≤ a.e ∧ a.e ≤ far := fun a ha => by
  have := List.any_eq_false.1 h a ha
  simp only [decide_eq_true_eq, not_or] at this
  omega
theorem short_sz {most far : Nat} {a : NR} (h : (a.mag.size : Int) ≤ most ∧ -(far : Int) ≤ a.e ∧ a.e ≤ far) : Sz (8 * most + far) a.d := Sz.raw (m := 8 * most) (E := far) (by omega) h.2.1 h.2.2
end Go.Proofs.YthmmofllajkejaaGreatDoor
