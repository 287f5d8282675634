/- Arguments opened: rows of acts. -/
import Derived.Test.YthmmofllajkejaaGreatDoorOpenR
import Derived.Test.YthmmofllajkejaaGreatDoorHeapPlays
namespace Go.Proofs.YthmmofllajkejaaGreatDoor
open Go.ChangeShapes Go.WideShapes Go.ChangeAt Go.RowKit Go.ChangeMaps
set_option maxRecDepth 100000 in
theorem act_cells {H : Type} {enc : TypeId × Value → H} {W : World} {base fuel : Nat} {sp : Nat → Bool} {held : Bool} {cs : List Value} {x : DataW H × List MemPlace} (h : DataW.trod enc Tryz.prog W base sp held fuel 38 cs = some x) :
    ∃ a : AR, cs = a.cells ∧ True := by
  have c0 : Tryz.prog.cellsOf 38 = 5 := by kernel_rfl
  have c1 : Tryz.prog.cellsOf 25 = 3 := by kernel_rfl
  have c5 : Tryz.prog.cellsOf 3 = 1 := by kernel_rfl
  obtain ⟨y0, y1, y2, n, _, hl, h0, h1, h2⟩ := Go.Deep.trod_struct3 Tryz.underlying38 h
  obtain ⟨k, e0, _, _⟩ := DataW.trod_int Tryz.underlying3 h0
  obtain ⟨a, e1, _⟩ := num_cells h1
  obtain ⟨z, e2, _, _⟩ := DataW.trod_int Tryz.underlying3 h2
  rw [c0] at hl
  match cs, hl with
  | [x0, x1, x2, x3, x4], _ =>
    simp only [c1, c5] at e0 e1 e2
    simp [NR.cells] at e0 e1 e2
    obtain ⟨rfl, rfl, rfl⟩ := e1
    subst e0 e2
    exact ⟨⟨k, a, z⟩, rfl, trivial⟩
set_option maxRecDepth 100000 in
theorem open_acts {H : Type} {enc : TypeId × Value → H} {W : World} {r : Reach} {base b0 : Nat} {sp : Nat → Bool} {held : Bool} {v : Value} {d : DataW H} {ps : List MemPlace}
    (hval : Value.okWide Tryz.prog W r b0 35 v) (hd : DataW.Trod enc Tryz.prog W base sp held 35 v d ps) : ∃ (A : Option Addr) (n c : Nat) (l : List AR), v = .slice A n c ∧ Sl W A n 5 (recs AR.cells l) ∧ ∀ a ∈ l, True :=
  open_recs AR.len (by decide) Tryz.underlying35 (by kernel_rfl) (fun _ _ _ h => act_cells h) hval hd
end Go.Proofs.YthmmofllajkejaaGreatDoor
