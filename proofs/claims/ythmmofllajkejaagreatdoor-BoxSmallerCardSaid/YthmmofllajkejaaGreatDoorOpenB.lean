/- Arguments opened: boxes, rows of ints. -/
import Derived.Test.YthmmofllajkejaaGreatDoorOpenR
import Derived.Test.YthmmofllajkejaaGreatDoorSpan
namespace Go.Proofs.YthmmofllajkejaaGreatDoor
open Go.ChangeShapes Go.WideShapes Go.ChangeAt Go.RowKit Go.ChangeMaps
set_option maxRecDepth 100000 in
theorem span_cells {H : Type} {enc : TypeId × Value → H} {W : World} {base fuel : Nat} {sp : Nat → Bool} {held : Bool} {cs : List Value} {x : DataW H × List MemPlace} (h : DataW.trod enc Tryz.prog W base sp held fuel 80 cs = some x) :
    ∃ a : SR, cs = a.cells ∧ True := by
  have c0 : Tryz.prog.cellsOf 80 = 6 := by kernel_rfl
  have c1 : Tryz.prog.cellsOf 25 = 3 := by kernel_rfl
  obtain ⟨y0, y1, n, _, hl, h0, h1⟩ := trod_struct2 Tryz.underlying80 h
  obtain ⟨a, e0, _⟩ := num_cells h0
  obtain ⟨b, e1, _⟩ := num_cells h1
  rw [c0] at hl
  match cs, hl with
  | [x0, x1, x2, x3, x4, x5], _ =>
    simp only [c1] at e0 e1
    simp [NR.cells] at e0 e1
    obtain ⟨rfl, rfl, rfl⟩ := e0
    obtain ⟨rfl, rfl, rfl⟩ := e1
    exact ⟨⟨a, b⟩, rfl, trivial⟩
set_option maxRecDepth 100000 in
theorem open_box {H : Type} {enc : TypeId × Value → H} {W : World} {r : Reach} {base b0 : Nat} {sp : Nat → Bool} {held : Bool} {v : Value} {d : DataW H} {ps : List MemPlace}
    (hval : Value.okWide Tryz.prog W r b0 51 v) (hd : DataW.Trod enc Tryz.prog W base sp held 51 v d ps) : ∃ (A : Option Addr) (n c : Nat) (l : List SR), v = .slice A n c ∧ Sl W A n 6 (recs SR.cells l) ∧ ∀ a ∈ l, True :=
  open_recs SR.len (by decide) Tryz.underlying51 (by kernel_rfl) (fun _ _ _ h => span_cells h) hval hd
set_option maxRecDepth 100000 in
theorem open_point {H : Type} {enc : TypeId × Value → H} {W : World} {r : Reach} {base b0 : Nat} {sp : Nat → Bool} {held : Bool} {v : Value} {d : DataW H} {ps : List MemPlace}
    (hval : Value.okWide Tryz.prog W r b0 53 v) (hd : DataW.Trod enc Tryz.prog W base sp held 53 v d ps) : ∃ (A : Option Addr) (n c : Nat) (l : List NR), v = .slice A n c ∧ Sl W A n 3 (recs NR.cells l) ∧ ∀ a ∈ l, (Lit.int .i64 a.e).wf = true :=
  open_recs NR.len (by decide) Tryz.underlying53 (by kernel_rfl) (fun _ _ _ h => num_cells h) hval hd
def IC (z : Int) : List Value := [.int .i64 z]
theorem IC.len (z : Int) : (IC z).length = 1 := rfl
theorem recs_ic (l : List Int) : recs IC l = i64s l := by
  induction l with
  | nil => rfl
  | cons z l ih => rw [recs_cons, ih]; rfl
set_option maxRecDepth 100000 in
theorem int_cells {H : Type} {enc : TypeId × Value → H} {W : World} {base fuel : Nat} {sp : Nat → Bool} {held : Bool} {cs : List Value} {x : DataW H × List MemPlace} (h : DataW.trod enc Tryz.prog W base sp held fuel 3 cs = some x) :
    ∃ z : Int, cs = IC z ∧ (Lit.int .i64 z).wf = true := by
  have c1 : Tryz.prog.cellsOf 3 = 1 := by kernel_rfl
  obtain ⟨z, e2, _, hz⟩ := DataW.trod_int Tryz.underlying3 h
  exact ⟨z, e2, hz⟩
set_option maxRecDepth 100000 in
theorem open_ints {H : Type} {enc : TypeId × Value → H} {W : World} {r : Reach} {base b0 : Nat} {sp : Nat → Bool} {held : Bool} {v : Value} {d : DataW H} {ps : List MemPlace}
    (hval : Value.okWide Tryz.prog W r b0 67 v) (hd : DataW.Trod enc Tryz.prog W base sp held 67 v d ps) : ∃ (A : Option Addr) (n c : Nat) (l : List Int), v = .slice A n c ∧ Sl W A n 1 (i64s l) ∧ ∀ z ∈ l, -9223372036854775808 ≤ z ∧ z ≤ 9223372036854775807 := by
  obtain ⟨A, n, c, l, h1, h2, h3⟩ := open_recs IC.len (by decide) Tryz.underlying67 (by kernel_rfl) (fun _ _ _ h => int_cells h) hval hd
  rw [recs_ic] at h2
  exact ⟨A, n, c, l, h1, h2, fun z hz => bounds_i64 (h3 z hz)⟩
end Go.Proofs.YthmmofllajkejaaGreatDoor
