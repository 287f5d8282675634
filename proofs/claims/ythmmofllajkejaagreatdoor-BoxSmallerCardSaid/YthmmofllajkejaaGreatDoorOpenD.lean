/- Arguments opened: dyadic numbers, rows of them; and what the listed table tells. -/
import Derived.Test.YthmmofllajkejaaGreatDoorLift
import Derived.Test.YthmmofllajkejaaGreatDoorLawD
import Derived.LaidMore
import Derived.Lay
import Derived.Deep.Slices
import Derived.Stop.Joined
namespace Go.Proofs.YthmmofllajkejaaGreatDoor
open Go.ChangeShapes Go.WideShapes Go.ChangeAt Go.RowKit Go.ChangeMaps
set_option maxRecDepth 100000 in
theorem num_cells {H : Type} {enc : TypeId × Value → H} {W : World} {base fuel : Nat} {sp : Nat → Bool} {held : Bool} {cs : List Value} {x : DataW H × List MemPlace} (h : DataW.trod enc Tryz.prog W base sp held fuel 25 cs = some x) :
    ∃ a : NR, cs = a.cells ∧ (Lit.int .i64 a.e).wf = true := by
  have c1 : Tryz.prog.cellsOf 25 = 3 := by kernel_rfl
  have c2 : Tryz.prog.cellsOf 23 = 2 := by kernel_rfl
  have c3 : Tryz.prog.cellsOf 4 = 1 := by kernel_rfl
  have c4 : Tryz.prog.cellsOf 9 = 1 := by kernel_rfl
  have c5 : Tryz.prog.cellsOf 3 = 1 := by kernel_rfl
  obtain ⟨y0, y1, n, _, hl, h0, h1⟩ := trod_struct2 Tryz.underlying25 h
  obtain ⟨z0, z1, n2, _, hl2, h00, h01⟩ := trod_struct2 Tryz.underlying23 h0
  obtain ⟨b, e0, _⟩ := DataW.trod_bool Tryz.underlying4 h00
  obtain ⟨s, e1, _, hs⟩ := DataW.trod_string Tryz.underlying9 h01
  obtain ⟨z, e2, _, hz⟩ := DataW.trod_int Tryz.underlying3 h1
  rw [c1] at hl
  match cs, hl with
  | [x0, x1, x2], _ =>
    simp only [c2, c3, c4, c5] at e0 e1 e2
    simp at e0 e1 e2
    subst e0 e1 e2
    exact ⟨⟨b, s, z⟩, rfl, hz⟩
set_option maxRecDepth 100000 in
theorem open_num {H : Type} {enc : TypeId × Value → H} {W : World} {r : Reach} {base b0 : Nat} {sp : Nat → Bool} {held : Bool} {v : Value} {d : DataW H} {ps : List MemPlace}
    (hval : Value.okWide Tryz.prog W r b0 25 v) (hd : DataW.Trod enc Tryz.prog W base sp held 25 v d ps) : ∃ a : NR, v = .agg #[.bool a.neg, .string a.mag, .int .i64 a.e] ∧ -9223372036854775808 ≤ a.e ∧ a.e ≤ 9223372036854775807 := by
  obtain ⟨cs, rfl, _⟩ := okWide_struct Tryz.underlying25 hval
  obtain ⟨fuel, hf⟩ := hd
  obtain ⟨a, h1, h2⟩ := num_cells hf
  refine ⟨a, ?_, bounds_i64 h2⟩
  have h3 : cs.toList = a.cells := h1
  rw [← Array.toList_inj.1 (show cs.toList = (#[.bool a.neg, .string a.mag, .int .i64 a.e] : Array Value).toList from h3)]
theorem list_of {p : Nat → NR → Prop} : ∀ (n : Nat), (∀ i, i < n → ∃ a, p i a) → ∃ l : List NR, l.length = n ∧ ∀ i a, l[i]? = some a → p i a
  | 0, _ => ⟨[], rfl, fun i a h => by simp at h⟩
  | n + 1, h => by
    obtain ⟨l, h1, h2⟩ := list_of n fun i hi => h i (by omega)
    obtain ⟨a, ha⟩ := h n (by omega)
    refine ⟨l ++ [a], by simp [h1], fun i b hb => ?_⟩
    rcases Nat.lt_or_ge i l.length with hi | hi
    · rw [List.getElem?_append_left hi] at hb
      exact h2 i b hb
    · rw [List.getElem?_append_right hi] at hb
      have h3 : i - l.length = 0 := by
        rcases Nat.eq_zero_or_pos (i - l.length) with h | h
        · exact h
        · rw [List.getElem?_eq_none (by simp; omega)] at hb; cases hb
      rw [h3] at hb
      simp only [List.getElem?_cons_zero, Option.some.injEq] at hb
      subst hb
      rw [show i = n by omega]
      exact ha
set_option maxRecDepth 100000 in
theorem open_nums {H : Type} {enc : TypeId × Value → H} {W : World} {r : Reach} {base b0 : Nat} {sp : Nat → Bool} {held : Bool} {v : Value} {d : DataW H} {ps : List MemPlace}
    (hval : Value.okWide Tryz.prog W r b0 52 v) (hd : DataW.Trod enc Tryz.prog W base sp held 52 v d ps) : ∃ (A : Option Addr) (n c : Nat) (l : List NR), v = .slice A n c ∧ Sl W A n 3 (recs NR.cells l) ∧ ∀ a ∈ l, -9223372036854775808 ≤ a.e ∧ a.e ≤ 9223372036854775807 := by
  have c1 : Tryz.prog.cellsOf 25 = 3 := by kernel_rfl
  obtain ⟨a, len, cap, rfl⟩ := okWide_slice Tryz.underlying52 hval
  obtain ⟨fuel, hf⟩ := hd
  rcases Go.Deep.open_slice Tryz.underlying52 hf with ⟨h1, _⟩ | ⟨ad, n, cp, m, k, D, Pl, h1, _, h2, h3, hm, _, h5⟩
  · have h1' : [Value.slice a len cap] = [.slice none 0 0] := h1
    simp only [List.cons.injEq, Value.slice.injEq, and_true] at h1'
    obtain ⟨rfl, rfl, rfl⟩ := h1'
    exact ⟨none, 0, 0, [], rfl, Sl.nil W none 3, fun _ h => by simp at h⟩
  · have h1' : [Value.slice a len cap] = [.slice (some ad) n cp] := h1
    simp only [List.cons.injEq, Value.slice.injEq, and_true] at h1'
    obtain ⟨rfl, rfl, rfl⟩ := h1'
    have hnm : len ≤ m := by rw [hm]; split <;> omega
    obtain ⟨l, hl, hp⟩ := list_of (p := fun i a => W.cells? base (ad.add (i * 3)) 3 = some a.cells ∧ (Lit.int .i64 a.e).wf = true) len fun i hi => by
      obtain ⟨cs, h6, h7⟩ := h5 i (by omega)
      rw [c1] at h6
      obtain ⟨a, rfl, h8⟩ := num_cells h7
      exact ⟨a, h6, h8⟩
    refine ⟨some ad, len, cap, l, rfl, ⟨by rw [recs_len NR.len, hl], fun _ => ⟨ad, rfl, fun j u hu => ?_⟩⟩, fun a ha => ?_⟩
    · have hj : j / 3 < l.length := by
        have := (List.getElem?_eq_some_iff.1 hu).1
        rw [recs_len NR.len] at this
        omega
      obtain ⟨x, hx⟩ := get_of_lt hj
      have h6 := recs_get NR.len hx
      have h7 : (x.cells)[j % 3]? = some u := by
        rw [← h6, List.getElem?_take, if_pos (by omega), List.getElem?_drop, show j / 3 * 3 + j % 3 = j by omega]
        exact hu
      have h8 := (World.cells?_some (hp _ _ hx).1).2.2 (j % 3) (by omega)
      rw [h7, addr_add_add, show j / 3 * 3 + j % 3 = j by omega] at h8
      exact h8
    · obtain ⟨i, hi⟩ := List.mem_iff_getElem?.1 ha
      exact bounds_i64 (hp i a hi).2
theorem tab_of_laid {W : World} (h : laidMetH Tryz.prog Rows.dyadOrderRow.laid W) : Tab W := by
  rw [MakeChecks.laidMetH_plain _ _ _ (by kernel_rfl)] at h
  obtain ⟨ps, ⟨g, t, cs, fuel, p, q, hg, ht, hv, hd, _, _⟩, _, _⟩ := h
  obtain rfl := Option.some.inj ((show Tryz.prog.globalNamed "math/bits.deBruijn64tab" = some 0 by kernel_rfl).symm.trans hg)
  obtain rfl := Option.some.inj ((show (Tryz.prog.globals[0]?).map (·.type) = some 167 by kernel_rfl).symm.trans ht)
  obtain ⟨xs, m, _, ex, _, hl, hel⟩ := DataW.trod_array Tryz.underlying167 hd
  have c5 : Tryz.prog.cellsOf 5 = 1 := by kernel_rfl
  have e3 : (xs.map (·.1)) = tabT.map fun n => .lit (.int .u8 n) := (DataW.agg.inj (Prod.mk.inj ex).1).symm
  have hlen : tabT.length = 64 := by decide
  intro r u hu
  have hr : r < 64 := by
    have := (List.getElem?_eq_some_iff.1 hu).1
    rw [length_u8n] at this
    omega
  have hE := hel r hr
  rw [c5, Nat.mul_one, List.getElem?_eq_getElem (by omega)] at hE
  obtain ⟨z, e1, e2, _⟩ := DataW.trod_int Tryz.underlying5 hE
  have e4 : (xs.map (·.1))[r]? = (tabT.map fun (n : Nat) => (DataW.lit (.int .u8 n) : DataW Unit))[r]? := by rw [e3]
  rw [List.getElem?_map, List.getElem?_map, List.getElem?_eq_getElem (by omega : r < xs.length), List.getElem?_eq_getElem (by omega : r < tabT.length), e2] at e4
  have hz : u = .int .u8 z := by
    rw [u8n, List.getElem?_map, List.getElem?_eq_getElem (by omega : r < tabT.length)] at hu
    simp only [Option.map_some, Option.some.injEq, DataW.lit.injEq, Lit.int.injEq, true_and] at e4 hu
    rw [← hu, e4]
  rw [addr_add, Nat.zero_add, World.var?_cell hg hv r, hz]
  have : cs.toList[r]? = some (.int .u8 z) := by
    have h0 : ((cs.toList.drop r).take 1)[0]? = some (.int .u8 z) := by rw [e1]; rfl
    simpa using h0
  simpa using this
end Go.Proofs.YthmmofllajkejaaGreatDoor
