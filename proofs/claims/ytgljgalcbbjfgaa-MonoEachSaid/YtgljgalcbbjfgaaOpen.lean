/- Arguments opened: slices. -/
import Derived.Test.YtgljgalcbbjfgaaLift
import Derived.Test.YtgljgalcbbjfgaaMonoF
namespace Go.Proofs.Ytgljgalcbbjfgaa
open Go.ChangeShapes Go.WideShapes Go.ChangeAt Go.RowKit Go.ChangeMaps
theorem open_i64s {H : Type} {enc : TypeId × Value → H} {P : Program} {t e : TypeId} {W : World} {r : Reach} {base b0 : Nat} {sp : Nat → Bool} {held : Bool} {v : Value} {d : DataW H} {ps : List MemPlace} (ht : P.underlying t = some (.slice e)) (he : P.underlying e = some (.int .i64)) (hc : P.cellsOf e = 1)
    (hval : Value.okWide P W r b0 t v) (hd : DataW.Trod enc P W base sp held t v d ps) : ∃ A n c xs, v = .slice A n c ∧ Sl W A n 1 (i64s xs) ∧ n ≤ maxLen ∧ ∀ x ∈ xs, (Lit.int .i64 x).wf = true := by
  obtain ⟨a, len, cap, rfl⟩ := okWide_slice ht hval
  obtain ⟨fuel, hf⟩ := hd
  rcases open_ints ht he hc hf with ⟨h1, _⟩ | ⟨ad, n, cp, zs, h1, _, h2, h3, h4, _, h5, h6⟩
  · simp only [Value.cells, List.cons.injEq, Value.slice.injEq, and_true] at h1
    obtain ⟨rfl, rfl, rfl⟩ := h1
    exact ⟨none, 0, 0, [], rfl, Sl.nil W none 1, by simp, fun _ h => by simp at h⟩
  · simp only [Value.cells, List.cons.injEq, Value.slice.injEq, and_true] at h1
    obtain ⟨rfl, rfl, rfl⟩ := h1
    have hzl : len ≤ zs.length := by rw [h4]; split <;> omega
    refine ⟨some ad, len, cap, zs.take len, rfl, ⟨by rw [length_i64s, List.length_take]; omega, fun _ => ⟨ad, rfl, fun j u hu => ?_⟩⟩, by omega, fun x hx => h6 x (List.mem_of_mem_take hx)⟩
    simp only [i64s, List.getElem?_map, Option.map_eq_some_iff] at hu
    obtain ⟨x, hx, rfl⟩ := hu
    rw [List.getElem?_take] at hx
    split at hx
    · obtain ⟨h7, h8⟩ := List.getElem?_eq_some_iff.1 hx
      have := h5 j h7
      rw [List.getD_eq_getElem?_getD, hx] at this
      exact this
    · cases hx
theorem open_kind {H : Type} {enc : TypeId × Value → H} {P : Program} {t e : TypeId} {W : World} {r : Reach} {base b0 : Nat} {sp : Nat → Bool} {held : Bool} {v : Value} {d : DataW H} {ps : List MemPlace} {k : IntKind} (ht : P.underlying t = some (.slice e)) (he : P.underlying e = some (.int k)) (hc : P.cellsOf e = 1)
    (hval : Value.okWide P W r b0 t v) (hd : DataW.Trod enc P W base sp held t v d ps) : ∃ (A : Option Addr) (n c : Nat) (xs : List Int), v = .slice A n c ∧ Sl W A n 1 (xs.map (Value.int k)) ∧ n ≤ maxLen ∧ ∀ x ∈ xs, (Lit.int k x).wf = true := by
  obtain ⟨a, len, cap, rfl⟩ := okWide_slice ht hval
  obtain ⟨fuel, hf⟩ := hd
  rcases open_ints ht he hc hf with ⟨h1, _⟩ | ⟨ad, n, cp, zs, h1, _, h2, h3, h4, _, h5, h6⟩
  · simp only [Value.cells, List.cons.injEq, Value.slice.injEq, and_true] at h1
    obtain ⟨rfl, rfl, rfl⟩ := h1
    exact ⟨none, 0, 0, [], rfl, Sl.nil W none 1, by simp, fun _ h => by simp at h⟩
  · simp only [Value.cells, List.cons.injEq, Value.slice.injEq, and_true] at h1
    obtain ⟨rfl, rfl, rfl⟩ := h1
    have hzl : len ≤ zs.length := by rw [h4]; split <;> omega
    refine ⟨some ad, len, cap, zs.take len, rfl, ⟨by rw [List.length_map, List.length_take]; omega, fun _ => ⟨ad, rfl, fun j u hu => ?_⟩⟩, by omega, fun x hx => h6 x (List.mem_of_mem_take hx)⟩
    simp only [List.getElem?_map, Option.map_eq_some_iff] at hu
    obtain ⟨x, hx, rfl⟩ := hu
    rw [List.getElem?_take] at hx
    split at hx
    · obtain ⟨h7, h8⟩ := List.getElem?_eq_some_iff.1 hx
      have := h5 j h7
      rw [List.getD_eq_getElem?_getD, hx] at this
      exact this
    · cases hx
theorem open_u8s {H : Type} {enc : TypeId × Value → H} {P : Program} {t e : TypeId} {W : World} {r : Reach} {base b0 : Nat} {sp : Nat → Bool} {held : Bool} {v : Value} {d : DataW H} {ps : List MemPlace} (ht : P.underlying t = some (.slice e)) (he : P.underlying e = some (.int .u8)) (hc : P.cellsOf e = 1)
    (hval : Value.okWide P W r b0 t v) (hd : DataW.Trod enc P W base sp held t v d ps) : ∃ A n c bs, v = .slice A n c ∧ Sl W A n 1 (u8s bs) ∧ n ≤ maxLen := by
  obtain ⟨A, n, c, xs, h1, h2, h3, h4⟩ := open_kind ht he hc hval hd
  refine ⟨A, n, c, xs.map toB, h1, ?_, h3⟩
  have : u8s (xs.map toB) = xs.map (Value.int .u8) := by
    rw [u8s, List.map_map]
    apply List.map_congr_left
    intro x hx
    have h5 := h4 x hx
    have h6 : 0 ≤ x ∧ x ≤ 255 := by
      simp only [Lit.wf, Bool.and_eq_true, decide_eq_true_eq] at h5
      have e1 : IntKind.u8.min = 0 := by decide
      have e2 : IntKind.u8.max = 255 := by decide
      omega
    simp only [Function.comp, toB, UInt8.toNat_ofNat']
    congr 1
    omega
  rw [this]
  exact h2
end Go.Proofs.Ytgljgalcbbjfgaa
