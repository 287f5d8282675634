/- A region whose order is left open, order by order: for short ones, where a store may come ahead of a read. -/
import Derived.Test.YthmmofllajkejaaGreatDoorDraw
namespace Go.Proofs.YthmmofllajkejaaGreatDoor
open Go.RowKit
section
variable {P : Program} {N : Nat} {Q : Kq} {ρ : Rf} {w : World}
/-- What is left of a region, some of its operations being done. -/
structure WA (P : Program) (N : Nat) (ops : Array Oper) (Q : Kq) (fuel : Nat) (L : Array Bool) (ρ : Rf) (w : World) : Prop where
  out : ∀ a, Fits N a ρ → wpAny P .any ops (lift N Q) fuel L a w
theorem upon_thenK {o : Oper} {a : Act} {next : Rf → World → Prop} {K : Act → World → Prop} {r : Result Next} (h : o.upon P a K (lift N (thenK next Q)) r) : o.upon P a K (lift N Q) r := by
  have hp : ∀ c a w, lift N (thenK next Q) (.panic c) a w → lift N Q (.panic c) a w := fun _ _ _ h => h
  have ho : LetsOut (lift N (thenK next Q)) → LetsOut (lift N Q) := fun ⟨a, w, h⟩ => ⟨a, w, h⟩
  cases r with
  | ok n w' =>
    cases n <;> simp only [Oper.upon] at h ⊢ <;> first
      | exact h
      | exact Calls.mono h (fun e w'' he => by cases e <;> first | exact he | exact hp _ _ _ he | exact ho he)
  | halt x w' => cases x <;> simp only [Oper.upon] at h ⊢ <;> first | exact h | exact hp _ _ _ h | exact ho h
theorem wa_step {ops : Array Oper} {fuel : Nat} {L : Array Bool} {rs : List Nat} (hr : Region.ready .any ops L = rs) (hne : rs ≠ [])
    (h : ∀ i ∈ rs, ∃ o, ops[i]? = some o ∧ WL P N ops (thenK (fun ρ w => WA P N ops Q fuel (L.setIfInBounds i true) ρ w) Q) [o] ρ w) : WA P N ops Q (fuel + 1) L ρ w := by
  refine ⟨fun a hf => wpAny_all hr hne fun i hi => ?_⟩
  obtain ⟨o, ho, hw⟩ := h i hi
  have h1 := hw.out a hf
  have hK : ∀ a w, wpList P ops (lift N (thenK (fun ρ w => WA P N ops Q fuel (L.setIfInBounds i true) ρ w) Q)) [] a w → wpAny P .any ops (lift N Q) fuel (L.setIfInBounds i true) a w := fun a w ⟨ρ', hf', hq⟩ => by
    have hq' : WA P N ops Q fuel (L.setIfInBounds i true) ρ' w := hq
    exact hq'.out a hf'
  unfold wpOp
  rw [ho]
  simp only []
  unfold wpList at h1
  split at h1
  · rename_i hwt
    rw [if_pos hwt]
    refine h1.imp (fun h2 => Oper.wp_mono hK ?_) (fun h2 => ⟨h2.1, ?_⟩)
    · unfold Oper.wp at h2 ⊢
      exact upon_thenK h2
    · obtain ⟨a', w', h3⟩ := h2.2
      exact ⟨a', w', h3⟩
  · rename_i hwt
    rw [if_neg hwt]
    exact hK _ _ h1
theorem wa_one {ops : Array Oper} {fuel : Nat} {L : Array Bool} {i : Nat} {o : Oper} (hr : Region.ready .any ops L = [i]) (ho : ops[i]? = some o)
    (h : WL P N ops (thenK (fun ρ w => WA P N ops Q fuel (L.setIfInBounds i true) ρ w) Q) [o] ρ w) : WA P N ops Q (fuel + 1) L ρ w :=
  wa_step hr (by simp) fun j hj => by
    obtain rfl : j = i := by simpa using hj
    exact ⟨o, ho, h⟩
theorem wa_two {ops : Array Oper} {fuel : Nat} {L : Array Bool} {i i2 : Nat} {o o2 : Oper} (hr : Region.ready .any ops L = [i, i2]) (ho : ops[i]? = some o) (ho2 : ops[i2]? = some o2)
    (h : WL P N ops (thenK (fun ρ w => WA P N ops Q fuel (L.setIfInBounds i true) ρ w) Q) [o] ρ w)
    (h2 : WL P N ops (thenK (fun ρ w => WA P N ops Q fuel (L.setIfInBounds i2 true) ρ w) Q) [o2] ρ w) : WA P N ops Q (fuel + 1) L ρ w :=
  wa_step hr (by simp) fun j hj => by
    rcases List.mem_cons.1 hj with rfl | hj
    · exact ⟨o, ho, h⟩
    · obtain rfl : j = i2 := by simpa using hj
      exact ⟨o2, ho2, h2⟩
theorem wl_wa {ops : Array Oper} {fuel : Nat} {L : Array Bool} (h : WA P N ops Q fuel L ρ w) : WL P N ops (thenK (fun ρ w => WA P N ops Q fuel L ρ w) Q) [] ρ w :=
  ⟨fun _ hf => ⟨ρ, hf, h⟩⟩
theorem wa_tail {l : List Oper} {fuel : Nat} {L : Array Bool} (m : Nat) (hm : m ≤ l.length) (hL : L = upTo l.length m) (hf : l.length ≤ fuel + m)
    (hr : ((List.range (l.length - m)).all fun k => Region.ready .any l.toArray (upTo l.length (m + k)) == [m + k]) = true) (hend : Region.ready .any l.toArray (upTo l.length l.length) = [])
    (h : WL P N l.toArray Q (l.drop m) ρ w) : WA P N l.toArray Q fuel L ρ w :=
  ⟨fun a hfits => by
    rw [hL]
    refine tail_any m (fun k h1 h2 => ?_) hend fuel m a w (Nat.le_refl _) hm hf (h.out a hfits)
    have h3 := List.all_eq_true.1 hr (k - m) (by simp; omega)
    rw [show m + (k - m) = k by omega] at h3
    exact eq_of_beq h3⟩
theorem wc_tree {id : Nat} {l : List Oper} {w0 : World} {H : List HE} (hh : Hp w0 H w) (hm : P.follows .mixedOrders = true) (h : ∀ w', JJ w0 H w w' → WA P N l.toArray Q l.length (Array.replicate l.length false) ρ w') : WC P N (.region id l.toArray true) Q ρ w := by
  refine ⟨fun a hf => wp_region_any hm ?_⟩
  have hb : Below w.heap.size w ({ w with drawn := w.drawn + 1 } : World) := ⟨rfl, rfl, rfl, Nat.le_refl _, fun _ _ => rfl⟩
  have := (h _ ((JJ.start hh).ext hb)).out a hf
  simpa using this
end
end Go.Proofs.YthmmofllajkejaaGreatDoor
