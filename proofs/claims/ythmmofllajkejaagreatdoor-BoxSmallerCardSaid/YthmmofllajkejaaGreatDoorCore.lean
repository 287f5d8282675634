/- Several texts in one: Vc, Ops, Mem, Mem2, Mem3, OpsU, Steps. -/
import Derived.WalkKit
import Derived.WalkLawsBesides
import Derived.Below
import Derived.Laws.OwnMore
import Derived.Laws.Rows
import Derived.RegionTactic
import Derived.Deep.AppendLies
import Derived.Maps.AppendAt
import Derived.OwnWalk
/- A small calculus over the model's operations: register files as functions; one rule for each construct. Plain lemmas, no program in sight. -/
namespace Go.Proofs.YthmmofllajkejaaGreatDoor
open Go.RowKit

abbrev Rf := Nat → Value
def upd (ρ : Rf) (d : Nat) (v : Value) : Rf := fun i => bif Nat.beq i d then v else ρ i
def ev (ρ : Rf) : Operand → Value
  | .tmp t => ρ t
  | .const v => v
  | .global g => .pointer (some ⟨g, 0, none⟩)
  | .func f => .func (.func f) #[] #[]
structure Fits (N : Nat) (a : Act) (ρ : Rf) : Prop where
  nd : a.defers = []
  sz : a.tmps.size = N
  at_ : ∀ i, a.tmps.getD i undef = ρ i
theorem Fits.eval {N : Nat} {a : Act} {ρ : Rf} (h : Fits N a ρ) : a.eval = ev ρ := by
  funext x
  cases x with
  | tmp t => exact h.at_ t
  | _ => rfl
theorem upd_same (ρ : Rf) (d : Nat) (v : Value) : upd ρ d v d = v := by simp [upd]
theorem upd_other (ρ : Rf) {d i : Nat} (h : i ≠ d) (v : Value) : upd ρ d v i = ρ i := by
  have hb : Nat.beq i d = false := by
    cases hb : Nat.beq i d
    · rfl
    · exact absurd (Nat.eq_of_beq_eq_true hb) h
  simp only [upd, hb, cond_false]
theorem Fits.put {N : Nat} {a : Act} {ρ : Rf} (h : Fits N a ρ) {d : Nat} (hd : d < N) (v : Value) : Fits N (a.put (some d) v) (upd ρ d v) := by
  refine ⟨h.nd, by simp [Act.put, h.sz], fun i => ?_⟩
  by_cases hi : i = d
  · subst hi
    rw [upd_same]
    simp [Act.put, h.sz, hd]
  · rw [upd_other ρ hi, ← h.at_ i]
    have : d ≠ i := fun e => hi e.symm
    simp [Act.put, Array.getElem?_setIfInBounds_ne this]
abbrev Kq := Exit → Rf → World → Prop
def lift (N : Nat) (Q : Kq) : Exit → Act → World → Prop := fun e a w => ∃ ρ, Fits N a ρ ∧ Q e ρ w
structure WC (P : Program) (N : Nat) (c : Code) (Q : Kq) (ρ : Rf) (w : World) : Prop where
  out : ∀ a, Fits N a ρ → c.wp P (lift N Q) a w
structure WL (P : Program) (N : Nat) (ops : Array Oper) (Q : Kq) (l : List Oper) (ρ : Rf) (w : World) : Prop where
  out : ∀ a, Fits N a ρ → wpList P ops (lift N Q) l a w
def thenK (next : Rf → World → Prop) (Q : Kq) : Kq
  | .normal, ρ, w => next ρ w
  | e, ρ, w => Q e ρ w
def blkK (id : Nat) (Q : Kq) : Kq
  | .exit id', ρ, w => if id' = id then Q .normal ρ w else Q (.exit id') ρ w
  | e, ρ, w => Q e ρ w

section code
variable {P : Program} {N : Nat} {Q : Kq} {ρ : Rf} {w : World}
theorem lift_mono {Q Q' : Kq} (h : ∀ e ρ w, Q e ρ w → Q' e ρ w) (e : Exit) (a : Act) (w : World) : lift N Q e a w → lift N Q' e a w :=
  fun ⟨ρ, hf, hq⟩ => ⟨ρ, hf, h _ _ _ hq⟩
theorem WC.mono {c : Code} {Q' : Kq} (h : WC P N c Q ρ w) (hq : ∀ e ρ w, Q e ρ w → Q' e ρ w) : WC P N c Q' ρ w :=
  ⟨fun a hf => wp_mono (h.out a hf) (lift_mono hq)⟩
theorem wc_seq {x y : Code} (h : WC P N x (thenK (fun ρ w => WC P N y Q ρ w) Q) ρ w) : WC P N (.seq x y) Q ρ w :=
  ⟨fun a hf => wp_seq (wp_mono (h.out a hf) fun e a' w' ⟨ρ', hf', hq⟩ => by
    cases e with
    | normal => exact hq.out a' hf'
    | _ => exact ⟨ρ', hf', hq⟩)⟩
theorem wc_skip (h : Q .normal ρ w) : WC P N .skip Q ρ w := ⟨fun _ hf => wp_skip ⟨ρ, hf, h⟩⟩
theorem wc_ret (h : Q .ret ρ w) : WC P N .ret Q ρ w := ⟨fun _ hf => wp_ret ⟨ρ, hf, h⟩⟩
theorem wc_exit {id : Nat} (h : Q (.exit id) ρ w) : WC P N (.exit id) Q ρ w := ⟨fun _ hf => wp_exit ⟨ρ, hf, h⟩⟩
theorem wc_label {l : Nat} (h : Q .normal ρ w) : WC P N (.label l) Q ρ w := ⟨fun _ hf => wp_label ⟨ρ, hf, h⟩⟩
theorem wc_block {id : Nat} {c : Code} (h : WC P N c (blkK id Q) ρ w) : WC P N (.block id c) Q ρ w :=
  ⟨fun a hf => wp_block (wp_mono (h.out a hf) fun e a' w' ⟨ρ', hf', hq⟩ => by
    cases e with
    | exit id' =>
      by_cases hid : id' = id
      · simp only [blkK, hid, if_true] at hq
        simp only [Exit.inBlock, hid, if_true]
        exact ⟨ρ', hf', hq⟩
      · simp only [blkK, hid, if_false] at hq
        simp only [Exit.inBlock, hid, if_false]
        exact ⟨ρ', hf', hq⟩
    | _ => exact ⟨ρ', hf', hq⟩)⟩
theorem wc_cond_t {c : Operand} {x y : Code} (hc : ev ρ c = .bool true) (h : WC P N x Q ρ w) : WC P N (.cond c x y) Q ρ w :=
  ⟨fun a hf => wp_cond_true (by rw [hf.eval]; exact hc) (h.out a hf)⟩
theorem wc_cond_f {c : Operand} {x y : Code} (hc : ev ρ c = .bool false) (h : WC P N y Q ρ w) : WC P N (.cond c x y) Q ρ w :=
  ⟨fun a hf => wp_cond_false (by rw [hf.eval]; exact hc) (h.out a hf)⟩
theorem wc_split {c : Operand} {b : Bool} {x y : Code} (hc : ev ρ c = .bool b) (ht : b = true → WC P N x Q ρ w) (hf : b = false → WC P N y Q ρ w) : WC P N (.cond c x y) Q ρ w := by
  cases b with
  | true => exact wc_cond_t hc (ht rfl)
  | false => exact wc_cond_f hc (hf rfl)
theorem wc_region {id : Nat} {l : List Oper} (h : WL P N l.toArray Q l ρ w) : WC P N (.region id l.toArray false) Q ρ w :=
  ⟨fun a hf => wp_region_lit (h.out a hf)⟩
/-- thenK, blkK at a literal exit. -/
theorem k_then {next : Rf → World → Prop} (h : next ρ w) : thenK next Q .normal ρ w := h
theorem k_ret {next : Rf → World → Prop} (h : Q .ret ρ w) : thenK next Q .ret ρ w := h
theorem k_exit {next : Rf → World → Prop} {id : Nat} (h : Q (.exit id) ρ w) : thenK next Q (.exit id) ρ w := h
theorem b_norm {id : Nat} (h : Q .normal ρ w) : blkK id Q .normal ρ w := h
theorem b_ret {id : Nat} (h : Q .ret ρ w) : blkK id Q .ret ρ w := h
theorem b_here {id : Nat} (h : Q .normal ρ w) : blkK id Q (.exit id) ρ w := by simpa [blkK] using h
theorem b_past {id id' : Nat} (hne : id' ≠ id) (h : Q (.exit id') ρ w) : blkK id Q (.exit id') ρ w := by simpa [blkK, hne] using h

/-- A loop: what holds at its head, over the slots that its body may write ('mods'); the others stay. -/
def mask (mods : List Nat) (ρ' ρ : Rf) : Rf := fun i => bif mods.contains i then ρ' i else ρ i
def Agree (mods : List Nat) (ρ1 ρ : Rf) : Prop := ∀ i, mods.contains i = false → ρ1 i = ρ i
theorem agree_mask (mods : List Nat) (ρ' ρ : Rf) : Agree mods (mask mods ρ' ρ) ρ := fun i hi => by simp only [mask, hi, cond_false]
theorem agree_upd {mods : List Nat} {ρ1 ρ : Rf} {d : Nat} {v : Value} (hd : mods.contains d = true) (h : Agree mods ρ1 ρ) : Agree mods (upd ρ1 d v) ρ := fun i hi => by
  rw [upd_other ρ1 (fun e => by rw [e, hd] at hi; cases hi)]
  exact h i hi
theorem agree_mask2 {mods mods2 : List Nat} {ρ' ρ1 ρ : Rf} (hm : (mods2.all fun i => mods.contains i) = true) (h : Agree mods ρ1 ρ) : Agree mods (mask mods2 ρ' ρ1) ρ := fun i hi => by
  have h2 : mods2.contains i = false := by
    cases hc : mods2.contains i with
    | false => rfl
    | true =>
      have := List.all_eq_true.1 hm i (by simpa using hc)
      rw [this] at hi; cases hi
  simp only [mask, h2, cond_false]
  exact h i hi
theorem mask_self {mods : List Nat} {ρ1 ρ : Rf} (h : Agree mods ρ1 ρ) : mask mods ρ1 ρ = ρ1 := by
  funext i
  simp only [mask]
  cases hc : mods.contains i with
  | true => rfl
  | false => simpa using (h i hc).symm
theorem upd_self (ρ : Rf) (d : Nat) : upd ρ d (ρ d) = ρ := by
  funext i
  by_cases h : i = d
  · subst h; rw [upd_same]
  · rw [upd_other ρ h]
theorem wc_loop {c : Code} (I : Rf → World → Prop) (μ : Rf → World → Nat) (h0 : I ρ w)
    (round : ∀ ρ w, I ρ w → WC P N c (thenK (fun ρ' w' => I ρ' w' ∧ μ ρ' w' < μ ρ w) Q) ρ w) : WC P N (.loop c) Q ρ w := by
  refine ⟨fun a hf => ?_⟩
  refine wp_loop (fun a w => ∃ ρ, Fits N a ρ ∧ I ρ w) (fun a w => μ (fun i => a.tmps.getD i undef) w) ⟨ρ, hf, h0⟩ ?_
  rintro a w ⟨ρ, hf, hi⟩
  refine wp_mono ((round ρ w hi).out a hf) ?_
  rintro e a' w' ⟨ρ', hf', hq⟩
  have e1 : (fun i => a.tmps.getD i undef) = ρ := funext hf.at_
  have e2 : (fun i => a'.tmps.getD i undef) = ρ' := funext hf'.at_
  cases e with
  | normal => exact ⟨⟨ρ', hf', hq.1⟩, by rw [e1, e2]; exact hq.2⟩
  | _ => exact ⟨ρ', hf', hq⟩
theorem wc_loop0 {c : Code} (mods : List Nat) (I : World → Prop) (μ : World → Nat) (h0 : I  w)
    (round : ∀ ρ' w', I  w' → WC P N c (thenK (fun ρ2 w2 => I  w2 ∧ μ  w2 < μ  w' ∧ Agree mods ρ2 ρ) Q) (mask mods ρ' ρ) w') : WC P N (.loop c) Q ρ w :=
  wc_loop (fun ρ1 w1 => I  w1 ∧ Agree mods ρ1 ρ) (fun ρ1 w1 => μ  w1) ⟨h0, fun _ _ => rfl⟩ fun ρ1 w1 ⟨hi, ha⟩ => by
    have h := round ρ1  w1 hi
    rw [mask_self ha] at h
    exact h.mono fun e ρ2 w2 hq => by
      cases e with
      | normal => exact ⟨⟨hq.1, hq.2.2⟩, hq.2.1⟩
      | _ => exact hq
theorem wc_loop1 {c : Code} (mods : List Nat) (s0 : Nat) (I : Value → World → Prop) (μ : Value → World → Nat) (h0 : I (ρ s0) w)
    (round : ∀ ρ' v0 w', I v0 w' → WC P N c (thenK (fun ρ2 w2 => I (ρ2 s0) w2 ∧ μ (ρ2 s0) w2 < μ v0 w' ∧ Agree mods ρ2 ρ) Q) (upd (mask mods ρ' ρ) s0 v0) w') : WC P N (.loop c) Q ρ w :=
  wc_loop (fun ρ1 w1 => I (ρ1 s0) w1 ∧ Agree mods ρ1 ρ) (fun ρ1 w1 => μ (ρ1 s0) w1) ⟨h0, fun _ _ => rfl⟩ fun ρ1 w1 ⟨hi, ha⟩ => by
    have h := round ρ1 (ρ1 s0) w1 hi
    rw [mask_self ha, upd_self] at h
    exact h.mono fun e ρ2 w2 hq => by
      cases e with
      | normal => exact ⟨⟨hq.1, hq.2.2⟩, hq.2.1⟩
      | _ => exact hq
theorem wc_loop2 {c : Code} (mods : List Nat) (s0 s1 : Nat) (I : Value → Value → World → Prop) (μ : Value → Value → World → Nat) (h0 : I (ρ s0) (ρ s1) w)
    (round : ∀ ρ' v0 v1 w', I v0 v1 w' → WC P N c (thenK (fun ρ2 w2 => I (ρ2 s0) (ρ2 s1) w2 ∧ μ (ρ2 s0) (ρ2 s1) w2 < μ v0 v1 w' ∧ Agree mods ρ2 ρ) Q) (upd (upd (mask mods ρ' ρ) s0 v0) s1 v1) w') : WC P N (.loop c) Q ρ w :=
  wc_loop (fun ρ1 w1 => I (ρ1 s0) (ρ1 s1) w1 ∧ Agree mods ρ1 ρ) (fun ρ1 w1 => μ (ρ1 s0) (ρ1 s1) w1) ⟨h0, fun _ _ => rfl⟩ fun ρ1 w1 ⟨hi, ha⟩ => by
    have h := round ρ1 (ρ1 s0) (ρ1 s1) w1 hi
    rw [mask_self ha, upd_self, upd_self] at h
    exact h.mono fun e ρ2 w2 hq => by
      cases e with
      | normal => exact ⟨⟨hq.1, hq.2.2⟩, hq.2.1⟩
      | _ => exact hq
theorem wc_loop3 {c : Code} (mods : List Nat) (s0 s1 s2 : Nat) (I : Value → Value → Value → World → Prop) (μ : Value → Value → Value → World → Nat) (h0 : I (ρ s0) (ρ s1) (ρ s2) w)
    (round : ∀ ρ' v0 v1 v2 w', I v0 v1 v2 w' → WC P N c (thenK (fun ρ2 w2 => I (ρ2 s0) (ρ2 s1) (ρ2 s2) w2 ∧ μ (ρ2 s0) (ρ2 s1) (ρ2 s2) w2 < μ v0 v1 v2 w' ∧ Agree mods ρ2 ρ) Q) (upd (upd (upd (mask mods ρ' ρ) s0 v0) s1 v1) s2 v2) w') : WC P N (.loop c) Q ρ w :=
  wc_loop (fun ρ1 w1 => I (ρ1 s0) (ρ1 s1) (ρ1 s2) w1 ∧ Agree mods ρ1 ρ) (fun ρ1 w1 => μ (ρ1 s0) (ρ1 s1) (ρ1 s2) w1) ⟨h0, fun _ _ => rfl⟩ fun ρ1 w1 ⟨hi, ha⟩ => by
    have h := round ρ1 (ρ1 s0) (ρ1 s1) (ρ1 s2) w1 hi
    rw [mask_self ha, upd_self, upd_self, upd_self] at h
    exact h.mono fun e ρ2 w2 hq => by
      cases e with
      | normal => exact ⟨⟨hq.1, hq.2.2⟩, hq.2.1⟩
      | _ => exact hq
theorem wc_loop4 {c : Code} (mods : List Nat) (s0 s1 s2 s3 : Nat) (I : Value → Value → Value → Value → World → Prop) (μ : Value → Value → Value → Value → World → Nat) (h0 : I (ρ s0) (ρ s1) (ρ s2) (ρ s3) w)
    (round : ∀ ρ' v0 v1 v2 v3 w', I v0 v1 v2 v3 w' → WC P N c (thenK (fun ρ2 w2 => I (ρ2 s0) (ρ2 s1) (ρ2 s2) (ρ2 s3) w2 ∧ μ (ρ2 s0) (ρ2 s1) (ρ2 s2) (ρ2 s3) w2 < μ v0 v1 v2 v3 w' ∧ Agree mods ρ2 ρ) Q) (upd (upd (upd (upd (mask mods ρ' ρ) s0 v0) s1 v1) s2 v2) s3 v3) w') : WC P N (.loop c) Q ρ w :=
  wc_loop (fun ρ1 w1 => I (ρ1 s0) (ρ1 s1) (ρ1 s2) (ρ1 s3) w1 ∧ Agree mods ρ1 ρ) (fun ρ1 w1 => μ (ρ1 s0) (ρ1 s1) (ρ1 s2) (ρ1 s3) w1) ⟨h0, fun _ _ => rfl⟩ fun ρ1 w1 ⟨hi, ha⟩ => by
    have h := round ρ1 (ρ1 s0) (ρ1 s1) (ρ1 s2) (ρ1 s3) w1 hi
    rw [mask_self ha, upd_self, upd_self, upd_self, upd_self] at h
    exact h.mono fun e ρ2 w2 hq => by
      cases e with
      | normal => exact ⟨⟨hq.1, hq.2.2⟩, hq.2.1⟩
      | _ => exact hq
theorem wc_loop5 {c : Code} (mods : List Nat) (s0 s1 s2 s3 s4 : Nat) (I : Value → Value → Value → Value → Value → World → Prop) (μ : Value → Value → Value → Value → Value → World → Nat) (h0 : I (ρ s0) (ρ s1) (ρ s2) (ρ s3) (ρ s4) w)
    (round : ∀ ρ' v0 v1 v2 v3 v4 w', I v0 v1 v2 v3 v4 w' → WC P N c (thenK (fun ρ2 w2 => I (ρ2 s0) (ρ2 s1) (ρ2 s2) (ρ2 s3) (ρ2 s4) w2 ∧ μ (ρ2 s0) (ρ2 s1) (ρ2 s2) (ρ2 s3) (ρ2 s4) w2 < μ v0 v1 v2 v3 v4 w' ∧ Agree mods ρ2 ρ) Q) (upd (upd (upd (upd (upd (mask mods ρ' ρ) s0 v0) s1 v1) s2 v2) s3 v3) s4 v4) w') : WC P N (.loop c) Q ρ w :=
  wc_loop (fun ρ1 w1 => I (ρ1 s0) (ρ1 s1) (ρ1 s2) (ρ1 s3) (ρ1 s4) w1 ∧ Agree mods ρ1 ρ) (fun ρ1 w1 => μ (ρ1 s0) (ρ1 s1) (ρ1 s2) (ρ1 s3) (ρ1 s4) w1) ⟨h0, fun _ _ => rfl⟩ fun ρ1 w1 ⟨hi, ha⟩ => by
    have h := round ρ1 (ρ1 s0) (ρ1 s1) (ρ1 s2) (ρ1 s3) (ρ1 s4) w1 hi
    rw [mask_self ha, upd_self, upd_self, upd_self, upd_self, upd_self] at h
    exact h.mono fun e ρ2 w2 hq => by
      cases e with
      | normal => exact ⟨⟨hq.1, hq.2.2⟩, hq.2.1⟩
      | _ => exact hq
theorem wc_loop6 {c : Code} (mods : List Nat) (s0 s1 s2 s3 s4 s5 : Nat) (I : Value → Value → Value → Value → Value → Value → World → Prop) (μ : Value → Value → Value → Value → Value → Value → World → Nat) (h0 : I (ρ s0) (ρ s1) (ρ s2) (ρ s3) (ρ s4) (ρ s5) w)
    (round : ∀ ρ' v0 v1 v2 v3 v4 v5 w', I v0 v1 v2 v3 v4 v5 w' → WC P N c (thenK (fun ρ2 w2 => I (ρ2 s0) (ρ2 s1) (ρ2 s2) (ρ2 s3) (ρ2 s4) (ρ2 s5) w2 ∧ μ (ρ2 s0) (ρ2 s1) (ρ2 s2) (ρ2 s3) (ρ2 s4) (ρ2 s5) w2 < μ v0 v1 v2 v3 v4 v5 w' ∧ Agree mods ρ2 ρ) Q) (upd (upd (upd (upd (upd (upd (mask mods ρ' ρ) s0 v0) s1 v1) s2 v2) s3 v3) s4 v4) s5 v5) w') : WC P N (.loop c) Q ρ w :=
  wc_loop (fun ρ1 w1 => I (ρ1 s0) (ρ1 s1) (ρ1 s2) (ρ1 s3) (ρ1 s4) (ρ1 s5) w1 ∧ Agree mods ρ1 ρ) (fun ρ1 w1 => μ (ρ1 s0) (ρ1 s1) (ρ1 s2) (ρ1 s3) (ρ1 s4) (ρ1 s5) w1) ⟨h0, fun _ _ => rfl⟩ fun ρ1 w1 ⟨hi, ha⟩ => by
    have h := round ρ1 (ρ1 s0) (ρ1 s1) (ρ1 s2) (ρ1 s3) (ρ1 s4) (ρ1 s5) w1 hi
    rw [mask_self ha, upd_self, upd_self, upd_self, upd_self, upd_self, upd_self] at h
    exact h.mono fun e ρ2 w2 hq => by
      cases e with
      | normal => exact ⟨⟨hq.1, hq.2.2⟩, hq.2.1⟩
      | _ => exact hq
theorem wc_loop7 {c : Code} (mods : List Nat) (s0 s1 s2 s3 s4 s5 s6 : Nat) (I : Value → Value → Value → Value → Value → Value → Value → World → Prop) (μ : Value → Value → Value → Value → Value → Value → Value → World → Nat) (h0 : I (ρ s0) (ρ s1) (ρ s2) (ρ s3) (ρ s4) (ρ s5) (ρ s6) w)
    (round : ∀ ρ' v0 v1 v2 v3 v4 v5 v6 w', I v0 v1 v2 v3 v4 v5 v6 w' → WC P N c (thenK (fun ρ2 w2 => I (ρ2 s0) (ρ2 s1) (ρ2 s2) (ρ2 s3) (ρ2 s4) (ρ2 s5) (ρ2 s6) w2 ∧ μ (ρ2 s0) (ρ2 s1) (ρ2 s2) (ρ2 s3) (ρ2 s4) (ρ2 s5) (ρ2 s6) w2 < μ v0 v1 v2 v3 v4 v5 v6 w' ∧ Agree mods ρ2 ρ) Q) (upd (upd (upd (upd (upd (upd (upd (mask mods ρ' ρ) s0 v0) s1 v1) s2 v2) s3 v3) s4 v4) s5 v5) s6 v6) w') : WC P N (.loop c) Q ρ w :=
  wc_loop (fun ρ1 w1 => I (ρ1 s0) (ρ1 s1) (ρ1 s2) (ρ1 s3) (ρ1 s4) (ρ1 s5) (ρ1 s6) w1 ∧ Agree mods ρ1 ρ) (fun ρ1 w1 => μ (ρ1 s0) (ρ1 s1) (ρ1 s2) (ρ1 s3) (ρ1 s4) (ρ1 s5) (ρ1 s6) w1) ⟨h0, fun _ _ => rfl⟩ fun ρ1 w1 ⟨hi, ha⟩ => by
    have h := round ρ1 (ρ1 s0) (ρ1 s1) (ρ1 s2) (ρ1 s3) (ρ1 s4) (ρ1 s5) (ρ1 s6) w1 hi
    rw [mask_self ha, upd_self, upd_self, upd_self, upd_self, upd_self, upd_self, upd_self] at h
    exact h.mono fun e ρ2 w2 hq => by
      cases e with
      | normal => exact ⟨⟨hq.1, hq.2.2⟩, hq.2.1⟩
      | _ => exact hq
theorem wc_loop8 {c : Code} (mods : List Nat) (s0 s1 s2 s3 s4 s5 s6 s7 : Nat) (I : Value → Value → Value → Value → Value → Value → Value → Value → World → Prop) (μ : Value → Value → Value → Value → Value → Value → Value → Value → World → Nat) (h0 : I (ρ s0) (ρ s1) (ρ s2) (ρ s3) (ρ s4) (ρ s5) (ρ s6) (ρ s7) w)
    (round : ∀ ρ' v0 v1 v2 v3 v4 v5 v6 v7 w', I v0 v1 v2 v3 v4 v5 v6 v7 w' → WC P N c (thenK (fun ρ2 w2 => I (ρ2 s0) (ρ2 s1) (ρ2 s2) (ρ2 s3) (ρ2 s4) (ρ2 s5) (ρ2 s6) (ρ2 s7) w2 ∧ μ (ρ2 s0) (ρ2 s1) (ρ2 s2) (ρ2 s3) (ρ2 s4) (ρ2 s5) (ρ2 s6) (ρ2 s7) w2 < μ v0 v1 v2 v3 v4 v5 v6 v7 w' ∧ Agree mods ρ2 ρ) Q) (upd (upd (upd (upd (upd (upd (upd (upd (mask mods ρ' ρ) s0 v0) s1 v1) s2 v2) s3 v3) s4 v4) s5 v5) s6 v6) s7 v7) w') : WC P N (.loop c) Q ρ w :=
  wc_loop (fun ρ1 w1 => I (ρ1 s0) (ρ1 s1) (ρ1 s2) (ρ1 s3) (ρ1 s4) (ρ1 s5) (ρ1 s6) (ρ1 s7) w1 ∧ Agree mods ρ1 ρ) (fun ρ1 w1 => μ (ρ1 s0) (ρ1 s1) (ρ1 s2) (ρ1 s3) (ρ1 s4) (ρ1 s5) (ρ1 s6) (ρ1 s7) w1) ⟨h0, fun _ _ => rfl⟩ fun ρ1 w1 ⟨hi, ha⟩ => by
    have h := round ρ1 (ρ1 s0) (ρ1 s1) (ρ1 s2) (ρ1 s3) (ρ1 s4) (ρ1 s5) (ρ1 s6) (ρ1 s7) w1 hi
    rw [mask_self ha, upd_self, upd_self, upd_self, upd_self, upd_self, upd_self, upd_self, upd_self] at h
    exact h.mono fun e ρ2 w2 hq => by
      cases e with
      | normal => exact ⟨⟨hq.1, hq.2.2⟩, hq.2.1⟩
      | _ => exact hq
end code

/-- The end of a function: what its results read as. -/
inductive ResAt (P : Program) (ρ : Rf) (w : World) : ResultVar → Value → Prop
  | tmp (t : Tmp) {v : Value} (h : ρ t = v) : ResAt P ρ w (.tmp t) v
  | cell (p : Tmp) (t : TypeId) {a : Addr} {v : Value} (hp : ρ p = .pointer (some a)) (h : (loadVar t a).run P w = .ok v w) : ResAt P ρ w (.cell p t) v
def ResAll (P : Program) (ρ : Rf) (w : World) : List ResultVar → List Value → Prop
  | [], [] => True
  | r :: rs, v :: vs => ResAt P ρ w r v ∧ ResAll P ρ w rs vs
  | _, _ => False
def packR : List Value → Value
  | [v] => v
  | vs => .tuple vs.toArray
def retK (P : Program) (fn : Func) (R : Ending → World → Prop) : Kq := fun e ρ w =>
  (e = .normal ∨ e = .ret) ∧ ∃ v, (∀ tmps : Array Value, (∀ i, tmps.getD i undef = ρ i) → (results fn tmps).run P w = .ok v w) ∧ R (.returned v) w
theorem res_run {P : Program} {ρ : Rf} {w : World} {f : ResultVar → Sem Value} (h1 : ∀ t, (f (.tmp t)).run P w = .ok (ρ t) w)
    (h2 : ∀ p t a v, ρ p = .pointer (some a) → (loadVar t a).run P w = .ok v w → (f (.cell p t)).run P w = .ok v w) : ∀ (rs : List ResultVar) (vs : List Value), ResAll P ρ w rs vs →
    (rs.mapM f).run P w = .ok vs w
  | [], [], _ => by simp
  | [], _ :: _, h => h.elim
  | _ :: _, [], h => h.elim
  | r :: rs, v :: vs, h => by
    have ih := res_run h1 h2 rs vs h.2
    obtain ⟨h3, _⟩ := h
    rw [List.mapM_cons]
    cases h3 with
    | tmp t hv => rw [Sem.run_bind, h1, Result.andThen_ok, Sem.run_bind, ih, Result.andThen_ok, Sem.run_pure, hv]
    | cell p t hp hl => rw [Sem.run_bind, h2 _ _ _ _ hp hl, Result.andThen_ok, Sem.run_bind, ih, Result.andThen_ok, Sem.run_pure]
theorem ret_end {P : Program} {fn : Func} {R : Ending → World → Prop} {ρ : Rf} {w : World} {rs : List ResultVar} {vs : List Value} {e : Exit} (he : e = .normal ∨ e = .ret) (hr : fn.results = rs.toArray)
    (hv : ResAll P ρ w rs vs) (h : R (.returned (packR vs)) w) : retK P fn R e ρ w := by
  refine ⟨he, packR vs, fun tmps ht => ?_, h⟩
  unfold results
  rw [hr, Sem.run_bind, List.mapM_toArray, Sem.run_map, res_run (ρ := ρ) (fun t => by simp [ht]) (fun p t a v hp hl => by simp [ht, hp, asAddr, hl]) rs vs hv]
  simp only [Result.andThen_ok]
  match vs with
  | [] => simp [packR]
  | [v] => simp [packR]
  | _ :: _ :: _ => simp [packR]
theorem r_nil {P : Program} {ρ : Rf} {w : World} : ResAll P ρ w [] [] := trivial
theorem r_tmp {P : Program} {ρ : Rf} {w : World} {t : Tmp} {v : Value} {rs : List ResultVar} {vs : List Value} (h : ρ t = v) (k : ResAll P ρ w rs vs) : ResAll P ρ w (.tmp t :: rs) (v :: vs) := ⟨.tmp t h, k⟩
theorem r_cell {P : Program} {ρ : Rf} {w : World} {p : Tmp} {t : TypeId} {a : Addr} {v : Value} {rs : List ResultVar} {vs : List Value} (hp : ρ p = .pointer (some a)) (h : (loadVar t a).run P w = .ok v w) (k : ResAll P ρ w rs vs) : ResAll P ρ w (.cell p t :: rs) (v :: vs) := ⟨.cell p t hp h, k⟩
theorem ret1 {P : Program} {fn : Func} {R : Ending → World → Prop} {ρ : Rf} {w : World} {t : Tmp} {e : Exit} {v : Value} (he : e = .normal ∨ e = .ret) (hr : fn.results = #[.tmp t]) (hv : ρ t = v) (h : R (.returned v) w) : retK P fn R e ρ w :=
  ret_end he hr (r_tmp hv r_nil) h
theorem ret2 {P : Program} {fn : Func} {R : Ending → World → Prop} {ρ : Rf} {w : World} {t u : Tmp} {e : Exit} {v x : Value} (he : e = .normal ∨ e = .ret) (hr : fn.results = #[.tmp t, .tmp u]) (hv : ρ t = v) (hx : ρ u = x) (h : R (.returned (.tuple #[v, x])) w) : retK P fn R e ρ w :=
  ret_end he hr (r_tmp hv (r_tmp hx r_nil)) h
theorem ret3 {P : Program} {fn : Func} {R : Ending → World → Prop} {ρ : Rf} {w : World} {t u s : Tmp} {e : Exit} {v x y : Value} (he : e = .normal ∨ e = .ret) (hr : fn.results = #[.tmp t, .tmp u, .tmp s]) (hv : ρ t = v) (hx : ρ u = x) (hy : ρ s = y) (h : R (.returned (.tuple #[v, x, y])) w) : retK P fn R e ρ w :=
  ret_end he hr (r_tmp hv (r_tmp hx (r_tmp hy r_nil))) h
theorem ret0 {P : Program} {fn : Func} {R : Ending → World → Prop} {ρ : Rf} {w : World} {e : Exit} (he : e = .normal ∨ e = .ret) (hr : fn.results = #[]) (h : R (.returned (.tuple #[])) w) : retK P fn R e ρ w :=
  ret_end he hr r_nil h
theorem retc1 {P : Program} {fn : Func} {R : Ending → World → Prop} {ρ : Rf} {w : World} {r : ResultVar} {e : Exit} {v : Value} (he : e = .normal ∨ e = .ret) (hr : fn.results = #[r]) (h1 : ResAll P ρ w [r] [v]) (h : R (.returned v) w) : retK P fn R e ρ w :=
  ret_end he hr h1 h
theorem retc2 {P : Program} {fn : Func} {R : Ending → World → Prop} {ρ : Rf} {w : World} {r s : ResultVar} {e : Exit} {v x : Value} (he : e = .normal ∨ e = .ret) (hr : fn.results = #[r, s]) (h1 : ResAll P ρ w [r, s] [v, x]) (h : R (.returned (.tuple #[v, x])) w) : retK P fn R e ρ w :=
  ret_end he hr h1 h
theorem retc3 {P : Program} {fn : Func} {R : Ending → World → Prop} {ρ : Rf} {w : World} {r s t : ResultVar} {e : Exit} {v x y : Value} (he : e = .normal ∨ e = .ret) (hr : fn.results = #[r, s, t]) (h1 : ResAll P ρ w [r, s, t] [v, x, y]) (h : R (.returned (.tuple #[v, x, y])) w) : retK P fn R e ρ w :=
  ret_end he hr h1 h
theorem retc4 {P : Program} {fn : Func} {R : Ending → World → Prop} {ρ : Rf} {w : World} {r s t u : ResultVar} {e : Exit} {v x y z : Value} (he : e = .normal ∨ e = .ret) (hr : fn.results = #[r, s, t, u]) (h1 : ResAll P ρ w [r, s, t, u] [v, x, y, z]) (h : R (.returned (.tuple #[v, x, y, z])) w) : retK P fn R e ρ w :=
  ret_end he hr h1 h
def argsR (l : List Value) : Rf := fun i => l.getD i undef
theorem calls_vc {P : Program} {f : FuncId} {fn : Func} {c : Code} {N : Nat} {l : List Value} {w : World} {R : Ending → World → Prop}
    (hf : P.funcs[f]? = some fn) (hb : fn.body = some c) (hn : fn.ntmps = N) (ha : l.length ≤ N)
    (h : WC P N c (retK P fn R) (argsR l) w) : Calls P f l.toArray w R := by
  refine calls_of_wp hf hb ?_
  refine wp_mono (h.out _ ⟨rfl, by simp [hn]; omega, fun i => ?_⟩) ?_
  · simp only [argsR]
    rcases Nat.lt_or_ge i l.length with hi | hi
    · rw [Array.getD_eq_getD_getElem?, Array.getElem?_append_left (by simpa using hi)]
      simp [List.getD_eq_getElem?_getD]
    · rw [Array.getD_eq_getD_getElem?, Array.getElem?_append_right (by simpa using hi)]
      simp only [List.getD_eq_getElem?_getD, List.getElem?_eq_none hi, Option.getD_none, Array.getElem?_replicate]
      split <;> rfl
  · rintro e a w' ⟨ρ', hf', he, v, hr, hR⟩
    rcases he with rfl | rfl <;> exact ⟨hf'.nd, v, hr _ hf'.at_, hR⟩
end Go.Proofs.YthmmofllajkejaaGreatDoor

/- The calculus' rules for single operations that touch no memory. Plain lemmas, no program in sight. -/
namespace Go.Proofs.YthmmofllajkejaaGreatDoor
open Go.RowKit
section
variable {P : Program} {N : Nat} {ops : Array Oper} {Q : Kq} {ρ : Rf} {w : World} {rest : List Oper}
theorem wl_nil (h : Q .normal ρ w) : WL P N ops Q [] ρ w := ⟨fun _ hf => wpList_nil ⟨ρ, hf, h⟩⟩
theorem wl_end {next : Rf → World → Prop} {Q' : Kq} (h : next ρ w) : WL P N ops (thenK next Q') [] ρ w := wl_nil h
/-- An operation that yields a value. -/
theorem wl_val {o : Oper} {d : Nat} {v : Value} {w' : World} (hg : o.guard = none) (hd : o.dst = some d) (hN : d < N)
    (hr : (execOp (ev ρ) o).run P w = .ok (.value v) w') (k : WL P N ops Q rest (upd ρ d v) w') : WL P N ops Q (o :: rest) ρ w :=
  ⟨fun a hf => wpList_plain hg fun K hK => by
    unfold Oper.wp
    rw [hf.eval, hr]
    show K (a.put o.dst v) w'
    rw [hd]
    exact hK _ _ (k.out _ (hf.put hN v))⟩
/-- An operation without a value. -/
theorem wl_skip {o : Oper} {w' : World} (hg : o.guard = none) (hd : o.dst = none)
    (hr : (execOp (ev ρ) o).run P w = .ok .skip w') (k : WL P N ops Q rest ρ w') : WL P N ops Q (o :: rest) ρ w :=
  ⟨fun a hf => wpList_plain hg fun K hK => by
    unfold Oper.wp
    rw [hf.eval, hr]
    show K (a.put o.dst undef) w'
    rw [hd]
    exact hK _ _ (k.out _ hf)⟩
/-- A call of a function of the program. -/
theorem wl_enter {o : Oper} {d : Nat} {f : FuncId} {args : Array Value} {w1 : World} {R : Ending → World → Prop} (hg : o.guard = none) (hd : o.dst = some d) (hN : d < N)
    (hr : (execOp (ev ρ) o).run P w = .ok (.enter f args) w1) (hc : Calls P f args w1 R)
    (k : ∀ e w', R e w' → ∃ v, e = .returned v ∧ WL P N ops Q rest (upd ρ d v) w') : WL P N ops Q (o :: rest) ρ w :=
  ⟨fun a hf => wpList_plain hg fun K hK => by
    unfold Oper.wp
    rw [hf.eval, hr]
    show Calls P f args w1 _
    refine hc.mono fun e w' hR => ?_
    obtain ⟨v, rfl, hk⟩ := k e w' hR
    show K (a.put o.dst v) w'
    rw [hd]
    exact hK _ _ (hk.out _ (hf.put hN v))⟩
theorem wl_enter0 {o : Oper} {f : FuncId} {args : Array Value} {w1 : World} {R : Ending → World → Prop} (hg : o.guard = none) (hd : o.dst = none)
    (hr : (execOp (ev ρ) o).run P w = .ok (.enter f args) w1) (hc : Calls P f args w1 R)
    (k : ∀ e w', R e w' → ∃ v, e = .returned v ∧ WL P N ops Q rest ρ w') : WL P N ops Q (o :: rest) ρ w :=
  ⟨fun a hf => wpList_plain hg fun K hK => by
    unfold Oper.wp
    rw [hf.eval, hr]
    show Calls P f args w1 _
    refine hc.mono fun e w' hR => ?_
    obtain ⟨v, rfl, hk⟩ := k e w' hR
    show K (a.put o.dst v) w'
    rw [hd]
    exact hK _ _ (hk.out _ hf)⟩
/-- Guards. -/
theorem wl_guard_take {d : Option Nat} {op : Op} {ty : TypeId} {pos : String} {af : Array Edge} {j dj : Nat} {b : Bool}
    (hj : (ops[j]?).bind (·.dst) = some dj) (hv : ρ dj = .bool b) (k : WL P N ops Q (⟨d, op, ty, pos, af, none⟩ :: rest) ρ w) :
    WL P N ops Q (⟨d, op, ty, pos, af, some (j, b)⟩ :: rest) ρ w :=
  ⟨fun a hf => by
    have h1 : Region.wanted ⟨d, op, ty, pos, af, some (j, b)⟩ (yielded ops a.tmps) = true := by
      have h2 := hf.at_ dj
      rw [hv, Array.getD_eq_getD_getElem?] at h2
      cases h3 : a.tmps[dj]? with
      | none => rw [h3] at h2; cases h2
      | some x =>
        rw [h3] at h2
        simp only [Option.getD_some] at h2
        subst h2
        simp [Region.wanted, yielded, hj, h3]
    have h2 := k.out a hf
    unfold wpList at h2 ⊢
    rw [if_pos h1]
    rw [if_pos (by simp [Region.wanted])] at h2
    exact h2⟩
theorem wl_guard_skip {d : Nat} {op : Op} {ty : TypeId} {pos : String} {af : Array Edge} {j dj : Nat} {b c : Bool} (hN : d < N)
    (hj : (ops[j]?).bind (·.dst) = some dj) (hv : ρ dj = .bool c) (hb : c ≠ b) (k : WL P N ops Q rest (upd ρ d undef) w) :
    WL P N ops Q (⟨some d, op, ty, pos, af, some (j, b)⟩ :: rest) ρ w :=
  ⟨fun a hf => by
    have h1 : Region.wanted ⟨some d, op, ty, pos, af, some (j, b)⟩ (yielded ops a.tmps) = false := by
      have h2 := hf.at_ dj
      rw [hv, Array.getD_eq_getD_getElem?] at h2
      cases h3 : a.tmps[dj]? with
      | none => rw [h3] at h2; cases h2
      | some x =>
        rw [h3] at h2
        simp only [Option.getD_some] at h2
        subst h2
        simp [Region.wanted, yielded, hj, h3, hb]
    unfold wpList
    rw [h1]
    exact k.out _ (hf.put hN undef)⟩
/-- not this bool. -/
def nb (v : Value) (b : Bool) : Bool := match v with | .bool c => c != b | _ => true
theorem wl_guard_skipV {d : Nat} {op : Op} {ty : TypeId} {pos : String} {af : Array Edge} {j dj : Nat} {b : Bool} (hN : d < N)
    (hj : (ops[j]?).bind (·.dst) = some dj) (hb : nb (ρ dj) b = true) (k : WL P N ops Q rest (upd ρ d undef) w) :
    WL P N ops Q (⟨some d, op, ty, pos, af, some (j, b)⟩ :: rest) ρ w := by
  cases hv : ρ dj with
  | bool c =>
    rw [hv] at hb
    exact wl_guard_skip hN hj hv (by simpa [nb] using hb) k
  | _ =>
    refine ⟨fun a hf => ?_⟩
    have h1 : Region.wanted ⟨some d, op, ty, pos, af, some (j, b)⟩ (yielded ops a.tmps) = false := by
      have h2 := hf.at_ dj
      rw [hv, Array.getD_eq_getD_getElem?] at h2
      cases h3 : a.tmps[dj]? with
      | none => simp [Region.wanted, yielded, hj, h3]
      | some x =>
        rw [h3] at h2
        simp only [Option.getD_some] at h2
        subst h2
        simp [Region.wanted, yielded, hj, h3]
    unfold wpList
    rw [h1]
    exact k.out _ (hf.put hN undef)
theorem wl_guard_skip0 {op : Op} {ty : TypeId} {pos : String} {af : Array Edge} {j dj : Nat} {b c : Bool}
    (hj : (ops[j]?).bind (·.dst) = some dj) (hv : ρ dj = .bool c) (hb : c ≠ b) (k : WL P N ops Q rest ρ w) :
    WL P N ops Q (⟨none, op, ty, pos, af, some (j, b)⟩ :: rest) ρ w :=
  ⟨fun a hf => by
    have h1 : Region.wanted ⟨none, op, ty, pos, af, some (j, b)⟩ (yielded ops a.tmps) = false := by
      have h2 := hf.at_ dj
      rw [hv, Array.getD_eq_getD_getElem?] at h2
      cases h3 : a.tmps[dj]? with
      | none => rw [h3] at h2; cases h2
      | some x =>
        rw [h3] at h2
        simp only [Option.getD_some] at h2
        subst h2
        simp [Region.wanted, yielded, hj, h3, hb]
    unfold wpList
    rw [h1]
    exact k.out _ hf⟩
end

/-! The runs of single operations: 'X w o v': in the world w the operation yields v and leaves the world. -/
section
variable {P : Program} {ρ : Rf} {w : World} {d : Option Nat} {ty : TypeId} {pos : String} {af : Array Edge} {g : Option (Nat × Bool)}
theorem x_move {x : Operand} {v : Value} (hx : ev ρ x = v) : (execOp (ev ρ) ⟨d, .move x, ty, pos, af, g⟩).run P w = .ok (.value v) w := by simp [execOp, hx]
theorem x_assign {x : Operand} {v : Value} (hx : ev ρ x = v) : (execOp (ev ρ) ⟨d, .assign x, ty, pos, af, g⟩).run P w = .ok (.value v) w := by simp [execOp, hx]
theorem x_pick_t {c a b : Operand} {v : Value} (hc : ev ρ c = .bool true) (hx : ev ρ a = v) : (execOp (ev ρ) ⟨d, .pick c a b, ty, pos, af, g⟩).run P w = .ok (.value v) w := by simp [execOp, asBool, hc, hx]
theorem x_pick_f {c a b : Operand} {v : Value} (hc : ev ρ c = .bool false) (hx : ev ρ b = v) : (execOp (ev ρ) ⟨d, .pick c a b, ty, pos, af, g⟩).run P w = .ok (.value v) w := by simp [execOp, asBool, hc, hx]
section ints
variable {t u : TypeId} {x y : Operand} {k : IntKind} {a b : Int}
theorem x_add (hx : ev ρ x = .int k a) (hy : ev ρ y = .int k b) : (execOp (ev ρ) ⟨d, .binOp .add t x y u, ty, pos, af, g⟩).run P w = .ok (.value (.int k (k.wrap (a + b)))) w := by
  simp [execOp, hx, hy, eqGuard, binOp, Op.intArith]
theorem x_sub (hx : ev ρ x = .int k a) (hy : ev ρ y = .int k b) : (execOp (ev ρ) ⟨d, .binOp .sub t x y u, ty, pos, af, g⟩).run P w = .ok (.value (.int k (k.wrap (a - b)))) w := by
  simp [execOp, hx, hy, eqGuard, binOp, Op.intArith]
theorem x_mul (hx : ev ρ x = .int k a) (hy : ev ρ y = .int k b) : (execOp (ev ρ) ⟨d, .binOp .mul t x y u, ty, pos, af, g⟩).run P w = .ok (.value (.int k (k.wrap (a * b)))) w := by
  simp [execOp, hx, hy, eqGuard, binOp, Op.intArith]
theorem x_quo (hx : ev ρ x = .int k a) (hy : ev ρ y = .int k b) (hb : b ≠ 0) : (execOp (ev ρ) ⟨d, .binOp .quo t x y u, ty, pos, af, g⟩).run P w = .ok (.value (.int k (k.wrap (a.tdiv b)))) w := by
  simp [execOp, hx, hy, eqGuard, binOp, Op.intDiv, hb]
theorem x_rem (hx : ev ρ x = .int k a) (hy : ev ρ y = .int k b) (hb : b ≠ 0) : (execOp (ev ρ) ⟨d, .binOp .rem t x y u, ty, pos, af, g⟩).run P w = .ok (.value (.int k (a.tmod b))) w := by
  simp [execOp, hx, hy, eqGuard, binOp, Op.intDiv, hb]
theorem x_and (hx : ev ρ x = .int k a) (hy : ev ρ y = .int k b) : (execOp (ev ρ) ⟨d, .binOp .and t x y u, ty, pos, af, g⟩).run P w = .ok (.value (.int k (k.wrap (BitVec.ofInt k.bits a &&& BitVec.ofInt k.bits b).toNat))) w := by
  simp [execOp, hx, hy, eqGuard, binOp, Op.intBits]
theorem x_or (hx : ev ρ x = .int k a) (hy : ev ρ y = .int k b) : (execOp (ev ρ) ⟨d, .binOp .or t x y u, ty, pos, af, g⟩).run P w = .ok (.value (.int k (k.wrap (BitVec.ofInt k.bits a ||| BitVec.ofInt k.bits b).toNat))) w := by
  simp [execOp, hx, hy, eqGuard, binOp, Op.intBits]
theorem x_xor (hx : ev ρ x = .int k a) (hy : ev ρ y = .int k b) : (execOp (ev ρ) ⟨d, .binOp .xor t x y u, ty, pos, af, g⟩).run P w = .ok (.value (.int k (k.wrap (BitVec.ofInt k.bits a ^^^ BitVec.ofInt k.bits b).toNat))) w := by
  simp [execOp, hx, hy, eqGuard, binOp, Op.intBits]
theorem x_andNot (hx : ev ρ x = .int k a) (hy : ev ρ y = .int k b) : (execOp (ev ρ) ⟨d, .binOp .andNot t x y u, ty, pos, af, g⟩).run P w = .ok (.value (.int k (k.wrap (BitVec.ofInt k.bits a &&& ~~~BitVec.ofInt k.bits b).toNat))) w := by
  simp [execOp, hx, hy, eqGuard, binOp, Op.intBits]
theorem x_shl {k' : IntKind} (hx : ev ρ x = .int k a) (hy : ev ρ y = .int k' b) (hb : 0 ≤ b) : (execOp (ev ρ) ⟨d, .binOp .shl t x y u, ty, pos, af, g⟩).run P w = .ok (.value (.int k (k.wrap (a * 2 ^ (min b.toNat k.bits))))) w := by
  simp [execOp, hx, hy, eqGuard, binOp, Op.shift, show ¬ b < 0 by omega]
theorem x_shr {k' : IntKind} (hx : ev ρ x = .int k a) (hy : ev ρ y = .int k' b) (hb : 0 ≤ b) : (execOp (ev ρ) ⟨d, .binOp .shr t x y u, ty, pos, af, g⟩).run P w = .ok (.value (.int k (a.fdiv (2 ^ (min b.toNat k.bits))))) w := by
  simp [execOp, hx, hy, eqGuard, binOp, Op.shift, show ¬ b < 0 by omega]
theorem eqGuard_int {op : BinOp} : (eqGuard op t x y (.int k a) (.int k b)).run P w = .ok () w := by
  unfold eqGuard; cases op <;> simp
theorem x_cmp {op : BinOp} {r : Bool} (hx : ev ρ x = .int k a) (hy : ev ρ y = .int k b) (hop : (Op.intCmp op a b).run P w = .ok (.bool r) w) (hc : op = .eql ∨ op = .neq ∨ op = .lss ∨ op = .leq ∨ op = .gtr ∨ op = .geq) :
    (execOp (ev ρ) ⟨d, .binOp op t x y u, ty, pos, af, g⟩).run P w = .ok (.value (.bool r)) w := by
  rcases hc with h | h | h | h | h | h <;> subst h <;> simp [execOp, hx, hy, eqGuard_int, binOp, hop]
theorem x_lss_t (hx : ev ρ x = .int k a) (hy : ev ρ y = .int k b) (h : a < b) : (execOp (ev ρ) ⟨d, .binOp .lss t x y u, ty, pos, af, g⟩).run P w = .ok (.value (.bool true)) w :=
  x_cmp hx hy (by simp [Op.intCmp, h]) (by simp)
theorem x_lss_f (hx : ev ρ x = .int k a) (hy : ev ρ y = .int k b) (h : ¬ a < b) : (execOp (ev ρ) ⟨d, .binOp .lss t x y u, ty, pos, af, g⟩).run P w = .ok (.value (.bool false)) w :=
  x_cmp hx hy (by simp [Op.intCmp]; omega) (by simp)
theorem x_leq_t (hx : ev ρ x = .int k a) (hy : ev ρ y = .int k b) (h : a ≤ b) : (execOp (ev ρ) ⟨d, .binOp .leq t x y u, ty, pos, af, g⟩).run P w = .ok (.value (.bool true)) w :=
  x_cmp hx hy (by simp [Op.intCmp, h]) (by simp)
theorem x_leq_f (hx : ev ρ x = .int k a) (hy : ev ρ y = .int k b) (h : ¬ a ≤ b) : (execOp (ev ρ) ⟨d, .binOp .leq t x y u, ty, pos, af, g⟩).run P w = .ok (.value (.bool false)) w :=
  x_cmp hx hy (by simp [Op.intCmp]; omega) (by simp)
theorem x_gtr_t (hx : ev ρ x = .int k a) (hy : ev ρ y = .int k b) (h : b < a) : (execOp (ev ρ) ⟨d, .binOp .gtr t x y u, ty, pos, af, g⟩).run P w = .ok (.value (.bool true)) w :=
  x_cmp hx hy (by simp [Op.intCmp, h]) (by simp)
theorem x_gtr_f (hx : ev ρ x = .int k a) (hy : ev ρ y = .int k b) (h : ¬ b < a) : (execOp (ev ρ) ⟨d, .binOp .gtr t x y u, ty, pos, af, g⟩).run P w = .ok (.value (.bool false)) w :=
  x_cmp hx hy (by simp [Op.intCmp]; omega) (by simp)
theorem x_geq_t (hx : ev ρ x = .int k a) (hy : ev ρ y = .int k b) (h : b ≤ a) : (execOp (ev ρ) ⟨d, .binOp .geq t x y u, ty, pos, af, g⟩).run P w = .ok (.value (.bool true)) w :=
  x_cmp hx hy (by simp [Op.intCmp, h]) (by simp)
theorem x_geq_f (hx : ev ρ x = .int k a) (hy : ev ρ y = .int k b) (h : ¬ b ≤ a) : (execOp (ev ρ) ⟨d, .binOp .geq t x y u, ty, pos, af, g⟩).run P w = .ok (.value (.bool false)) w :=
  x_cmp hx hy (by simp [Op.intCmp]; omega) (by simp)
theorem x_eql_t (hx : ev ρ x = .int k a) (hy : ev ρ y = .int k b) (h : a = b) : (execOp (ev ρ) ⟨d, .binOp .eql t x y u, ty, pos, af, g⟩).run P w = .ok (.value (.bool true)) w :=
  x_cmp hx hy (by simp [Op.intCmp, h]) (by simp)
theorem x_eql_f (hx : ev ρ x = .int k a) (hy : ev ρ y = .int k b) (h : a ≠ b) : (execOp (ev ρ) ⟨d, .binOp .eql t x y u, ty, pos, af, g⟩).run P w = .ok (.value (.bool false)) w :=
  x_cmp hx hy (by simp [Op.intCmp, h]) (by simp)
theorem x_neq_t (hx : ev ρ x = .int k a) (hy : ev ρ y = .int k b) (h : a ≠ b) : (execOp (ev ρ) ⟨d, .binOp .neq t x y u, ty, pos, af, g⟩).run P w = .ok (.value (.bool true)) w :=
  x_cmp hx hy (by simp [Op.intCmp, h]) (by simp)
theorem x_neq_f (hx : ev ρ x = .int k a) (hy : ev ρ y = .int k b) (h : a = b) : (execOp (ev ρ) ⟨d, .binOp .neq t x y u, ty, pos, af, g⟩).run P w = .ok (.value (.bool false)) w :=
  x_cmp hx hy (by simp [Op.intCmp, h]) (by simp)
/-- The comparison kept as a truth value. -/
theorem x_eql_v (hx : ev ρ x = .int k a) (hy : ev ρ y = .int k b) : (execOp (ev ρ) ⟨d, .binOp .eql t x y u, ty, pos, af, g⟩).run P w = .ok (.value (.bool (decide (a = b)))) w :=
  x_cmp hx hy (by simp [Op.intCmp]; rw [Bool.eq_iff_iff]; simp) (by simp)
theorem x_neg (hx : ev ρ x = .int k a) : (execOp (ev ρ) ⟨d, .unOp .neg t x, ty, pos, af, g⟩).run P w = .ok (.value (.int k (k.wrap (-a)))) w := by
  simp [execOp, hx, Op.unary, Op.intArith]
theorem x_compl (hx : ev ρ x = .int k a) : (execOp (ev ρ) ⟨d, .unOp .xor t x, ty, pos, af, g⟩).run P w = .ok (.value (.int k (k.wrap (BitVec.ofInt k.bits (if k.signed then -1 else k.max) ^^^ BitVec.ofInt k.bits a).toNat))) w := by
  simp [execOp, hx, Op.unary, Op.intBits]
theorem wrap_i64 {n : Int} (h1 : -9223372036854775808 ≤ n) (h2 : n ≤ 9223372036854775807) : IntKind.i64.wrap n = n := IntWalk.i64_in n ⟨h1, h2⟩
theorem x_addi (hx : ev ρ x = .int .i64 a) (hy : ev ρ y = .int .i64 b) (h1 : -9223372036854775808 ≤ a + b) (h2 : a + b ≤ 9223372036854775807) : (execOp (ev ρ) ⟨d, .binOp .add t x y u, ty, pos, af, g⟩).run P w = .ok (.value (.int .i64 (a + b))) w := by
  rw [x_add hx hy, wrap_i64 h1 h2]
theorem x_subi (hx : ev ρ x = .int .i64 a) (hy : ev ρ y = .int .i64 b) (h1 : -9223372036854775808 ≤ a - b) (h2 : a - b ≤ 9223372036854775807) : (execOp (ev ρ) ⟨d, .binOp .sub t x y u, ty, pos, af, g⟩).run P w = .ok (.value (.int .i64 (a - b))) w := by
  rw [x_sub hx hy, wrap_i64 h1 h2]
theorem x_muli (hx : ev ρ x = .int .i64 a) (hy : ev ρ y = .int .i64 b) (h1 : -9223372036854775808 ≤ a * b) (h2 : a * b ≤ 9223372036854775807) : (execOp (ev ρ) ⟨d, .binOp .mul t x y u, ty, pos, af, g⟩).run P w = .ok (.value (.int .i64 (a * b))) w := by
  rw [x_mul hx hy, wrap_i64 h1 h2]
theorem x_negi (hx : ev ρ x = .int .i64 a) (h1 : -9223372036854775808 ≤ -a) (h2 : -a ≤ 9223372036854775807) : (execOp (ev ρ) ⟨d, .unOp .neg t x, ty, pos, af, g⟩).run P w = .ok (.value (.int .i64 (-a))) w := by
  rw [x_neg hx, wrap_i64 h1 h2]
theorem x_quoi (hx : ev ρ x = .int .i64 a) (hy : ev ρ y = .int .i64 b) (ha : 0 ≤ a) (hb : 0 < b) (h2 : a ≤ 9223372036854775807) : (execOp (ev ρ) ⟨d, .binOp .quo t x y u, ty, pos, af, g⟩).run P w = .ok (.value (.int .i64 (a / b))) w := by
  have h3 : a / b ≤ a := Int.ediv_le_self b ha
  have h4 : 0 ≤ a / b := Int.ediv_nonneg ha (by omega)
  rw [x_quo hx hy (by omega), Int.tdiv_eq_ediv_of_nonneg ha, wrap_i64 (by omega) (by omega)]
theorem x_remi (hx : ev ρ x = .int .i64 a) (hy : ev ρ y = .int .i64 b) (ha : 0 ≤ a) (hb : 0 < b) : (execOp (ev ρ) ⟨d, .binOp .rem t x y u, ty, pos, af, g⟩).run P w = .ok (.value (.int .i64 (a % b))) w := by
  rw [x_rem hx hy (by omega), Int.tmod_eq_emod_of_nonneg ha]
end ints
theorem x_not {t : TypeId} {x : Operand} {b : Bool} (hx : ev ρ x = .bool b) : (execOp (ev ρ) ⟨d, .unOp .not t x, ty, pos, af, g⟩).run P w = .ok (.value (.bool !b)) w := by
  simp [execOp, hx, Op.unary]
section bools
variable {t u : TypeId} {x y : Operand} {a b : Bool}
theorem equal_bool_d (n : Nat) (ht : P.underlying t = some .bool) : (Op.equalIn (n + 1) t (.bool a) (.bool b)).run P w = .ok (a == b) w := by
  simp [Op.equalIn, run_underlying ht]
theorem equal_bool (ht : P.underlying t = some .bool) : (Op.equal t (.bool a) (.bool b)).run P w = .ok (a == b) w := equal_bool_d 9999 ht
theorem binOp_eql_bool (ht : P.underlying t = some .bool) : (binOp .eql t (.bool a) (.bool b)).run P w = .ok (.bool (a == b)) w := by
  simp only [binOp]
  simp [equal_bool ht]
theorem binOp_neq_bool (ht : P.underlying t = some .bool) : (binOp .neq t (.bool a) (.bool b)).run P w = .ok (.bool (a != b)) w := by
  simp only [binOp]
  simp [equal_bool ht, bne]
theorem x_eql_bool (ht : P.underlying t = some .bool) (hx : ev ρ x = .bool a) (hy : ev ρ y = .bool b) : (execOp (ev ρ) ⟨d, .binOp .eql t x y u, ty, pos, af, g⟩).run P w = .ok (.value (.bool (a == b))) w := by
  simp only [execOp, hx, hy, eqGuard]
  simp [binOp_eql_bool ht]
theorem x_neq_bool (ht : P.underlying t = some .bool) (hx : ev ρ x = .bool a) (hy : ev ρ y = .bool b) : (execOp (ev ρ) ⟨d, .binOp .neq t x y u, ty, pos, af, g⟩).run P w = .ok (.value (.bool (a != b))) w := by
  simp only [execOp, hx, hy, eqGuard]
  simp [binOp_neq_bool ht]
end bools
section strs
variable {t u : TypeId} {x y : Operand} {a b : ByteArray}
theorem eqGuard_str {op : BinOp} : (eqGuard op t x y (.string a) (.string b)).run P w = .ok () w := by
  unfold eqGuard; cases op <;> simp
theorem x_str {op : BinOp} {r : Value} (hx : ev ρ x = .string a) (hy : ev ρ y = .string b) (hs : op ≠ .shl ∧ op ≠ .shr) (hop : (Op.stringOp op a b).run P w = .ok r w) :
    (execOp (ev ρ) ⟨d, .binOp op t x y u, ty, pos, af, g⟩).run P w = .ok (.value r) w := by
  cases op <;> simp_all [execOp, eqGuard_str, binOp]
theorem x_eql_str (hx : ev ρ x = .string a) (hy : ev ρ y = .string b) : (execOp (ev ρ) ⟨d, .binOp .eql t x y u, ty, pos, af, g⟩).run P w = .ok (.value (.bool (a.toList == b.toList))) w :=
  x_str hx hy (by simp) (by simp [Op.stringOp])
theorem x_neq_str (hx : ev ρ x = .string a) (hy : ev ρ y = .string b) : (execOp (ev ρ) ⟨d, .binOp .neq t x y u, ty, pos, af, g⟩).run P w = .ok (.value (.bool !(a.toList == b.toList))) w :=
  x_str hx hy (by simp) (by simp [Op.stringOp])
theorem beqL {a b : ByteArray} : (a.toList == b.toList) = decide (a = b) := by
  have key : ∀ s : ByteArray, s.toList = s.data.toList := fun s => by
    unfold ByteArray.toList
    have : ∀ (n i : Nat) (r : List UInt8), s.size - i = n → ByteArray.toList.loop s i r = r.reverse ++ s.data.toList.drop i := by
      intro n
      induction n with
      | zero =>
        intro i r h
        rw [ByteArray.toList.loop, if_neg (by omega), List.drop_of_length_le (by rw [Array.length_toList]; show s.size ≤ i; omega)]
        simp
      | succ n ih =>
        intro i r h
        have hi : i < s.size := by omega
        rw [ByteArray.toList.loop, if_pos hi, ih (i + 1) _ (by omega)]
        have hi2 : i < s.data.toList.length := by rw [Array.length_toList]; exact hi
        rw [List.drop_eq_getElem_cons hi2]
        have : s.get! i = s.data.toList[i] := by
          show s.data[i]! = _
          rw [getElem!_pos s.data i (by simpa using hi2)]
          simp
        simp [this]
    simpa using this (s.size - 0) 0 [] rfl
  rw [Bool.eq_iff_iff, beq_iff_eq, decide_eq_true_eq, key, key]
  constructor
  · intro h; cases a; cases b; congr 1; exact Array.ext' h
  · intro h; rw [h]
theorem x_eql_str_t (hx : ev ρ x = .string a) (hy : ev ρ y = .string b) (h : a = b) : (execOp (ev ρ) ⟨d, .binOp .eql t x y u, ty, pos, af, g⟩).run P w = .ok (.value (.bool true)) w := by
  rw [x_eql_str hx hy, beqL]; simp [h]
theorem x_eql_str_f (hx : ev ρ x = .string a) (hy : ev ρ y = .string b) (h : ¬ a = b) : (execOp (ev ρ) ⟨d, .binOp .eql t x y u, ty, pos, af, g⟩).run P w = .ok (.value (.bool false)) w := by
  rw [x_eql_str hx hy, beqL]; simp [h]
theorem x_neq_str_t (hx : ev ρ x = .string a) (hy : ev ρ y = .string b) (h : ¬ a = b) : (execOp (ev ρ) ⟨d, .binOp .neq t x y u, ty, pos, af, g⟩).run P w = .ok (.value (.bool true)) w := by
  rw [x_neq_str hx hy, beqL]; simp [h]
theorem x_neq_str_f (hx : ev ρ x = .string a) (hy : ev ρ y = .string b) (h : a = b) : (execOp (ev ρ) ⟨d, .binOp .neq t x y u, ty, pos, af, g⟩).run P w = .ok (.value (.bool false)) w := by
  rw [x_neq_str hx hy, beqL]; simp [h]
theorem x_lss_str (hx : ev ρ x = .string a) (hy : ev ρ y = .string b) : (execOp (ev ρ) ⟨d, .binOp .lss t x y u, ty, pos, af, g⟩).run P w = .ok (.value (.bool (Op.bytesLess a.toList b.toList))) w :=
  x_str hx hy (by simp) (by simp [Op.stringOp])
theorem x_leq_str (hx : ev ρ x = .string a) (hy : ev ρ y = .string b) : (execOp (ev ρ) ⟨d, .binOp .leq t x y u, ty, pos, af, g⟩).run P w = .ok (.value (.bool (Op.bytesLess a.toList b.toList || a.toList == b.toList))) w :=
  x_str hx hy (by simp) (by simp [Op.stringOp])
theorem x_gtr_str (hx : ev ρ x = .string a) (hy : ev ρ y = .string b) : (execOp (ev ρ) ⟨d, .binOp .gtr t x y u, ty, pos, af, g⟩).run P w = .ok (.value (.bool !(Op.bytesLess a.toList b.toList || a.toList == b.toList))) w :=
  x_str hx hy (by simp) (by simp [Op.stringOp])
theorem x_geq_str (hx : ev ρ x = .string a) (hy : ev ρ y = .string b) : (execOp (ev ρ) ⟨d, .binOp .geq t x y u, ty, pos, af, g⟩).run P w = .ok (.value (.bool !(Op.bytesLess a.toList b.toList))) w :=
  x_str hx hy (by simp) (by simp [Op.stringOp])
theorem x_cat (hx : ev ρ x = .string a) (hy : ev ρ y = .string b) (h : a.size + b.size ≤ 9223372036854775807) : (execOp (ev ρ) ⟨d, .binOp .add t x y u, ty, pos, af, g⟩).run P w = .ok (.value (.string (a ++ b))) w :=
  x_str hx hy (by simp) (by
    have : ¬ ((a.size + b.size : Nat) : Int) > IntKind.i64.max := by
      have : IntKind.i64.max = 9223372036854775807 := by decide
      omega
    simp only [Op.stringOp, if_neg this]
    simp)
end strs
theorem x_conv_int {s t : TypeId} {x : Operand} {k k' : IntKind} {a : Int} {sd : TypeDesc} (hs : P.underlying s = some sd) (ht : P.underlying t = some (.int k)) (hx : ev ρ x = .int k' a) :
    (execOp (ev ρ) ⟨d, .convert s t x, ty, pos, af, g⟩).run P w = .ok (.value (.int k (k.wrap a))) w := by
  simp [execOp, hx, convert, run_underlying hs, run_underlying ht, Conv.intToInt]
theorem x_conv_i64 {s t : TypeId} {x : Operand} {k' : IntKind} {a : Int} {sd : TypeDesc} (hs : P.underlying s = some sd) (ht : P.underlying t = some (.int .i64)) (hx : ev ρ x = .int k' a) (h1 : -9223372036854775808 ≤ a) (h2 : a ≤ 9223372036854775807) :
    (execOp (ev ρ) ⟨d, .convert s t x, ty, pos, af, g⟩).run P w = .ok (.value (.int .i64 a)) w := by
  rw [x_conv_int hs ht hx, wrap_i64 h1 h2]
theorem x_conv_str {s t : TypeId} {x : Operand} {a : ByteArray} (hs : P.underlying s = some .string) (ht : P.underlying t = some .string) (hx : ev ρ x = .string a) :
    (execOp (ev ρ) ⟨d, .convert s t x, ty, pos, af, g⟩).run P w = .ok (.value (.string a)) w := by
  simp [execOp, hx, convert, run_underlying hs, run_underlying ht]
theorem x_extract {x : Operand} {i : Nat} {vs : List Value} {v : Value} (hx : ev ρ x = .tuple vs.toArray) (hv : vs[i]? = some v) :
    (execOp (ev ρ) ⟨d, .extract x i, ty, pos, af, g⟩).run P w = .ok (.value v) w := by
  simp [execOp, hx, Instr.extract, hv]
/-- arguments of a call. -/
def evs (ρ : Rf) : List Operand → List Value
  | [] => []
  | x :: l => ev ρ x :: evs ρ l
theorem evs_arr {ρ : Rf} (args : Array Operand) {vs : List Value} (h : evs ρ args.toList = vs) : args.map (ev ρ) = vs.toArray := by
  have h1 : ∀ l : List Operand, l.map (ev ρ) = evs ρ l := by
    intro l
    induction l with
    | nil => rfl
    | cons a l ih => simp only [List.map_cons, ih]; rfl
  subst h
  rw [← h1]
  apply Array.ext'
  simp
theorem x_makeFunc {fn : Fn} {first captured : Array Operand} {fs cs : List Value} (hf : evs ρ first.toList = fs) (hc : evs ρ captured.toList = cs) :
    (execOp (ev ρ) ⟨d, .makeFunc fn first captured, ty, pos, af, g⟩).run P w = .ok (.value (.func fn fs.toArray cs.toArray)) w := by
  simp [execOp, evs_arr _ hf, evs_arr _ hc, Instr.makeFunc]
theorem v_int {i : Nat} {k : IntKind} {n : Int} (h : ρ i = .int k n) : ρ i = .int k n := h
theorem v_bool {i : Nat} {b : Bool} (h : ρ i = .bool b) : ρ i = .bool b := h
theorem v_str {i : Nat} {s : ByteArray} (h : ρ i = .string s) : ρ i = .string s := h
theorem v_sl {i : Nat} {A : Option Addr} {n c : Nat} (h : ρ i = .slice A n c) : ρ i = .slice A n c := h
theorem v_agg {i : Nat} {l : List Value} (h : ρ i = .agg l.toArray) : ρ i = .agg l.toArray := h
/-- values in their own form. -/
theorem ev_int {x : Operand} {k : IntKind} {n : Int} (h : ev ρ x = .int k n) : ev ρ x = .int k n := h
theorem ev_bool {x : Operand} {b : Bool} (h : ev ρ x = .bool b) : ev ρ x = .bool b := h
theorem ev_str {x : Operand} {s : ByteArray} (h : ev ρ x = .string s) : ev ρ x = .string s := h
theorem ev_sl {x : Operand} {A : Option Addr} {n c : Nat} (h : ev ρ x = .slice A n c) : ev ρ x = .slice A n c := h
theorem ev_ptr {x : Operand} {a : Addr} (h : ev ρ x = .pointer (some a)) : ev ρ x = .pointer (some a) := h
theorem ev_pnil {x : Operand} (h : ev ρ x = .pointer none) : ev ρ x = .pointer none := h
theorem ev_agg {x : Operand} {l : List Value} (h : ev ρ x = .agg l.toArray) : ev ρ x = .agg l.toArray := h
theorem ev_tup {x : Operand} {l : List Value} (h : ev ρ x = .tuple l.toArray) : ev ρ x = .tuple l.toArray := h
theorem ev_func {x : Operand} {f : Fn} {a b : List Value} (h : ev ρ x = .func f a.toArray b.toArray) : ev ρ x = .func f a.toArray b.toArray := h
theorem ev_nilf {x : Operand} (h : ev ρ x = .nilFunc) : ev ρ x = .nilFunc := h
theorem x_len_str {x : Operand} {t : TypeId} {s : ByteArray} (ht : P.underlying t = some .string) (hx : ev ρ x = .string s) :
    (execOp (ev ρ) ⟨d, .call ⟨.builtin .len, #[x], #[t]⟩, ty, pos, af, g⟩).run P w = .ok (.value (.int .i64 s.size)) w := by
  simp [execOp, resolve, invoke, builtin, Builtin.len_, hx, run_underlying ht, goInt]
theorem x_len_sl {x : Operand} {t e : TypeId} {A : Option Addr} {n c : Nat} (ht : P.underlying t = some (.slice e)) (hx : ev ρ x = .slice A n c) :
    (execOp (ev ρ) ⟨d, .call ⟨.builtin .len, #[x], #[t]⟩, ty, pos, af, g⟩).run P w = .ok (.value (.int .i64 n)) w := by
  simp [execOp, resolve, invoke, builtin, Builtin.len_, hx, run_underlying ht, goInt]
theorem x_min {x y : Operand} {ts : Array TypeId} {k : IntKind} {a b : Int} (hx : ev ρ x = .int k a) (hy : ev ρ y = .int k b) :
    (execOp (ev ρ) ⟨d, .call ⟨.builtin .min, #[x, y], ts⟩, ty, pos, af, g⟩).run P w = .ok (.value (.int k (if b < a then b else a))) w := by
  simp [execOp, resolve, invoke, builtin, Builtin.min_, Builtin.min2, hx, hy, List.foldlM]
theorem x_max {x y : Operand} {ts : Array TypeId} {k : IntKind} {a b : Int} (hx : ev ρ x = .int k a) (hy : ev ρ y = .int k b) :
    (execOp (ev ρ) ⟨d, .call ⟨.builtin .max, #[x, y], ts⟩, ty, pos, af, g⟩).run P w = .ok (.value (.int k (if b > a then b else a))) w := by
  simp [execOp, resolve, invoke, builtin, Builtin.max_, Builtin.max2, hx, hy, List.foldlM]
theorem x_index_str {t : TypeId} {x i : Operand} {s : ByteArray} {n : Int} {k : IntKind} {c : UInt8} (ht : P.underlying t = some .string) (hx : ev ρ x = .string s) (hi : ev ρ i = .int k n)
    (h0 : 0 ≤ n) (hc : s.data.toList[n.toNat]? = some c) : (execOp (ev ρ) ⟨d, .index t x i, ty, pos, af, g⟩).run P w = .ok (.value (.int .u8 c.toNat)) w := by
  have hs : s[n.toNat]? = some c := by
    rw [← hc]
    obtain ⟨h1, h2⟩ := List.getElem?_eq_some_iff.1 hc
    have h3 : n.toNat < s.size := by simpa using h1
    rw [getElem?_pos s n.toNat h3, getElem?_pos s.data.toList n.toNat h1]
    rfl
  simp [execOp, hx, hi, Instr.index, asIntOf, run_underlying ht, h0, hs]
theorem x_slice_str {t : TypeId} {x : Operand} {lo hi : Option Operand} {s : ByteArray} {l h : Nat} (ht : P.underlying t = some .string) (hx : ev ρ x = .string s)
    (hlo : match lo with | none => l = 0 | some o => ∃ (k : IntKind) (n : Int), ev ρ o = .int k n ∧ n = l) (hhi : match hi with | none => h = s.size | some o => ∃ (k : IntKind) (n : Int), ev ρ o = .int k n ∧ n = h)
    (h1 : l ≤ h) (h2 : h ≤ s.size) : (execOp (ev ρ) ⟨d, .slice t x lo hi none, ty, pos, af, g⟩).run P w = .ok (.value (.string (s.extract l h))) w := by
  have e1 : (l : Int) ≤ h := by omega
  have e2 : (h : Int) ≤ s.size := by omega
  cases lo <;> cases hi <;> simp only [] at hlo hhi
  · subst hlo; subst hhi
    simp [execOp, hx, Instr.sliceAt, Instr.slice, run_underlying ht, Instr.sliceBounds]
  · obtain ⟨k2, n2, hv2, rfl⟩ := hhi
    subst hlo
    simp [execOp, hx, Instr.sliceAt, Instr.slice, run_underlying ht, Instr.sliceBounds, Instr.sliceBound, asIntOf, hv2, h2]
  · obtain ⟨k2, n2, hv2, rfl⟩ := hlo
    subst hhi
    simp [execOp, hx, Instr.sliceAt, Instr.slice, run_underlying ht, Instr.sliceBounds, Instr.sliceBound, asIntOf, hv2, h1]
  · obtain ⟨k2, n2, hv2, rfl⟩ := hhi
    obtain ⟨k3, n3, hv3, rfl⟩ := hlo
    simp [execOp, hx, Instr.sliceAt, Instr.slice, run_underlying ht, Instr.sliceBounds, Instr.sliceBound, asIntOf, hv2, hv3, h1, h2]
theorem x_slice_sl {t e : TypeId} {x : Operand} {lo hi : Option Operand} {A : Option Addr} {n c l h sz : Nat} (ht : P.underlying t = some (.slice e)) (hsz : (P.info? e).map (·.size) = some sz) (hx : ev ρ x = .slice A n c)
    (hlo : match lo with | none => l = 0 | some o => ∃ (k : IntKind) (n : Int), ev ρ o = .int k n ∧ n = l) (hhi : match hi with | none => h = n | some o => ∃ (k : IntKind) (n : Int), ev ρ o = .int k n ∧ n = h)
    (h1 : l ≤ h) (h2 : h ≤ c) : (execOp (ev ρ) ⟨d, .slice t x lo hi none, ty, pos, af, g⟩).run P w = .ok (.value (.slice (if c = l then A else A.map (·.add (l * sz))) (h - l) (c - l))) w := by
  obtain ⟨i, hi1, hi2⟩ := Option.map_eq_some_iff.1 hsz
  have e1 : (l : Int) ≤ h := by omega
  have e2 : (h : Int) ≤ c := by omega
  cases lo <;> cases hi <;> simp only [] at hlo hhi
  · subst hlo; subst hhi
    simp [execOp, hx, Instr.sliceAt, Instr.slice, run_underlying ht, Instr.sliceBounds, sizeOf, typeInfo, hi1]
  · obtain ⟨k2, n2, hv2, rfl⟩ := hhi
    subst hlo
    simp [execOp, hx, Instr.sliceAt, Instr.slice, run_underlying ht, Instr.sliceBounds, Instr.sliceBound, asIntOf, hv2, h2, sizeOf, typeInfo, hi1]
  · obtain ⟨k2, n2, hv2, rfl⟩ := hlo
    subst hhi
    simp [execOp, hx, Instr.sliceAt, Instr.slice, run_underlying ht, Instr.sliceBounds, Instr.sliceBound, asIntOf, hv2, h1, sizeOf, typeInfo, hi1, hi2]
  · obtain ⟨k2, n2, hv2, rfl⟩ := hhi
    obtain ⟨k3, n3, hv3, rfl⟩ := hlo
    simp [execOp, hx, Instr.sliceAt, Instr.slice, run_underlying ht, Instr.sliceBounds, Instr.sliceBound, asIntOf, hv2, hv3, h1, h2, sizeOf, typeInfo, hi1, hi2]
theorem x_indexAddr {t e : TypeId} {x i : Operand} {ad : Addr} {n c sz : Nat} {k : IntKind} {m : Int} (ht : P.underlying t = some (.slice e)) (hsz : (P.info? e).map (·.size) = some sz) (hx : ev ρ x = .slice (some ad) n c) (hi : ev ρ i = .int k m)
    (h0 : 0 ≤ m) (h1 : m < n) : (execOp (ev ρ) ⟨d, .indexAddr t x i, ty, pos, af, g⟩).run P w = .ok (.value (.pointer (some (ad.add (m.toNat * sz))))) w := by
  obtain ⟨i, hi1, hi2⟩ := Option.map_eq_some_iff.1 hsz
  simp [execOp, hx, hi, Instr.indexAt, asIntOf, run_underlying ht, sizeOf, typeInfo, hi1, hi2, h0, h1]
/-- the element's place in a row of one's own. -/
theorem x_indexRow {t e : TypeId} {x i : Operand} {b n c sz k : Nat} {kk : IntKind} {m : Int} (ht : P.underlying t = some (.slice e)) (hsz : (P.info? e).map (·.size) = some sz) (hx : ev ρ x = .slice (some ⟨b, 0, none⟩) n c) (hi : ev ρ i = .int kk m)
    (hm : m = (k : Int)) (h1 : k < n) : (execOp (ev ρ) ⟨d, .indexAddr t x i, ty, pos, af, g⟩).run P w = .ok (.value (.pointer (some ⟨b, k * sz, none⟩))) w := by
  have h := x_indexAddr (P := P) (w := w) (d := d) (ty := ty) (pos := pos) (af := af) (g := g) ht hsz hx hi (by omega) (by omega)
  rw [h, hm]
  have : (⟨b, 0, none⟩ : Addr).add (((k : Int)).toNat * sz) = ⟨b, k * sz, none⟩ := by
    unfold Addr.add
    split
    · rename_i h0
      rw [Int.toNat_natCast] at h0
      rw [h0]
    · rw [Int.toNat_natCast]; simp
  rw [this]
theorem x_call {x : Operand} {args : Array Operand} {ts : Array TypeId} {f : FuncId} {fn : Func} {first cap : Array Value} {vs : Array Value} (hf : P.funcs[f]? = some fn) (hb : fn.body.isNone = false) (hn : (fn.name == "runtime.NumGoroutine") = false)
    (hx : ev ρ x = .func (.func f) first cap) (ha : args.map (ev ρ) = vs) : (execOp (ev ρ) ⟨d, .call ⟨.value x, args, ts⟩, ty, pos, af, g⟩).run P w = .ok (.enter f (first ++ vs ++ cap)) w := by
  have h1 : ¬ fn.name = "runtime.NumGoroutine" := by simpa using hn
  have h2 : ¬ fn.body = none := by intro h; simp [h] at hb
  simp [execOp, resolve, Deferred.ofValue, hx, ha, invoke, callFunc, program, Sem.run, hf, h1, h2]
end
end Go.Proofs.YthmmofllajkejaaGreatDoor

/- The calculus' rules for memory: what a call has made itself is a list of blocks and rows, known whole; what was there before it stays. Plain lemmas, no program in sight. -/
namespace Go.Proofs.YthmmofllajkejaaGreatDoor
open Go.RowKit

def tinfo (P : Program) (t : TypeId) : Option (Nat × Bool × Nat × List Value) :=
  match P.info? t, P.underlying t with
  | some i, some d => i.zero.map fun z => (i.size, (match d with | .struct _ | .array _ _ => true | _ => false), i.bytes, z.cells.toList)
  | _, _ => none
theorem tinfo_spec {P : Program} {t : TypeId} {n by' : Nat} {ag : Bool} {zc : List Value} (h : tinfo P t = some (n, ag, by', zc)) :
    ∃ i z d, P.info? t = some i ∧ P.underlying t = some d ∧ i.zero = some z ∧ i.size = n ∧ i.bytes = by' ∧ z.cells = zc.toArray ∧ (match d with | .struct _ | .array _ _ => true | _ => false) = ag := by
  unfold tinfo at h
  split at h
  · rename_i i d hi hd
    obtain ⟨z, hz, he⟩ := Option.map_eq_some_iff.1 h
    simp only [Prod.mk.injEq] at he
    exact ⟨i, z, d, hi, hd, hz, he.1, he.2.2.1, by rw [← he.2.2.2], he.2.1⟩
  · cases h
section
variable {P : Program} {w : World} {t : TypeId} {n by' : Nat} {ag : Bool} {zc : List Value}
theorem run_sizeOf' (h : tinfo P t = some (n, ag, by', zc)) : (sizeOf t).run P w = .ok n w := by
  obtain ⟨i, z, d, hi, hd, hz, hs, _⟩ := tinfo_spec h
  simp [sizeOf, typeInfo, hi, hs]
theorem run_isAgg' (h : tinfo P t = some (n, ag, by', zc)) : (isAgg t).run P w = .ok ag w := by
  obtain ⟨i, z, d, hi, hd, hz, hs, _, _, ha⟩ := tinfo_spec h
  simp only [isAgg, Sem.run_bind, run_underlying hd, Result.andThen_ok]
  subst ha
  cases d <;> rfl
theorem run_zeroValue' (h : tinfo P t = some (n, ag, by', zc)) : ∃ z, (zeroValue t).run P w = .ok z w ∧ z.cells = zc.toArray := by
  obtain ⟨i, z, d, hi, hd, hz, hs, _, hc, _⟩ := tinfo_spec h
  exact ⟨z, by simp [zeroValue, typeInfo, hi, hz], hc⟩
end

/-- At an address one reads the cells vs. -/
def Rd (w : World) (ad : Addr) (vs : List Value) : Prop := ∀ j u, vs[j]? = some u → w.cell? (ad.add j) = some u
/-- A slice value '.slice A n c', elements of k cells, reads as the cells xs. -/
def Sl (w : World) (A : Option Addr) (n k : Nat) (xs : List Value) : Prop := xs.length = n * k ∧ (0 < n → ∃ ad, A = some ad ∧ Rd w ad xs)
theorem addr_add (b o n : Nat) : (⟨b, o, none⟩ : Addr).add n = ⟨b, o + n, none⟩ := by
  unfold Addr.add
  split
  · rename_i h; subst h; rfl
  · rfl
theorem addr_block (a : Addr) (n : Nat) : (a.add n).block = a.block := by unfold Addr.add; split <;> rfl
theorem addr_add_add (a : Addr) (i j : Nat) : (a.add i).add j = a.add (i + j) := by
  unfold Addr.add
  by_cases hi : i = 0 <;> by_cases hj : j = 0 <;> simp [hi, hj, Nat.add_assoc]
theorem cell_lt {w : World} {a : Addr} {v : Value} (h : w.cell? a = some v) : a.block < w.heap.size := block_lt_of_cell h
theorem below_cell {w w' : World} (h : Below w.heap.size w w') {a : Addr} {v : Value} (hc : w.cell? a = some v) : w'.cell? a = some v := (h.cell (cell_lt hc)).trans hc
theorem Rd.ext {w w' : World} {ad : Addr} {vs : List Value} (h : Rd w ad vs) (hb : Below w.heap.size w w') : Rd w' ad vs := fun j u hu => below_cell hb (h j u hu)
theorem Sl.ext {w w' : World} {A : Option Addr} {n k : Nat} {xs : List Value} (h : Sl w A n k xs) (hb : Below w.heap.size w w') : Sl w' A n k xs :=
  ⟨h.1, fun hn => let ⟨ad, ha, hr⟩ := h.2 hn; ⟨ad, ha, hr.ext hb⟩⟩
theorem Rd.drop {w : World} {ad : Addr} {vs : List Value} (h : Rd w ad vs) (i : Nat) : Rd w (ad.add i) (vs.drop i) := fun j u hu => by
  rw [addr_add_add]
  exact h _ u (by rw [← hu, List.getElem?_drop])
theorem Rd.take {w : World} {ad : Addr} {vs : List Value} (h : Rd w ad vs) (n : Nat) : Rd w ad (vs.take n) := fun j u hu => by
  rw [List.getElem?_take] at hu
  split at hu
  · exact h _ u hu
  · cases hu
theorem Rd.cell {w : World} {ad : Addr} {vs : List Value} (h : Rd w ad vs) {i : Nat} {v : Value} (hv : vs[i]? = some v) : w.cell? (ad.add i) = some v := h i v hv
theorem Sl.nil (w : World) (A : Option Addr) (k : Nat) : Sl w A 0 k [] := ⟨by simp, fun h => absurd h (by omega)⟩
/-- The address of a slice that is not empty. -/
theorem Sl.at_ {w : World} {A : Option Addr} {n k : Nat} {xs : List Value} (h : Sl w A n k xs) (hn : 0 < n) : ∃ ad, A = some ad ∧ Rd w ad xs := h.2 hn
/-- The i-th element's cells. -/
theorem Rd.elem {w : World} {ad : Addr} {xs : List Value} (h : Rd w ad xs) (i k : Nat) : Rd w (ad.add (i * k)) ((xs.drop (i * k)).take k) := (h.drop _).take _
theorem Sl.cut {w : World} {A : Option Addr} {n k c l m : Nat} {xs : List Value} (h : Sl w A n k xs) (hl : l ≤ m) (hm : m ≤ n) (hc : n ≤ c) :
    Sl w (if c = l then A else A.map (·.add (l * k))) (m - l) k ((xs.drop (l * k)).take ((m - l) * k)) := by
  have hle : l * k + (m - l) * k ≤ n * k := by
    rw [← Nat.add_mul]
    exact Nat.mul_le_mul_right _ (by omega)
  refine ⟨by rw [List.length_take, List.length_drop, h.1]; omega, fun hn => ?_⟩
  obtain ⟨ad, rfl, hr⟩ := h.2 (by omega)
  rw [if_neg (by omega)]
  exact ⟨_, rfl, (hr.drop _).take _⟩

/-- What a call owns: a block that is known whole, or a row that may still grow. -/
inductive HE where
  | blk (b : Nat) (t : TypeId) (cs : List Value) (fz : Nat × Nat)
  | row (A : Option Addr) (n c : Nat) (t : TypeId) (sz : Nat) (xs : List Value)
  | it (b : Nat) (s : ByteArray) (pos : Nat)
def HE.id : HE → Option Nat
  | .blk b _ _ _ => some b
  | .row A _ _ _ _ _ => A.map (·.block)
  | .it b _ _ => some b
def HE.holds (base : Nat) (w : World) : HE → Prop
  | .blk b t cs fz => base ≤ b ∧ w.heap[b]? = some (.cells cs.toArray t fz) ∧ (cs.length ≤ fz.1 ∨ fz.2 ≤ fz.1)
  | .row A n c t sz xs => w.ownsRow base t sz (.slice A n c) n xs
  | .it b s pos => base ≤ b ∧ w.heap[b]? = some (.stringIter s pos)
structure Hp (w0 : World) (H : List HE) (w : World) : Prop where
  below : Below w0.heap.size w0 w
  own : ∀ x ∈ H, x.holds w0.heap.size w
  nd : (H.filterMap HE.id).Nodup
section
variable {w0 w w' : World} {H : List HE}
theorem Hp.start (w : World) : Hp w [] w := ⟨Below.refl _ _, fun _ h => (nomatch h), List.nodup_nil⟩
theorem Hp.size (h : Hp w0 H w) : w0.heap.size ≤ w.heap.size := h.below.size
theorem holds_lt {base : Nat} {x : HE} (h : x.holds base w) {b : Nat} (hb : x.id = some b) : base ≤ b ∧ b < w.heap.size := by
  cases x with
  | blk b' t cs fz =>
    obtain rfl : b' = b := by simpa [HE.id] using hb
    refine ⟨h.1, ?_⟩
    rcases Nat.lt_or_ge b' w.heap.size with hlt | hge
    · exact hlt
    · have := h.2.1; rw [Array.getElem?_eq_none hge] at this; cases this
  | row A n c t sz xs =>
    cases A with
    | none => simp [HE.id] at hb
    | some a => exact World.ownsRow.lt h b (by simpa [HE.id, Value.ownBlock] using hb)
  | it b' s pos =>
    obtain rfl : b' = b := by simpa [HE.id] using hb
    refine ⟨h.1, ?_⟩
    rcases Nat.lt_or_ge b' w.heap.size with hlt | hge
    · exact hlt
    · have := h.2; rw [Array.getElem?_eq_none hge] at this; cases this
theorem holds_keep {base : Nat} {x : HE} (h : x.holds base w) (hk : ∀ b, x.id = some b → w'.heap[b]? = w.heap[b]?) : x.holds base w' := by
  cases x with
  | blk b t cs fz => exact ⟨h.1, (hk b rfl).trans h.2.1, h.2.2⟩
  | row A n c t sz xs =>
    obtain ⟨h1, h2⟩ := h
    refine ⟨h1, ?_⟩
    rcases h2 with h2 | ⟨g, cap, cur, hv, hg, hh, r⟩
    · exact .inl h2
    · have hA : A = some ⟨g, 0, none⟩ := by injection hv
      subst hA
      exact .inr ⟨g, cap, cur, hv, hg, (hk g rfl).trans hh, r⟩
  | it b s pos => exact ⟨h.1, (hk b rfl).trans h.2⟩
theorem Hp.ext (h : Hp w0 H w) (hb : Below w.heap.size w w') : Hp w0 H w' :=
  ⟨h.below.trans (hb.mono h.size), fun x hx => holds_keep (h.own x hx) fun _ hi => hb.block _ (holds_lt (h.own x hx) hi).2, h.nd⟩
theorem Hp.drew (h : Hp w0 H w) : Hp w0 H w.drew := ⟨h.below.drew, h.own, h.nd⟩
theorem Hp.sub (h : Hp w0 H w) {H' : List HE} (hs : H'.Sublist H) : Hp w0 H' w := ⟨h.below, fun x hx => h.own x (hs.subset hx), h.nd.sublist (hs.filterMap _)⟩
theorem Hp.at_ (h : Hp w0 H w) {i : Nat} {x : HE} (hi : H[i]? = some x) : x.holds w0.heap.size w := h.own x (List.mem_of_getElem? hi)
theorem Hp.push_new (h : Hp w0 H w) (hb : Below w.heap.size w w') {x : HE} (hx : x.holds w.heap.size w') : Hp w0 (x :: H) w' := by
  have h' := h.ext hb
  refine ⟨h'.below, ?_, ?_⟩
  · intro y hy
    rcases List.mem_cons.1 hy with rfl | hy
    · cases y with
      | blk b t cs fz => exact ⟨Nat.le_trans h.size hx.1, hx.2⟩
      | row A n c t sz xs =>
        obtain ⟨h1, h2⟩ := hx
        exact ⟨h1, h2.imp id fun ⟨g, cap, cur, hv, hg, r⟩ => ⟨g, cap, cur, hv, Nat.le_trans h.size hg, r⟩⟩
      | it b s pos => exact ⟨Nat.le_trans h.size hx.1, hx.2⟩
    · exact h'.own y hy
  · rw [List.filterMap_cons]
    split
    · exact h'.nd
    · rename_i b hb'
      refine List.nodup_cons.2 ⟨fun hm => ?_, h'.nd⟩
      obtain ⟨y, hy, hyb⟩ := List.mem_filterMap.1 hm
      have h1 := (holds_lt hx hb').1
      have h2 := (holds_lt (h.own y hy) hyb).2
      omega
/-- One entry's block turns, all else stays. -/
theorem Hp.set_ (h : Hp w0 H w) {i : Nat} {x y : HE} (hi : H[i]? = some x) (hid : ∀ b, y.id = some b → x.id = some b ∨ w.heap.size ≤ b)
    (hb : Below w0.heap.size w0 w') (hk : ∀ b, b < w.heap.size → x.id ≠ some b → w'.heap[b]? = w.heap[b]?) (hy : y.holds w0.heap.size w') : Hp w0 (H.set i y) w' := by
  obtain ⟨hlt, hx⟩ := List.getElem?_eq_some_iff.1 hi
  have hsplit : H = H.take i ++ x :: H.drop (i + 1) := by
    rw [← hx, ← List.drop_eq_getElem_cons hlt, List.take_append_drop]
  have hset : H.set i y = H.take i ++ y :: H.drop (i + 1) := by rw [List.set_eq_take_append_cons_drop, if_pos hlt]
  have hnd := h.nd
  rw [hsplit, List.filterMap_append] at hnd
  have hother : ∀ z, z ∈ H.take i ∨ z ∈ H.drop (i + 1) → z ∈ H ∧ (∀ b, z.id = some b → x.id ≠ some b) := by
    intro z hz
    refine ⟨hz.elim List.mem_of_mem_take List.mem_of_mem_drop, fun b hzb hxb => ?_⟩
    rw [List.filterMap_cons, hxb] at hnd
    simp only [] at hnd
    rw [List.nodup_append] at hnd
    rcases hz with hz | hz
    · exact hnd.2.2 b (List.mem_filterMap.2 ⟨z, hz, hzb⟩) b (List.mem_cons_self) rfl
    · exact (List.nodup_cons.1 hnd.2.1).1 (List.mem_filterMap.2 ⟨z, hz, hzb⟩)
  have hold : ∀ z, z ∈ H.take i ∨ z ∈ H.drop (i + 1) → z.holds w0.heap.size w' := fun z hz => by
    obtain ⟨hm, hne⟩ := hother z hz
    exact holds_keep (h.own z hm) fun b hzb => hk b (holds_lt (h.own z hm) hzb).2 (hne b hzb)
  rw [hset]
  refine ⟨hb, ?_, ?_⟩
  · intro z hz
    rcases List.mem_append.1 hz with hz | hz
    · exact hold z (.inl hz)
    · rcases List.mem_cons.1 hz with rfl | hz
      · exact hy
      · exact hold z (.inr hz)
  · rw [List.filterMap_append]
    have hsub : ((H.take i).filterMap HE.id ++ (H.drop (i + 1)).filterMap HE.id).Nodup := by
      refine hnd.sublist (List.Sublist.append (List.Sublist.refl _) ?_)
      exact List.Sublist.filterMap _ (List.sublist_cons_self _ _)
    rw [List.filterMap_cons]
    split
    · exact hsub
    · rename_i b hyb
      have hfresh : ∀ z, z ∈ H.take i ∨ z ∈ H.drop (i + 1) → z.id ≠ some b := fun z hz hzb => by
        obtain ⟨hm, hne⟩ := hother z hz
        rcases hid b hyb with h1 | h1
        · exact hne b hzb h1
        · have := (holds_lt (h.own z hm) hzb).2; omega
      rw [List.nodup_append] at hsub ⊢
      refine ⟨hsub.1, List.nodup_cons.2 ⟨fun hm => ?_, hsub.2.1⟩, fun u hu v hv => ?_⟩
      · obtain ⟨z, hz, hzb⟩ := List.mem_filterMap.1 hm
        exact hfresh z (.inr hz) hzb
      · rcases List.mem_cons.1 hv with rfl | hv
        · rintro rfl
          obtain ⟨z, hz, hzb⟩ := List.mem_filterMap.1 hu
          exact hfresh z (.inl hz) hzb
        · exact hsub.2.2 u hu v hv
end
/-! Reading what one owns. -/
section
variable {w0 w w' : World} {H : List HE}
theorem Hp.rd_blk (h : Hp w0 H w) {i b : Nat} {t : TypeId} {cs : List Value} {fz : Nat × Nat} (hi : H[i]? = some (.blk b t cs fz)) : Rd w ⟨b, 0, none⟩ cs := fun j u hu => by
  have h1 := (h.at_ hi).2.1
  rw [addr_add, Nat.zero_add, cell_of_row w b j _ t fz h1]
  simpa using hu
theorem Hp.cell_blk (h : Hp w0 H w) {i b o : Nat} {t : TypeId} {cs : List Value} {fz : Nat × Nat} {v : Value} (hi : H[i]? = some (.blk b t cs fz)) (hv : cs[o]? = some v) : w.cell? ⟨b, o, none⟩ = some v := by
  have := h.rd_blk hi o v hv
  rwa [addr_add, Nat.zero_add] at this
theorem Hp.rd_blk_at (h : Hp w0 H w) {i b o n : Nat} {t : TypeId} {cs vs : List Value} {fz : Nat × Nat} (hi : H[i]? = some (.blk b t cs fz)) (hv : (cs.drop o).take n = vs) : Rd w ⟨b, o, none⟩ vs := by
  have := ((h.rd_blk hi).drop o).take n
  rwa [addr_add, Nat.zero_add, hv] at this
theorem owns_sl {base : Nat} {t : TypeId} {A : Option Addr} {n c sz : Nat} {xs : List Value} (h : w.ownsRow base t sz (.slice A n c) n xs) : Sl w A n sz xs := by
  refine ⟨h.1, fun hn => ?_⟩
  obtain ⟨g, cap, hv, _, hlt⟩ := h.form hn
  have hA : A = some ⟨g, 0, none⟩ := by injection hv
  subst hA
  exact ⟨_, rfl, h.cells (g := g) rfl⟩
theorem Hp.row_some (h : Hp w0 H w) {i n c sz : Nat} {A : Option Addr} {t : TypeId} {xs : List Value} (hi : H[i]? = some (.row A n c t sz xs)) (hn : 0 < n) : ∃ g, A = some ⟨g, 0, none⟩ := by
  obtain ⟨g, cap, hv, _⟩ := World.ownsRow.form (h.at_ hi) hn
  injection hv with hA
  exact ⟨g, hA⟩
theorem Hp.cell_row (h : Hp w0 H w) {i b n c sz o : Nat} {t : TypeId} {xs : List Value} {v : Value} (hi : H[i]? = some (.row (some ⟨b, 0, none⟩) n c t sz xs)) (hv : xs[o]? = some v) : w.cell? ⟨b, o, none⟩ = some v := by
  have := World.ownsRow.cells (h.at_ hi) (g := b) rfl o v hv
  rwa [addr_add, Nat.zero_add] at this
theorem Hp.row_len (h : Hp w0 H w) {i n c sz : Nat} {A : Option Addr} {t : TypeId} {xs : List Value} (hi : H[i]? = some (.row A n c t sz xs)) : xs.length = n * sz := (h.at_ hi).1
theorem Hp.sl_row (h : Hp w0 H w) {i n c sz : Nat} {A : Option Addr} {t : TypeId} {xs : List Value} (hi : H[i]? = some (.row A n c t sz xs)) : Sl w A n sz xs := owns_sl (h.at_ hi)
end
section
variable {P : Program} {ρ : Rf} {w : World} {d : Option Nat} {ty : TypeId} {pos : String} {af : Array Edge} {g : Option (Nat × Bool)}
theorem x_load {t : TypeId} {x : Operand} {ad : Addr} {n by' : Nat} {zc vs : List Value} (ht : tinfo P t = some (n, true, by', zc)) (hx : ev ρ x = .pointer (some ad)) (hr : Rd w ad vs) (hl : vs.length = n) :
    (execOp (ev ρ) ⟨d, .load t x, ty, pos, af, g⟩).run P w = .ok (.value (.agg vs.toArray)) w := by
  subst hl
  simp [execOp, hx, Instr.loadAt, Instr.sureAddr, loadVar, run_isAgg' ht, run_sizeOf' ht, run_loadCells_list (P := P) w ad vs hr]
theorem x_load1 {t : TypeId} {x : Operand} {ad : Addr} {n by' : Nat} {zc : List Value} {v : Value} (ht : tinfo P t = some (n, false, by', zc)) (hx : ev ρ x = .pointer (some ad)) (hc : w.cell? ad = some v) :
    (execOp (ev ρ) ⟨d, .load t x, ty, pos, af, g⟩).run P w = .ok (.value v) w := by
  simp [execOp, hx, Instr.loadAt, Instr.sureAddr, loadVar, run_isAgg' ht, run_load, hc]
theorem lv_agg {t : TypeId} {ad : Addr} {n by' : Nat} {zc vs : List Value} (ht : tinfo P t = some (n, true, by', zc)) (hr : Rd w ad vs) (hl : vs.length = n) :
    (loadVar t ad).run P w = .ok (.agg vs.toArray) w := by
  subst hl
  simp [loadVar, run_isAgg' ht, run_sizeOf' ht, run_loadCells_list (P := P) w ad vs hr]
theorem lv_one {t : TypeId} {ad : Addr} {n by' : Nat} {zc : List Value} {v : Value} (ht : tinfo P t = some (n, false, by', zc)) (hc : w.cell? ad = some v) :
    (loadVar t ad).run P w = .ok v w := by
  simp [loadVar, run_isAgg' ht, run_load, hc]
/-- The offset of a struct's field of at least one cell. -/
def fieldOff (P : Program) (s : TypeId) (i : Nat) : Option (Nat × TypeId) :=
  match P.underlying s with
  | some (.struct fs) => match fs[i]? with
    | some f => if P.cellsOf f.type = 0 then none else some (f.offset, f.type)
    | none => none
  | _ => none
theorem x_fieldAddr {s : TypeId} {x : Operand} {f b o off : Nat} {ft : TypeId} (hf : fieldOff P s f = some (off, ft)) (hx : ev ρ x = .pointer (some ⟨b, o, none⟩)) :
    (execOp (ev ρ) ⟨d, .fieldAddr s x f, ty, pos, af, g⟩).run P w = .ok (.value (.pointer (some ⟨b, o + off, none⟩))) w := by
  unfold fieldOff at hf
  split at hf
  · rename_i fs hs
    split at hf
    · rename_i fd hfd
      split at hf
      · cases hf
      · rename_i hc
        simp only [Option.some.injEq, Prod.mk.injEq] at hf
        obtain ⟨rfl, rfl⟩ := hf
        have hsz : ∃ i, P.info? fd.type = some i ∧ i.size ≠ 0 := by
          unfold Program.cellsOf at hc
          cases hi : P.info? fd.type with
          | none => simp [hi] at hc
          | some i => exact ⟨i, rfl, by simpa [hi] using hc⟩
        obtain ⟨i, hi, hi0⟩ := hsz
        simp [execOp, hx, Instr.fieldAt, run_underlying hs, hfd, Instr.sureAddr, fieldPlace, sizeOf, typeInfo, hi, hi0, addr_add]
    · cases hf
  · cases hf
theorem x_fieldAddrA {s : TypeId} {x : Operand} {f off : Nat} {ad : Addr} {ft : TypeId} (hf : fieldOff P s f = some (off, ft)) (hx : ev ρ x = .pointer (some ad)) :
    (execOp (ev ρ) ⟨d, .fieldAddr s x f, ty, pos, af, g⟩).run P w = .ok (.value (.pointer (some (ad.add off)))) w := by
  unfold fieldOff at hf
  split at hf
  · rename_i fs hs
    split at hf
    · rename_i fd hfd
      split at hf
      · cases hf
      · rename_i hc
        simp only [Option.some.injEq, Prod.mk.injEq] at hf
        obtain ⟨rfl, rfl⟩ := hf
        have hsz : ∃ i, P.info? fd.type = some i ∧ i.size ≠ 0 := by
          unfold Program.cellsOf at hc
          cases hi : P.info? fd.type with
          | none => simp [hi] at hc
          | some i => exact ⟨i, rfl, by simpa [hi] using hc⟩
        obtain ⟨i, hi, hi0⟩ := hsz
        simp [execOp, hx, Instr.fieldAt, run_underlying hs, hfd, Instr.sureAddr, fieldPlace, sizeOf, typeInfo, hi, hi0]
    · cases hf
  · cases hf
theorem x_field1 {s : TypeId} {x : Operand} {f off n by' : Nat} {ft : TypeId} {cs : Array Value} {v : Value} {zc : List Value} (hf : fieldOff P s f = some (off, ft)) (ht : tinfo P ft = some (n, false, by', zc)) (hx : ev ρ x = .agg cs) (hv : cs[off]? = some v) :
    (execOp (ev ρ) ⟨d, .field s x f, ty, pos, af, g⟩).run P w = .ok (.value v) w := by
  unfold fieldOff at hf
  split at hf
  · rename_i fs hs
    split at hf
    · rename_i fd hfd
      split at hf
      · cases hf
      · simp only [Option.some.injEq, Prod.mk.injEq] at hf
        obtain ⟨rfl, rfl⟩ := hf
        simp [execOp, hx, Instr.field, run_underlying hs, hfd, asAgg, part, run_isAgg' ht, hv]
    · cases hf
  · cases hf
theorem x_field {s : TypeId} {x : Operand} {f off n by' : Nat} {ft : TypeId} {cs vs : Array Value} {zc : List Value} (hf : fieldOff P s f = some (off, ft)) (ht : tinfo P ft = some (n, true, by', zc)) (hx : ev ρ x = .agg cs) (hv : cs.extract off (off + n) = vs) :
    (execOp (ev ρ) ⟨d, .field s x f, ty, pos, af, g⟩).run P w = .ok (.value (.agg vs)) w := by
  unfold fieldOff at hf
  split at hf
  · rename_i fs hs
    split at hf
    · rename_i fd hfd
      split at hf
      · cases hf
      · simp only [Option.some.injEq, Prod.mk.injEq] at hf
        obtain ⟨rfl, rfl⟩ := hf
        simp [execOp, hx, Instr.field, run_underlying hs, hfd, asAgg, part, run_isAgg' ht, run_sizeOf' ht, hv]
    · cases hf
  · cases hf
end
end Go.Proofs.YthmmofllajkejaaGreatDoor

/- The calculus' rules for operations that make or write memory. Plain lemmas, no program in sight. -/
namespace Go.Proofs.YthmmofllajkejaaGreatDoor
open Go.RowKit
/-- vs laid over cs from o on. -/
def splice (cs : List Value) (o : Nat) (vs : List Value) : List Value := cs.take o ++ vs ++ cs.drop (o + vs.length)
theorem length_splice {cs vs : List Value} {o : Nat} (h : o + vs.length ≤ cs.length) : (splice cs o vs).length = cs.length := by
  simp only [splice, List.length_append, List.length_take, List.length_drop]; omega
theorem splice_nil (cs : List Value) (o : Nat) : splice cs o [] = cs := by simp [splice]
theorem splice_cons {cs vs : List Value} {o : Nat} {v : Value} (h : o + (v :: vs).length ≤ cs.length) : splice cs o (v :: vs) = splice (cs.set o v) (o + 1) vs := by
  simp only [List.length_cons] at h
  have h0 : cs.set o v = cs.take o ++ v :: cs.drop (o + 1) := by rw [List.set_eq_take_append_cons_drop, if_pos (by omega)]
  have h2 : (cs.take o).length = o := by simp; omega
  have h1 : (cs.set o v).take (o + 1) = cs.take o ++ [v] := by
    rw [h0, List.take_append, h2, List.take_of_length_le (by omega)]
    simp
  have h3 : (cs.set o v).drop (o + 1 + vs.length) = cs.drop (o + 1 + vs.length) := List.drop_set_of_lt (by omega)
  unfold splice
  rw [h1, h3]
  simp [Nat.add_assoc, Nat.add_comm 1]
theorem grownBy_trans {a b c : World} {r : Option Nat} (h : a.grownBy b r) (k : b.grownBy c r) : a.grownBy c r :=
  ⟨k.os.trans h.os, k.tape.trans h.tape, k.output.trans h.output, Nat.le_trans h.size k.size, fun i hi hne => (k.block i (Nat.lt_of_lt_of_le hi h.size) hne).trans (h.block i hi hne)⟩
theorem grownBy_set (w : World) (b o : Nat) (v : Value) : w.grownBy (w.setCell ⟨b, o, none⟩ v) (some b) :=
  ⟨rfl, rfl, rfl, by simp [World.setCell], fun k _ hne => Below.heap_setCell w _ v k (fun e => hne (by rw [e]))⟩
section
variable {P : Program}
theorem run_store_blk {b : Nat} {t : TypeId} {fz : Nat × Nat} (o : Nat) : ∀ (vs : List Value) (i : Nat) (cs : List Value) (w : World), w.heap[b]? = some (.cells cs.toArray t fz) → (cs.length ≤ fz.1 ∨ fz.2 ≤ fz.1) →
    o + i + vs.length ≤ cs.length → (∀ v ∈ vs, v.oneCell' = true) →
    ∃ w', (storeCells ⟨b, o, none⟩ vs i).run P w = .ok () w' ∧ w'.heap[b]? = some (.cells (splice cs (o + i) vs).toArray t fz) ∧ w.grownBy w' (some b) ∧ w'.heap.size = w.heap.size
  | [], i, cs, w, hw, _, _, _ => ⟨w, by simp [storeCells], by rw [splice_nil]; exact hw, World.grownBy.refl _ _, rfl⟩
  | v :: vs, i, cs, w, hw, hf, hl, h1 => by
    simp only [List.length_cons] at hl
    have hoi : o + i < cs.length := by omega
    have hc : w.cell? ⟨b, o + i, none⟩ = some cs[o + i] := by
      rw [cell_of_row w b (o + i) _ t fz hw]
      simp [List.getElem?_eq_getElem hoi]
    have hfr : w.frozen? ⟨b, o + i, none⟩ = false := by
      simp only [World.frozen?, hw]
      rcases hf with hf | hf <;> simp <;> omega
    have hw2 : (w.setCell ⟨b, o + i, none⟩ v).heap[b]? = some (.cells (cs.set (o + i) v).toArray t fz) := by
      simp [World.setCell, Array.getElem?_modify, hw]
    obtain ⟨w', hr, hb', hg, hs⟩ := run_store_blk (b := b) (t := t) (fz := fz) o vs (i + 1) (cs.set (o + i) v) _ hw2 (by simpa using hf) (by simp; omega) (fun u hu => h1 u (List.mem_cons_of_mem _ hu))
    refine ⟨w', ?_, ?_, grownBy_trans (grownBy_set w b (o + i) v) hg, hs.trans (by simp [World.setCell])⟩
    · simp only [storeCells, Sem.run_bind, addr_add, run_store P w ⟨b, o + i, none⟩ v .plain (h1 v (List.mem_cons_self)), hc, hfr]
      simpa using hr
    · rw [splice_cons (by simp; omega)]
      exact hb'
end
/-- fill, on lists. -/
def fillL (pl : Nat → Option (Nat × Nat)) : List Value → List (Nat × Value) → Option (List Value)
  | cs, [] => some cs
  | cs, (i, v) :: r =>
    match pl i with
    | none => none
    | some (off, size) => if v.cells.toList.length ≠ size ∨ cs.length < off + v.cells.toList.length then none else fillL pl (splice cs off v.cells.toList) r
theorem foldl_splice : ∀ (vs : List Value) (k o : Nat) (cs : List Value), o + k + vs.length ≤ cs.length →
    (vs.zipIdx k).foldl (fun (cs : Array Value) (x : Value × Nat) => cs.setIfInBounds (o + x.2) x.1) cs.toArray = (splice cs (o + k) vs).toArray
  | [], k, o, cs, _ => by simp [splice_nil]
  | v :: vs, k, o, cs, h => by
    rw [List.zipIdx_cons, List.foldl_cons]
    simp only [List.setIfInBounds_toArray]
    rw [foldl_splice vs (k + 1) o (cs.set (o + k) v) (by simp at h ⊢; omega), splice_cons (by simp at h ⊢; omega)]
    rfl
theorem fill_of {pl : Nat → Option (Nat × Nat)} : ∀ (ps : List (Nat × Value)) (zs cs : List Value), fillL pl zs ps = some cs → Instr.fill pl zs.toArray ps = some cs.toArray
  | [], zs, cs, h => by simp only [fillL, Option.some.injEq] at h; subst h; rfl
  | (i, v) :: r, zs, cs, h => by
    unfold fillL at h
    unfold Instr.fill
    split at h
    · cases h
    · rename_i off size hpl
      split at h
      · cases h
      · rename_i hc
        simp only [ne_eq, not_or, Decidable.not_not, Nat.not_lt] at hc
        simp only [hpl]
        have h1 : ¬ ((v.cells.size ≠ size || decide (off + v.cells.size > zs.toArray.size)) = true) := by
          have e : v.cells.size = v.cells.toList.length := by simp
          simp only [e, hc.1, List.size_toArray, Bool.or_eq_true, decide_eq_true_eq, ne_eq, not_true, decide_false, Bool.false_eq_true, false_or]
          omega
        rw [if_neg h1]
        have h2 : v.cells.zipIdx.foldl (fun (cs : Array Value) (x : Value × Nat) => cs.setIfInBounds (off + x.2) x.1) zs.toArray = (splice zs off v.cells.toList).toArray := by
          have := foldl_splice v.cells.toList 0 off zs (by omega)
          rw [Nat.add_zero] at this
          rw [← this, ← Array.foldl_toList, Array.toList_zipIdx]
        exact (congrArg (fun x => Instr.fill pl x r) h2).trans (fill_of r _ cs h)
/-- so many elements, each of the cells zc. -/
def zrep : Nat → List Value → List Value
  | 0, _ => []
  | n + 1, zc => zc ++ zrep n zc
theorem length_zrep (n : Nat) (zc : List Value) : (zrep n zc).length = n * zc.length := by
  induction n with
  | zero => simp [zrep]
  | succ n ih => simp [zrep, ih, Nat.add_mul, Nat.add_comm]
theorem zrep_at : ∀ (n : Nat) (zc : List Value) (i : Nat), i < n * zc.length → (zrep n zc)[i]? = zc[i % zc.length]?
  | 0, zc, i, h => by simp at h
  | n + 1, zc, i, h => by
    unfold zrep
    rcases Nat.lt_or_ge i zc.length with hi | hi
    · rw [List.getElem?_append_left hi, Nat.mod_eq_of_lt hi]
    · rw [List.getElem?_append_right hi, zrep_at n zc (i - zc.length) (by rw [Nat.add_mul] at h; omega)]
      congr 1
      rw [Nat.mod_eq_sub_mod hi]
theorem zrep_arr (n : Nat) (zc : List Value) : (Array.range (n * zc.length)).map (fun i => zc.toArray[i % zc.length]!) = (zrep n zc).toArray := by
  apply Array.ext_getElem?
  intro i
  rcases Nat.lt_or_ge i (n * zc.length) with h | h
  · have hpos : 0 < zc.length := by
      rcases Nat.eq_zero_or_pos zc.length with h0 | h0
      · rw [h0] at h; omega
      · exact h0
    have hm : i % zc.length < zc.length := Nat.mod_lt _ hpos
    simp [h, zrep_at n zc i h, List.getElem?_eq_getElem hm]
  · have h2 : (zrep n zc).length ≤ i := by rw [length_zrep]; exact h
    simp [h2, h]
def evp (ρ : Rf) : List (Nat × Operand) → List (Nat × Value)
  | [] => []
  | (i, x) :: l => (i, ev ρ x) :: evp ρ l
theorem evp_arr {ρ : Rf} (parts : Array (Nat × Operand)) {ps : List (Nat × Value)} (h : evp ρ parts.toList = ps) : (parts.map fun (i, x) => (i, ev ρ x)) = ps.toArray := by
  have h1 : ∀ l : List (Nat × Operand), l.map (fun (i, x) => (i, ev ρ x)) = evp ρ l := by
    intro l
    induction l with
    | nil => rfl
    | cons a l ih => simp only [List.map_cons, ih]; rfl
  subst h
  rw [← h1]
  apply Array.ext'
  simp
section
variable {P : Program} {N : Nat} {ops : Array Oper} {Q : Kq} {ρ : Rf} {w w0 : World} {rest : List Oper} {H : List HE} {d : Nat} {ty : TypeId} {pos : String} {af : Array Edge}
theorem below_of_grown {w' : World} {r : Option Nat} (h : Below w0.heap.size w0 w) (hg : w.grownBy w' r) (hr : ∀ k, r = some k → w0.heap.size ≤ k) : Below w0.heap.size w0 w' := h.grown hg h.size hr
/-- An entry whose row is written or left for a new one. -/
theorem Hp.grown {w' : World} {x y : HE} {i : Nat} (h : Hp w0 H w) (hi : H[i]? = some x) (hg : w.grownBy w' x.id) (hid : y.id = x.id ∨ y.id = none ∨ y.id = some w.heap.size) (hy : y.holds w0.heap.size w') : Hp w0 (H.set i y) w' := by
  refine h.set_ hi (fun b hb => ?_) (below_of_grown h.below hg fun k hk => (holds_lt (h.at_ hi) hk).1) (fun b hlt hne => hg.block b hlt (fun e => hne e.symm)) hy
  rcases hid with e | e | e
  · exact .inl (by rw [← e]; exact hb)
  · rw [e] at hb; cases hb
  · rw [e] at hb
    injection hb with hb
    exact .inr (by omega)
theorem Hp.nil_row (h : Hp w0 H w) (t : TypeId) (sz : Nat) : Hp w0 (.row none 0 0 t sz [] :: H) w :=
  ⟨h.below, fun x hx => by
    rcases List.mem_cons.1 hx with rfl | hx
    · exact World.ownsRow_nil _ _ _ _
    · exact h.own x hx, by show (List.filterMap HE.id H).Nodup; exact h.nd⟩
theorem Hp.new_blk (h : Hp w0 H w) (t : TypeId) (cs : List Value) : Hp w0 (.blk w.heap.size t cs (0, 0) :: H) (w.alloc (.cells cs.toArray t)) :=
  h.push_new ((Below.refl _ _).alloc (Nat.le_refl _) _) ⟨Nat.le_refl _, heap_alloc_new w _, .inr (Nat.le_refl _)⟩
theorem Hp.new_row (h : Hp w0 H w) (t : TypeId) (sz n : Nat) (cs : List Value) (hl : cs.length = n * sz) (hn : n ≤ maxLen) : Hp w0 (.row (some ⟨w.heap.size, 0, none⟩) n n t sz cs :: H) (w.alloc (.cells cs.toArray t)) :=
  h.push_new ((Below.refl _ _).alloc (Nat.le_refl _) _) ⟨hl, .inr ⟨w.heap.size, n, cs.toArray, rfl, Nat.le_refl _, heap_alloc_new w _, Nat.le_refl _, hn, by simpa using hl, by simp only [List.take_of_length_le (show cs.length ≤ n * sz by omega)]⟩⟩
/-- box: a variable with a value. -/
theorem wl_box (hh : Hp w0 H w) {t : TypeId} {x : Operand} {cs : List Value} {v : Value} (hx : ev ρ x = v) (hc : v.cells = cs.toArray) (hN : d < N)
    (k : ∀ b w', Hp w0 (.blk b t cs (0, 0) :: H) w' → WL P N ops Q rest (upd ρ d (.pointer (some ⟨b, 0, none⟩))) w') : WL P N ops Q (⟨some d, .box t x, ty, pos, af, none⟩ :: rest) ρ w :=
  wl_val rfl rfl hN (w' := w.alloc (.cells cs.toArray t)) (v := .pointer (some ⟨w.heap.size, 0, none⟩)) (by simp [execOp, hx, Instr.box, newVar, newRow, hc]) (k _ _ (hh.new_blk t cs))
theorem wl_alloc (hh : Hp w0 H w) {t : TypeId} {n by' : Nat} {ag : Bool} {zc : List Value} (ht : tinfo P t = some (n, ag, by', zc)) (hN : d < N)
    (k : ∀ b w', Hp w0 (.blk b t zc (0, 0) :: H) w' → WL P N ops Q rest (upd ρ d (.pointer (some ⟨b, 0, none⟩))) w') : WL P N ops Q (⟨some d, .alloc t, ty, pos, af, none⟩ :: rest) ρ w := by
  obtain ⟨z, hz, hzc⟩ := run_zeroValue' (w := w) ht
  exact wl_val rfl rfl hN (w' := w.alloc (.cells zc.toArray t)) (v := .pointer (some ⟨w.heap.size, 0, none⟩)) (by simp [execOp, Instr.alloc, newVar, newRow, hz, hzc]) (k _ _ (hh.new_blk t zc))
/-- store into a block. -/
theorem wl_store (hh : Hp w0 H w) {t t' : TypeId} {x y : Operand} {i b o n by' : Nat} {ag : Bool} {zc cs vs : List Value} {fz : Nat × Nat} {v : Value} (hx : ev ρ x = .pointer (some ⟨b, o, none⟩)) (hi : H[i]? = some (.blk b t' cs fz))
    (hy : ev ρ y = v) (hc : v.cells = vs.toArray) (ht : tinfo P t = some (n, ag, by', zc)) (hl : vs.length = n) (ho : o + n ≤ cs.length) (h1 : (vs.all Value.oneCell') = true)
    (k : ∀ w', Hp w0 (H.set i (.blk b t' (splice cs o vs) fz)) w' → WL P N ops Q rest ρ w') : WL P N ops Q (⟨none, .store t x y, ty, pos, af, none⟩ :: rest) ρ w := by
  have hb := hh.at_ hi
  obtain ⟨w', hr, hb', hg, hs⟩ := run_store_blk (P := P) (b := b) (t := t') (fz := fz) o vs 0 cs w hb.2.1 hb.2.2 (by omega) (by simpa using h1)
  refine wl_skip rfl rfl (w' := w') ?_ (k w' (hh.grown hi hg (.inl rfl) ⟨hb.1, by simpa using hb', by rw [length_splice (by omega)]; exact hb.2.2⟩))
  simp [execOp, hx, hy, Instr.storeAt, Instr.sureAddr, storeVar, run_sizeOf' ht, hl, hc, hr]
/-- store into a row that one owns. -/
theorem wl_store_row (hh : Hp w0 H w) {t t' : TypeId} {x y : Operand} {i b o n m c sz by' : Nat} {ag : Bool} {zc xs vs : List Value} {v : Value} (hx : ev ρ x = .pointer (some ⟨b, o, none⟩)) (hi : H[i]? = some (.row (some ⟨b, 0, none⟩) m c t' sz xs))
    (hy : ev ρ y = v) (hc : v.cells = vs.toArray) (ht : tinfo P t = some (n, ag, by', zc)) (hl : vs.length = n) (ho : o + n ≤ xs.length) (h1 : (vs.all Value.oneCell') = true)
    (k : ∀ w', Hp w0 (H.set i (.row (some ⟨b, 0, none⟩) m c t' sz (splice xs o vs))) w' → WL P N ops Q rest ρ w') : WL P N ops Q (⟨none, .store t x y, ty, pos, af, none⟩ :: rest) ρ w := by
  have hrow := hh.at_ hi
  obtain ⟨hlen, h2⟩ := hrow
  rcases h2 with ⟨h2, _⟩ | ⟨g, cap, cur, hv, hg, hheap, hmc, hcm, hcur, htake⟩
  · injection h2 with h2; cases h2
  · injection hv with hA hn hcap
    injection hA with hA
    injection hA with hA
    subst hA; subst hcap
    have hcl : cur.size = cur.toList.length := by simp
    have hle : m * sz ≤ c * sz := Nat.mul_le_mul_right _ hmc
    obtain ⟨w', hr, hb', hgr, hs⟩ := run_store_blk (P := P) (b := b) (t := t') (fz := (0, 0)) o vs 0 cur.toList w (by simpa using hheap) (.inr (Nat.le_refl _)) (by rw [← hcl]; omega) (by simpa using h1)
    refine wl_skip rfl rfl (w' := w') ?_ (k w' (hh.grown hi hgr (.inl rfl) ⟨by rw [length_splice (by omega)]; exact hlen, .inr ⟨b, c, (splice cur.toList o vs).toArray, rfl, hg, by simpa using hb', hmc, hcm, ?_, ?_⟩⟩))
    · simp [execOp, hx, hy, Instr.storeAt, Instr.sureAddr, storeVar, run_sizeOf' ht, hl, hc, hr]
    · simp only [List.size_toArray]
      rw [length_splice (by rw [← hcl]; omega), ← hcl, hcur]
    · simp only [splice]
      rw [← htake]
      have h5 : o + vs.length ≤ m * sz := by omega
      have h6 : m * sz ≤ cur.toList.length := by rw [← hcl, hcur]; exact hle
      rw [List.take_take, Nat.min_eq_left (by omega), List.drop_take, List.append_assoc, List.append_assoc, List.take_append, List.take_append]
      simp only [List.length_take, Nat.min_eq_left (show o ≤ cur.toList.length by omega)]
      rw [List.take_of_length_le (l := cur.toList.take o) (by simp; omega), List.take_of_length_le (l := vs) (by omega)]
      congr 2
      congr 1
      omega
/-- A slice literal. -/
theorem wl_buildSlice (hh : Hp w0 H w) {t e : TypeId} {len sz by' : Nat} {ag : Bool} {parts : Array (Nat × Operand)} {ps : List (Nat × Value)} {zc cs : List Value} (ht : P.underlying t = some (.slice e)) (hte : tinfo P e = some (sz, ag, by', zc))
    (hp : evp ρ parts.toList = ps) (hzl : zc.length = sz) (hf : fillL (fun i => some (i * sz, sz)) (zrep len zc) ps = some cs) (h0 : ¬ len * sz = 0) (hle : len ≤ 1000) (hsl : len * sz ≤ 16777216) (hl : cs.length = len * sz) (hN : d < N)
    (k : ∀ b w', Hp w0 (.row (some ⟨b, 0, none⟩) len len e sz cs :: H) w' → WL P N ops Q rest (upd ρ d (.slice (some ⟨b, 0, none⟩) len len)) w') : WL P N ops Q (⟨some d, .buildSlice t len parts, ty, pos, af, none⟩ :: rest) ρ w := by
  obtain ⟨z, hz, hzc⟩ := run_zeroValue' (w := w) hte
  refine wl_val rfl rfl hN (w' := w.alloc (.cells cs.toArray e)) (v := .slice (some ⟨w.heap.size, 0, none⟩) len len) ?_ (k _ _ (hh.new_row e sz len cs hl (by unfold maxLen; omega)))
  have h16 : ¬ 2 ^ 24 < len * sz := by omega
  have hf' := fill_of _ _ _ hf
  rw [← zrep_arr, hzl] at hf'
  have hzs : zc.toArray.size = sz := by simpa using hzl
  have hp' := evp_arr parts hp
  simp only [execOp, hp', Instr.buildSlice, Sem.run_bind, run_underlying ht, Result.andThen_ok, run_sizeOf' hte, gt_iff_lt, if_neg h16, if_neg h0, hz, hzc, Sem.run_pure, hzs, hf']
  simp [newRow]
def placesOf (P : Program) (t : TypeId) : Option (List (Nat × Nat)) :=
  match P.underlying t with
  | some (.struct fs) => fs.toList.mapM fun f => (P.info? f.type).map fun i => (f.offset, i.size)
  | _ => none
theorem places_run {P : Program} {w : World} : ∀ (l : List Field) (pl : List (Nat × Nat)), (l.mapM fun f => (P.info? f.type).map fun i => (f.offset, i.size)) = some pl →
    (l.mapM (m := Sem) fun f => do pure (f.offset, ← sizeOf f.type)).run P w = .ok pl w
  | [], pl, h => by
    simp at h; subst h; simp
  | f :: l, pl, h => by
    rw [List.mapM_cons] at h
    cases hi : P.info? f.type with
    | none => simp [hi] at h
    | some i =>
      cases hr : l.mapM (fun f => (P.info? f.type).map fun i => (f.offset, i.size)) with
      | none => simp [hr] at h
      | some pl' =>
        simp [hi, hr] at h
        have ih := places_run (w := w) l pl' hr
        have hs : (sizeOf f.type).run P w = .ok i.size w := by simp [sizeOf, typeInfo, hi]
        rw [List.mapM_cons, Sem.run_bind, Sem.run_bind, hs, Result.andThen_ok, Sem.run_pure, Result.andThen_ok, Sem.run_bind, ih, Result.andThen_ok, Sem.run_pure, h]
theorem x_build {dd : Option Nat} {g : Option (Nat × Bool)} {t : TypeId} {n by' : Nat} {parts : Array (Nat × Operand)} {ps : List (Nat × Value)} {zc cs : List Value} {pl : List (Nat × Nat)} (hte : tinfo P t = some (n, true, by', zc))
    (hpl : placesOf P t = some pl)
    (hp : evp ρ parts.toList = ps) (hf : fillL (pl[·]?) zc ps = some cs) :
    (execOp (ev ρ) ⟨dd, .build t parts, ty, pos, af, g⟩).run P w = .ok (.value (.agg cs.toArray)) w := by
  obtain ⟨z, hz, hzc⟩ := run_zeroValue' (w := w) hte
  unfold placesOf at hpl
  split at hpl
  · rename_i fs hfs
    have h1 := places_run (w := w) _ _ hpl
    have h2 : (fs.mapM (m := Sem) fun f => do pure (f.offset, ← sizeOf f.type)).run P w = .ok pl.toArray w := by
      have e : fs = fs.toList.toArray := by simp
      rw [e, List.mapM_toArray, Sem.run_map, h1]
      rfl
    have hf' := fill_of _ _ _ hf
    have hpp : (fun (x : Nat) => pl.toArray[x]?) = fun x => pl[x]? := by funext x; simp
    have hp' := evp_arr parts hp
    simp only [execOp, hp', Instr.build, Sem.run_bind, hz, Result.andThen_ok, run_underlying hfs, h2, hzc, hpp, hf', Sem.run_pure]
  · cases hpl
end
end Go.Proofs.YthmmofllajkejaaGreatDoor

/- The calculus' rules, more: append, make, copy, bytes and strings, ranging over a string. Plain lemmas, no program in sight. -/
namespace Go.Proofs.YthmmofllajkejaaGreatDoor
open Go.RowKit
theorem slice_ownBlock (A : Option Addr) (n c : Nat) : (Value.slice A n c).ownBlock = A.map (·.block) := by cases A <;> rfl
theorem zrep_one (n : Nat) (z : Value) : zrep n [z] = List.replicate n z := by
  induction n with
  | zero => rfl
  | succ n ih => simp [zrep, ih, List.replicate_succ]
theorem rd_elem1 {w : World} {ad : Addr} {xs : List Value} {m : Int} {k : Nat} {v : Value} (h : Rd w ad xs) (hx : xs[k]? = some v) (hm : m = (k : Int)) : w.cell? (ad.add (m.toNat * 1)) = some v := by
  subst hm
  simpa using h k v hx
def u8s (l : List UInt8) : List Value := l.map fun c => .int .u8 c.toNat
theorem length_u8s (l : List UInt8) : (u8s l).length = l.length := by simp [u8s]
section
variable {P : Program} {w : World}
theorem run_append_nilsrc (base : Nat) (t ty e : TypeId) (i : TypeInfo) (ht : P.underlying t = some (.slice e)) (hi : P.info? e = some i)
    (v : Value) (n : Nat) (xs : List Value) (sz : Nat) (hown : w.ownsRow base e sz v n xs) (c : Nat) : (Builtin.append_ #[t, t] ty #[v, .slice none 0 c]).run P w = .ok v w := by
  rcases hown.2 with ⟨rfl, rfl⟩ | ⟨g, cap, cur, rfl, _, _, hnc, _⟩
  · simp [Builtin.append_, run_underlying ht, sizeOf, typeInfo, hi, Builtin.lenOf, Builtin.firstCells]
  · simp [Builtin.append_, run_underlying ht, sizeOf, typeInfo, hi, Builtin.lenOf, Builtin.firstCells, hnc, storeCells]
theorem run_append_sl (base : Nat) (t ty e : TypeId) (sz by' : Nat) (ag : Bool) (zc : List Value) (ht : P.underlying t = some (.slice e)) (hte : tinfo P e = some (sz, ag, by', zc)) (hzl : zc.length = sz) (hsz : 0 < sz)
    (A : Option Addr) (n c : Nat) (xs : List Value) (hown : w.ownsRow base e sz (.slice A n c) n xs) (B : Option Addr) (m c' : Nat) (news : List Value) (hsl : Sl w B m sz news) (h1 : ∀ u ∈ news, u.oneCell' = true)
    (h63 : n + m ≤ maxLen) (hbytes : (n + m) * by' ≤ 140737488355328) (hbase : base ≤ w.heap.size) :
    ∃ A' c2 w', (Builtin.append_ #[t, t] ty #[.slice A n c, .slice B m c']).run P w = .ok (.slice A' (n + m) c2) w' ∧ w'.ownsRow base e sz (.slice A' (n + m) c2) (n + m) (xs ++ news) ∧
      w.grownBy w' (A.map (·.block)) ∧ (A'.map (·.block) = A.map (·.block) ∨ A'.map (·.block) = none ∨ A'.map (·.block) = some w.heap.size) := by
  obtain ⟨i, z, d, hi, hd, hz, hs, hby, hzc, _⟩ := tinfo_spec hte
  have hzs : z.cells.size = sz := by rw [hzc]; simpa using hzl
  have fin : ∀ (ad : Addr), B = some ad → Rd w ad news → ∃ A' c2 w', (Builtin.append_ #[t, t] ty #[.slice A n c, .slice B m c']).run P w = .ok (.slice A' (n + m) c2) w' ∧ w'.ownsRow base e sz (.slice A' (n + m) c2) (n + m) (xs ++ news) ∧
      w.grownBy w' (A.map (·.block)) ∧ (A'.map (·.block) = A.map (·.block) ∨ A'.map (·.block) = none ∨ A'.map (·.block) = some w.heap.size) := by
    rintro ad rfl hr
    obtain ⟨v', w', hrun, h2, h3, _, h5⟩ := run_append_own_at (P := P) w base t ty e i z sz by' ht hi hz hs hby hzs hsz (.slice A n c) n xs hown ad m c' news hsl.1 hr h1 h63 hbytes hbase
    rw [slice_ownBlock] at h3
    rcases h2.2 with ⟨hv, h0⟩ | ⟨g, cap, cur, hv, r⟩
    · subst hv
      refine ⟨none, 0, w', by rw [hrun, h0], by rw [h0]; exact h0 ▸ h2, h3, .inr (.inl rfl)⟩
    · subst hv
      refine ⟨_, _, w', hrun, h2, h3, ?_⟩
      rcases h5 with h5 | h5
      · exact .inl (by rw [← slice_ownBlock _ (n + m) cap, h5, slice_ownBlock])
      · exact .inr (.inr (by rw [← slice_ownBlock _ (n + m) cap, h5]))
  rcases Nat.eq_zero_or_pos m with h0 | h0
  · subst h0
    have hnews : news = [] := List.eq_nil_of_length_eq_zero (by simpa using hsl.1)
    subst hnews
    cases B with
    | none => exact ⟨A, c, w, run_append_nilsrc base t ty e i ht hi _ n xs sz hown c', by simpa using hown, World.grownBy.refl _ _, .inl rfl⟩
    | some ad => exact fin ad rfl (fun j u hu => by simp at hu)
  · obtain ⟨ad, hB, hr⟩ := hsl.2 h0
    exact fin ad hB hr
theorem run_bytes_str {A : Option Addr} {n c : Nat} {l : List UInt8} (h : Sl w A n 1 (u8s l)) : (Conv.bytesToString (.slice A n c)).run P w = .ok (.string ⟨l.toArray⟩) w := by
  have hn : l.length = n := by have := h.1; rw [length_u8s] at this; omega
  cases A with
  | none =>
    have h0 : n = 0 := by
      rcases Nat.eq_zero_or_pos n with h0 | h0
      · exact h0
      · obtain ⟨ad, h1, _⟩ := h.2 h0; cases h1
    have : l = [] := List.eq_nil_of_length_eq_zero (by omega)
    subst this
    simp [Conv.bytesToString, ByteArray.empty, ByteArray.emptyWithCapacity]
    rfl
  | some a =>
    have hr : Rd w a (u8s l) := by
      rcases Nat.eq_zero_or_pos n with h0 | h0
      · have : l = [] := List.eq_nil_of_length_eq_zero (by omega)
        subst this
        intro j u hu; simp [u8s] at hu
      · obtain ⟨ad, h1, h2⟩ := h.2 h0
        injection h1 with h1; subst h1; exact h2
    have e1 : u8s l = (l.map fun c : UInt8 => (c.toNat : Int)).map (Value.int .u8) := by simp [u8s]
    have hld := run_loadCells_list (P := P) w a (u8s l) hr
    rw [length_u8s, hn, e1] at hld
    rw [run_bytesToString w a n c _ hld]
    congr 2
    have : ∀ (l : List UInt8) (s : ByteArray), (l.map fun c : UInt8 => (c.toNat : Int)).foldl (fun r n => r.push (UInt8.ofNat n.toNat)) s = ⟨s.data ++ l.toArray⟩ := by
      intro l
      induction l with
      | nil => intro s; simp
      | cons c l ih =>
        intro s
        simp only [List.map_cons, List.foldl_cons]
        rw [ih]
        have : (s.push (UInt8.ofNat ((c.toNat : Int)).toNat)).data = s.data.push c := by simp [ByteArray.push]
        rw [this]
        congr 1
        apply Array.ext'
        simp
    rw [this]
    congr 1
    apply Array.ext'
    simp [ByteArray.empty, ByteArray.emptyWithCapacity]
    rfl
end
section
variable {P : Program} {N : Nat} {ops : Array Oper} {Q : Kq} {ρ : Rf} {w w0 : World} {rest : List Oper} {H : List HE} {d : Nat} {ty : TypeId} {pos : String} {af : Array Edge}
theorem wl_append (hh : Hp w0 H w) {t e : TypeId} {s x : Operand} {i n c m c' sz by' : Nat} {ag : Bool} {A B : Option Addr} {zc xs news : List Value} (hi : H[i]? = some (.row A n c e sz xs)) (hs : ev ρ s = .slice A n c) (hx : ev ρ x = .slice B m c')
    (hsl : Sl w B m sz news) (ht : P.underlying t = some (.slice e)) (hte : tinfo P e = some (sz, ag, by', zc)) (hzl : zc.length = sz) (hsz : 0 < sz) (h1 : (news.all Value.oneCell') = true)
    (h63 : n + m ≤ 9223372036854775807) (hbytes : (n + m) * by' ≤ 140737488355328) (hN : d < N)
    (k : ∀ A' c2 w', Hp w0 (H.set i (.row A' (n + m) c2 e sz (xs ++ news))) w' → WL P N ops Q rest (upd ρ d (.slice A' (n + m) c2)) w') :
    WL P N ops Q (⟨some d, .call ⟨.builtin .append, #[s, x], #[t, t]⟩, ty, pos, af, none⟩ :: rest) ρ w := by
  obtain ⟨A', c2, w', hr, hown, hg, hid⟩ := run_append_sl (P := P) w0.heap.size t ty e sz by' ag zc ht hte hzl hsz A n c xs (hh.at_ hi) B m c' news hsl (by simpa using h1) (by unfold maxLen; omega) hbytes hh.size
  refine wl_val rfl rfl hN (w' := w') (v := .slice A' (n + m) c2) ?_ (k A' c2 w' (hh.grown hi hg hid hown))
  simp only [execOp, resolve, invoke, builtin, Sem.run_bind, Sem.run_pure, Result.andThen_ok, List.map_toArray, List.map_cons, List.map_nil, hs, hx, hr]
theorem wl_make (hh : Hp w0 H w) {t e : TypeId} {l cp : Operand} {kl kc : IntKind} {L C : Int} {n sz by' : Nat} {ag : Bool} {zc : List Value} (hl : ev ρ l = .int kl L) (hc : ev ρ cp = .int kc C) (hL : L = (n : Int)) (hC : C = (n : Int))
    (ht : P.underlying t = some (.slice e)) (hte : tinfo P e = some (sz, ag, by', zc)) (hzl : zc.length = sz) (hb : by' * n ≤ 281474976710656) (h63 : n ≤ 9223372036854775807) (hN : d < N)
    (k : ∀ b w', Hp w0 (.row (some ⟨b, 0, none⟩) n n e sz (zrep n zc) :: H) w' → WL P N ops Q rest (upd ρ d (.slice (some ⟨b, 0, none⟩) n n)) w') :
    WL P N ops Q (⟨some d, .makeSlice t l cp, ty, pos, af, none⟩ :: rest) ρ w := by
  obtain ⟨i, z, dd, hi, hd, hz, hs, hby, hzc, _⟩ := tinfo_spec hte
  subst hL; subst hC
  obtain ⟨w', hr, hown, hg⟩ := run_make_full (P := P) w w.heap.size t e i z sz ht hi hz hs kl kc n (by rw [hby]; exact hb) (by unfold maxLen; omega) (Nat.le_refl _)
  have hzz : (madeCells z.cells (n * sz)).toList = zrep n zc := by
    have := zrep_arr n zc
    rw [hzl] at this
    unfold madeCells
    rw [hzc]
    have e2 : zc.toArray.size = sz := by simpa using hzl
    rw [e2, this]
  rw [hzz] at hown
  refine wl_val rfl rfl hN (w' := w') (v := .slice (some ⟨w.heap.size, 0, none⟩) n n) ?_ (k _ w' (hh.push_new ⟨hg.os, hg.tape, hg.output, hg.size, fun j hj => hg.block j hj (by simp)⟩ hown))
  simp [execOp, hl, hc, hr]
theorem wl_buildSlice0 (hh : Hp w0 H w) {t e : TypeId} {sz by' : Nat} {ag : Bool} {zc : List Value} (ht : P.underlying t = some (.slice e)) (hte : tinfo P e = some (sz, ag, by', zc)) (hN : d < N)
    (k : ∀ b w', Hp w0 (.row (some ⟨b, 0, none⟩) 0 0 e sz [] :: H) w' → WL P N ops Q rest (upd ρ d (.slice (some ⟨b, 0, none⟩) 0 0)) w') : WL P N ops Q (⟨some d, .buildSlice t 0 #[], ty, pos, af, none⟩ :: rest) ρ w := by
  refine wl_val rfl rfl hN (w' := w.alloc (.cells #[] e)) (v := .slice (some ⟨w.heap.size, 0, none⟩) 0 0) ?_ (k _ _ (hh.new_row e sz 0 [] (by simp) (by unfold maxLen; omega)))
  have e0 : Array.range 0 = #[] := rfl
  simp [execOp, Instr.buildSlice, run_underlying ht, run_sizeOf' hte, Instr.fill, newRow, e0]
theorem x_bytes_str {dd : Option Nat} {g : Option (Nat × Bool)} {s t e : TypeId} {x : Operand} {A : Option Addr} {n c : Nat} {l : List UInt8} (hs : P.underlying s = some (.slice e)) (he : P.underlying e = some (.int .u8)) (ht : P.underlying t = some .string)
    (hx : ev ρ x = .slice A n c) (h : Sl w A n 1 (u8s l)) : (execOp (ev ρ) ⟨dd, .convert s t x, ty, pos, af, g⟩).run P w = .ok (.value (.string ⟨l.toArray⟩)) w := by
  simp [execOp, hx, run_convert_bytes_string w s t e A n c hs he ht, run_bytes_str h]
/-- []byte(s): the bytes, and behind them what the capacity leaves. -/
theorem wl_str_bytes (hh : Hp w0 H w) {s t e : TypeId} {x : Operand} {b : ByteArray} (hs : P.underlying s = some .string) (ht : P.underlying t = some (.slice e)) (he : P.underlying e = some (.int .u8)) (hx : ev ρ x = .string b) (hN : d < N)
    (k : ∀ g c ex w', Hp w0 (.blk g e (u8s b.data.toList ++ ex) ((u8s b.data.toList ++ ex).length, (u8s b.data.toList ++ ex).length + 1) :: H) w' → WL P N ops Q rest (upd ρ d (.slice (some ⟨g, 0, none⟩) b.size c)) w') :
    WL P N ops Q (⟨some d, .convert s t x, ty, pos, af, none⟩ :: rest) ρ w := by
  let c := grownCap w b.size 0 e
  let ex : List Value := List.replicate (c - b.size) (.int .u8 0)
  let cells : List Value := u8s b.data.toList ++ ex
  let w1 := w.drew.alloc (.cells cells.toArray e)
  let w' := w1.freeze ⟨w.heap.size, cells.length, none⟩ 1
  have hw1 : w1.heap[w.heap.size]? = some (.cells cells.toArray e (0, 0)) := heap_alloc_new w.drew _
  have hheap : w'.heap[w.heap.size]? = some (.cells cells.toArray e (cells.length, cells.length + 1)) := by
    show (w1.heap.modify w.heap.size _)[w.heap.size]? = _
    rw [Array.getElem?_modify, if_pos rfl, hw1]
    simp
  have hbl : Below w.heap.size w w' := by
    refine ⟨rfl, rfl, rfl, ?_, fun j hj => ?_⟩
    · show w.heap.size ≤ (w1.heap.modify w.heap.size _).size
      rw [Array.size_modify]
      show w.heap.size ≤ w1.heap.size
      simp [w1]
    · show (w1.heap.modify w.heap.size _)[j]? = _
      rw [Array.getElem?_modify, if_neg (by omega)]
      exact Below.heap_alloc w.drew _ j hj
  refine wl_val rfl rfl hN (w' := w') (v := .slice (some ⟨w.heap.size, 0, none⟩) b.size c) ?_ (k w.heap.size c ex w' (hh.push_new hbl ⟨Nat.le_refl _, hheap, .inl (Nat.le_refl _)⟩))
  have harr : (b.data.map fun b => Value.int .u8 b.toNat) ++ Array.replicate (c - b.size) (Value.int .u8 0) = cells.toArray := by
    apply Array.ext'
    simp [cells, ex, u8s]
  have hsh : w1.shape? w.heap.size = some (e, cells.length) := by simp [World.shape?, hw1]
  have hch : (choose (.appendCap b.size 0 e)).run P w = .ok c w.drew := by simp [choose, Sem.run, Question.forced, grownCap, c]
  have hnr : (newRow e cells.toArray).run P w.drew = .ok ⟨w.heap.size, 0, none⟩ w1 := by simp [newRow, w1]
  have hms : (markStringish ⟨w.heap.size, 0, none⟩).run P w1 = .ok () w' := by simp [markStringish, shape, Sem.run, hsh, freeze, w']
  simp only [execOp, hx, convert, Sem.run_bind, run_underlying hs, run_underlying ht, run_underlying he, Result.andThen_ok, Conv.stringToBytes]
  rw [hch, Result.andThen_ok, harr, hnr, Result.andThen_ok, hms, Result.andThen_ok, Sem.run_pure, Result.andThen_ok, Sem.run_pure]
/-- Ranging over a string all of whose bytes are below 128. -/
theorem wl_range_str (hh : Hp w0 H w) {t : TypeId} {x : Operand} {s : ByteArray} (ht : P.underlying t = some .string) (hx : ev ρ x = .string s) (hN : d < N)
    (k : ∀ b w', Hp w0 (.it b s 0 :: H) w' → WL P N ops Q rest (upd ρ d (.pointer (some ⟨b, 0, none⟩))) w') : WL P N ops Q (⟨some d, .range t x, ty, pos, af, none⟩ :: rest) ρ w := by
  refine wl_val rfl rfl hN (w' := w.alloc (.stringIter s 0)) (v := .pointer (some ⟨w.heap.size, 0, none⟩)) (by simp [execOp, hx, Instr.range, run_underlying ht]) (k _ _ (hh.push_new ((Below.refl _ _).alloc (Nat.le_refl _) _) ⟨Nat.le_refl _, heap_alloc_new w _⟩))
theorem wl_next_done (hh : Hp w0 H w) {x : Operand} {i b p : Nat} {s : ByteArray} (hi : H[i]? = some (.it b s p)) (hx : ev ρ x = .pointer (some ⟨b, 0, none⟩)) (hp : ¬ p < s.size) (hN : d < N)
    (k : WL P N ops Q rest (upd ρ d (.tuple #[.bool false])) w) : WL P N ops Q (⟨some d, .next x true, ty, pos, af, none⟩ :: rest) ρ w := by
  have h1 := (hh.at_ hi).2
  refine wl_val rfl rfl hN (w' := w) (v := .tuple #[.bool false]) ?_ k
  simp [execOp, hx, Instr.next, getObj, Sem.run, h1, hp]
theorem wl_next_more (hh : Hp w0 H w) {x : Operand} {i b p : Nat} {s : ByteArray} {c : UInt8} (hi : H[i]? = some (.it b s p)) (hx : ev ρ x = .pointer (some ⟨b, 0, none⟩)) (hc : s.data.toList[p]? = some c) (h128 : c.toNat < 128) (hN : d < N)
    (k : ∀ w', Hp w0 (H.set i (.it b s (p + 1))) w' → WL P N ops Q rest (upd ρ d (.tuple #[.bool true, .int .i64 p, .int .i32 c.toNat])) w') : WL P N ops Q (⟨some d, .next x true, ty, pos, af, none⟩ :: rest) ρ w := by
  have h1 := (hh.at_ hi).2
  obtain ⟨hlt, hcc⟩ := List.getElem?_eq_some_iff.1 hc
  have hlt' : p < s.size := by simpa using hlt
  have hget : s.get! p = c := by
    have : s.get! p = s.data[p]! := rfl
    rw [this, getElem!_pos s.data p hlt']
    simpa using hcc
  have hdec : Utf8.decode s p = (c.toNat, 1) := by
    unfold Utf8.decode
    simp only [Nat.add_zero, hget]
    rw [if_pos h128]
  let w' : World := { w with heap := w.heap.setIfInBounds b (.stringIter s (p + 1)) }
  have hb := holds_lt (hh.at_ hi) (b := b) rfl
  have hg : w.grownBy w' (some b) := ⟨rfl, rfl, rfl, by simp [w'], fun k _ hne => by
    show (w.heap.setIfInBounds b _)[k]? = _
    rw [Array.getElem?_setIfInBounds_ne (fun e => hne (by rw [e]))]⟩
  refine wl_val rfl rfl hN (w' := w') (v := .tuple #[.bool true, .int .i64 p, .int .i32 c.toNat]) ?_ (k w' (hh.grown hi hg (.inl rfl) ⟨hb.1, ?_⟩))
  · simp [execOp, hx, Instr.next, getObj, setObj, Sem.run, h1, hlt', hdec, goInt, w']
  · show (w.heap.setIfInBounds b _)[b]? = _
    simp [hb.2]
end
end Go.Proofs.YthmmofllajkejaaGreatDoor

/- Rules for operations on unsigned numbers, told as natural numbers; comparisons kept as truth values; slices cut at their end. Plain lemmas, no program in sight. -/
namespace Go.Proofs.YthmmofllajkejaaGreatDoor
open Go.RowKit
/-- An unsigned kind: of so many bits, up to M. -/
class UK (k : IntKind) (b : outParam Nat) (M : outParam Nat) : Prop where
  bits : k.bits = b
  sgn : k.signed = false
  pow : 2 ^ b = M
instance : UK .u8 8 256 := ⟨rfl, rfl, rfl⟩
instance : UK .u16 16 65536 := ⟨rfl, rfl, rfl⟩
instance : UK .u32 32 4294967296 := ⟨rfl, rfl, rfl⟩
instance : UK .u64 64 18446744073709551616 := ⟨rfl, rfl, rfl⟩
theorem UK.wrap {k : IntKind} {b M : Nat} [h : UK k b M] (n : Nat) : k.wrap (n : Int) = ((n % M : Nat) : Int) := by
  unfold IntKind.wrap
  have hM : (2 : Int) ^ k.bits = (M : Int) := by rw [h.bits, ← h.pow]; simp
  simp only [h.sgn, hM, Bool.false_and]
  simp
theorem UK.wrap_lt {k : IntKind} {b M : Nat} [UK k b M] {n : Nat} (hn : n < M) : k.wrap (n : Int) = (n : Int) := by rw [UK.wrap, Nat.mod_eq_of_lt hn]
theorem UK.wrap_add {k : IntKind} {b M : Nat} [h : UK k b M] (z : Int) : k.wrap (z + M) = k.wrap z := by
  unfold IntKind.wrap
  have hM : (2 : Int) ^ k.bits = (M : Int) := by rw [h.bits, ← h.pow]; simp
  simp [hM]
theorem UK.pos {k : IntKind} {b M : Nat} [h : UK k b M] : 0 < M := by rw [← h.pow]; exact Nat.pow_pos (by omega)
section
variable {P : Program} {ρ : Rf} {w : World} {d : Option Nat} {ty : TypeId} {pos : String} {af : Array Edge} {g : Option (Nat × Bool)}
section unats
variable {t u : TypeId} {x y : Operand} {k : IntKind} {q M : Nat} {a b : Nat}
theorem x_addu [UK k q M] (hx : ev ρ x = .int k (a : Int)) (hy : ev ρ y = .int k (b : Int)) : (execOp (ev ρ) ⟨d, .binOp .add t x y u, ty, pos, af, g⟩).run P w = .ok (.value (.int k (((a + b) % M : Nat) : Int))) w := by
  rw [x_add hx hy, ← Int.natCast_add, UK.wrap]
theorem x_subu [UK k q M] (hx : ev ρ x = .int k (a : Int)) (hy : ev ρ y = .int k (b : Int)) (hb : b ≤ M) : (execOp (ev ρ) ⟨d, .binOp .sub t x y u, ty, pos, af, g⟩).run P w = .ok (.value (.int k (((a + M - b) % M : Nat) : Int))) w := by
  rw [x_sub hx hy, ← UK.wrap (k := k)]
  have h : ((a + M - b : Nat) : Int) = (a : Int) - b + M := by omega
  rw [h, UK.wrap_add]
theorem x_mulu [UK k q M] (hx : ev ρ x = .int k (a : Int)) (hy : ev ρ y = .int k (b : Int)) : (execOp (ev ρ) ⟨d, .binOp .mul t x y u, ty, pos, af, g⟩).run P w = .ok (.value (.int k (((a * b) % M : Nat) : Int))) w := by
  rw [x_mul hx hy, ← Int.natCast_mul, UK.wrap]
theorem x_quou [UK k q M] (hx : ev ρ x = .int k (a : Int)) (hy : ev ρ y = .int k (b : Int)) (hb : 0 < b) (ha : a < M) : (execOp (ev ρ) ⟨d, .binOp .quo t x y u, ty, pos, af, g⟩).run P w = .ok (.value (.int k ((a / b : Nat) : Int))) w := by
  rw [x_quo hx hy (by omega), ← Int.ofNat_tdiv, UK.wrap_lt (Nat.lt_of_le_of_lt (Nat.div_le_self _ _) ha)]
theorem x_remu (hx : ev ρ x = .int k (a : Int)) (hy : ev ρ y = .int k (b : Int)) (hb : 0 < b) : (execOp (ev ρ) ⟨d, .binOp .rem t x y u, ty, pos, af, g⟩).run P w = .ok (.value (.int k ((a % b : Nat) : Int))) w := by
  rw [x_rem hx hy (by omega), ← Int.ofNat_tmod]
theorem ofInt_nat (n : Nat) (a : Nat) : BitVec.ofInt n (a : Int) = BitVec.ofNat n a := by simp
theorem x_oru [h : UK k q M] (hx : ev ρ x = .int k (a : Int)) (hy : ev ρ y = .int k (b : Int)) (ha : a < M) (hb : b < M) : (execOp (ev ρ) ⟨d, .binOp .or t x y u, ty, pos, af, g⟩).run P w = .ok (.value (.int k ((a ||| b : Nat) : Int))) w := by
  rw [x_or hx hy, ofInt_nat, ofInt_nat, BitVec.toNat_or, BitVec.toNat_ofNat, BitVec.toNat_ofNat, h.bits, h.pow, Nat.mod_eq_of_lt ha, Nat.mod_eq_of_lt hb, UK.wrap_lt]
  rw [← h.pow] at ha hb ⊢
  exact Nat.or_lt_two_pow ha hb
theorem x_andu [h : UK k q M] (hx : ev ρ x = .int k (a : Int)) (hy : ev ρ y = .int k (b : Int)) (ha : a < M) (hb : b < M) : (execOp (ev ρ) ⟨d, .binOp .and t x y u, ty, pos, af, g⟩).run P w = .ok (.value (.int k ((a &&& b : Nat) : Int))) w := by
  rw [x_and hx hy, ofInt_nat, ofInt_nat, BitVec.toNat_and, BitVec.toNat_ofNat, BitVec.toNat_ofNat, h.bits, h.pow, Nat.mod_eq_of_lt ha, Nat.mod_eq_of_lt hb, UK.wrap_lt]
  exact Nat.lt_of_le_of_lt Nat.and_le_left ha
theorem x_shlu [h : UK k q M] {k' : IntKind} {s : Int} (hx : ev ρ x = .int k (a : Int)) (hy : ev ρ y = .int k' s) (hs : 0 ≤ s ∧ s ≤ q) : (execOp (ev ρ) ⟨d, .binOp .shl t x y u, ty, pos, af, g⟩).run P w = .ok (.value (.int k (((a * 2 ^ s.toNat) % M : Nat) : Int))) w := by
  have e : (a : Int) * 2 ^ (min s.toNat k.bits) = ((a * 2 ^ s.toNat : Nat) : Int) := by
    rw [h.bits, Nat.min_eq_left (by omega), Int.natCast_mul, Int.natCast_pow]; rfl
  rw [x_shl hx hy hs.1, e, UK.wrap]
theorem x_shru [h : UK k q M] {k' : IntKind} {s : Int} (hx : ev ρ x = .int k (a : Int)) (hy : ev ρ y = .int k' s) (hs : 0 ≤ s ∧ s ≤ q) : (execOp (ev ρ) ⟨d, .binOp .shr t x y u, ty, pos, af, g⟩).run P w = .ok (.value (.int k ((a / 2 ^ s.toNat : Nat) : Int))) w := by
  rw [x_shr hx hy hs.1, h.bits, Nat.min_eq_left (by omega), Int.fdiv_eq_ediv_of_nonneg _ (Int.le_of_lt (Int.pow_pos (by omega)))]
  simp
theorem x_shluc [UK k q M] {k' : IntKind} {s m : Nat} (hx : ev ρ x = .int k (a : Int)) (hy : ev ρ y = .int k' (s : Int)) (hs : s ≤ q) (hm : 2 ^ s = m) : (execOp (ev ρ) ⟨d, .binOp .shl t x y u, ty, pos, af, g⟩).run P w = .ok (.value (.int k (((a * m) % M : Nat) : Int))) w := by
  rw [x_shlu hx hy (by omega), ← hm]; rfl
theorem x_shruc [UK k q M] {k' : IntKind} {s m : Nat} (hx : ev ρ x = .int k (a : Int)) (hy : ev ρ y = .int k' (s : Int)) (hs : s ≤ q) (hm : 2 ^ s = m) : (execOp (ev ρ) ⟨d, .binOp .shr t x y u, ty, pos, af, g⟩).run P w = .ok (.value (.int k ((a / m : Nat) : Int))) w := by
  rw [x_shru hx hy (by omega), ← hm]; rfl
theorem x_negu [h : UK k q M] (hx : ev ρ x = .int k (a : Int)) (ha : a ≤ M) : (execOp (ev ρ) ⟨d, .unOp .neg t x, ty, pos, af, g⟩).run P w = .ok (.value (.int k (((M - a) % M : Nat) : Int))) w := by
  rw [x_neg hx, ← UK.wrap (k := k)]
  have e : ((M - a : Nat) : Int) = -(a : Int) + M := by omega
  rw [e, UK.wrap_add]
theorem x_convu [UK k q M] {s t : TypeId} {k' : IntKind} {sd : TypeDesc} (hs : P.underlying s = some sd) (ht : P.underlying t = some (.int k)) (hx : ev ρ x = .int k' (a : Int)) :
    (execOp (ev ρ) ⟨d, .convert s t x, ty, pos, af, g⟩).run P w = .ok (.value (.int k ((a % M : Nat) : Int))) w := by
  rw [x_conv_int hs ht hx, UK.wrap]
theorem x_convu_lt [UK k q M] {s t : TypeId} {k' : IntKind} {sd : TypeDesc} (hs : P.underlying s = some sd) (ht : P.underlying t = some (.int k)) (hx : ev ρ x = .int k' (a : Int)) (ha : a < M) :
    (execOp (ev ρ) ⟨d, .convert s t x, ty, pos, af, g⟩).run P w = .ok (.value (.int k (a : Int))) w := by
  rw [x_conv_int hs ht hx, UK.wrap_lt ha]
end unats
section ints
variable {t u : TypeId} {x y : Operand} {k : IntKind} {a b : Int}
theorem x_lss_v (hx : ev ρ x = .int k a) (hy : ev ρ y = .int k b) : (execOp (ev ρ) ⟨d, .binOp .lss t x y u, ty, pos, af, g⟩).run P w = .ok (.value (.bool (decide (a < b)))) w := by
  by_cases h : a < b
  · rw [x_lss_t hx hy h, decide_eq_true h]
  · rw [x_lss_f hx hy h, decide_eq_false h]
theorem x_leq_v (hx : ev ρ x = .int k a) (hy : ev ρ y = .int k b) : (execOp (ev ρ) ⟨d, .binOp .leq t x y u, ty, pos, af, g⟩).run P w = .ok (.value (.bool (decide (a ≤ b)))) w := by
  by_cases h : a ≤ b
  · rw [x_leq_t hx hy h, decide_eq_true h]
  · rw [x_leq_f hx hy h, decide_eq_false h]
theorem x_gtr_v (hx : ev ρ x = .int k a) (hy : ev ρ y = .int k b) : (execOp (ev ρ) ⟨d, .binOp .gtr t x y u, ty, pos, af, g⟩).run P w = .ok (.value (.bool (decide (b < a)))) w := by
  by_cases h : b < a
  · rw [x_gtr_t hx hy h, decide_eq_true h]
  · rw [x_gtr_f hx hy h, decide_eq_false h]
theorem x_geq_v (hx : ev ρ x = .int k a) (hy : ev ρ y = .int k b) : (execOp (ev ρ) ⟨d, .binOp .geq t x y u, ty, pos, af, g⟩).run P w = .ok (.value (.bool (decide (b ≤ a)))) w := by
  by_cases h : b ≤ a
  · rw [x_geq_t hx hy h, decide_eq_true h]
  · rw [x_geq_f hx hy h, decide_eq_false h]
theorem x_neq_v (hx : ev ρ x = .int k a) (hy : ev ρ y = .int k b) : (execOp (ev ρ) ⟨d, .binOp .neq t x y u, ty, pos, af, g⟩).run P w = .ok (.value (.bool (decide (a ≠ b)))) w := by
  by_cases h : a = b
  · rw [x_neq_f hx hy h, decide_eq_false (by simpa using h)]
  · rw [x_neq_t hx hy h, decide_eq_true h]
end ints
section bools
variable {t u : TypeId} {x y : Operand} {a b : Bool}
theorem x_eqb_t (ht : P.underlying t = some .bool) (hx : ev ρ x = .bool a) (hy : ev ρ y = .bool b) (h : a = b) : (execOp (ev ρ) ⟨d, .binOp .eql t x y u, ty, pos, af, g⟩).run P w = .ok (.value (.bool true)) w := by
  rw [x_eql_bool ht hx hy, h, beq_self_eq_true]
theorem x_eqb_f (ht : P.underlying t = some .bool) (hx : ev ρ x = .bool a) (hy : ev ρ y = .bool b) (h : ¬ a = b) : (execOp (ev ρ) ⟨d, .binOp .eql t x y u, ty, pos, af, g⟩).run P w = .ok (.value (.bool false)) w := by
  rw [x_eql_bool ht hx hy, beq_false_of_ne h]
theorem x_neb_t (ht : P.underlying t = some .bool) (hx : ev ρ x = .bool a) (hy : ev ρ y = .bool b) (h : ¬ a = b) : (execOp (ev ρ) ⟨d, .binOp .neq t x y u, ty, pos, af, g⟩).run P w = .ok (.value (.bool true)) w := by
  rw [x_neq_bool ht hx hy, bne, beq_false_of_ne h]; rfl
theorem x_neb_f (ht : P.underlying t = some .bool) (hx : ev ρ x = .bool a) (hy : ev ρ y = .bool b) (h : a = b) : (execOp (ev ρ) ⟨d, .binOp .neq t x y u, ty, pos, af, g⟩).run P w = .ok (.value (.bool false)) w := by
  rw [x_neq_bool ht hx hy, bne, h, beq_self_eq_true]; rfl
end bools
/-- A place in a slice that was handed in. -/
theorem x_indexSl {t e : TypeId} {x i : Operand} {ad : Addr} {n c sz k : Nat} {kk : IntKind} {m : Int} (ht : P.underlying t = some (.slice e)) (hsz : (P.info? e).map (·.size) = some sz) (hx : ev ρ x = .slice (some ad) n c) (hi : ev ρ i = .int kk m)
    (hm : m = (k : Int)) (h1 : k < n) : (execOp (ev ρ) ⟨d, .indexAddr t x i, ty, pos, af, g⟩).run P w = .ok (.value (.pointer (some (ad.add (k * sz))))) w := by
  rw [x_indexAddr ht hsz hx hi (by omega) (by omega), hm]; rfl
theorem x_indexOff {t e : TypeId} {x i : Operand} {b o n c sz k : Nat} {kk : IntKind} {m : Int} (ht : P.underlying t = some (.slice e)) (hsz : (P.info? e).map (·.size) = some sz) (hx : ev ρ x = .slice (some ⟨b, o, none⟩) n c) (hi : ev ρ i = .int kk m)
    (hm : m = (k : Int)) (h1 : k < n) : (execOp (ev ρ) ⟨d, .indexAddr t x i, ty, pos, af, g⟩).run P w = .ok (.value (.pointer (some ⟨b, o + k * sz, none⟩))) w := by
  rw [x_indexAddr ht hsz hx hi (by omega) (by omega), hm, addr_add]; rfl
theorem x_indexArr {t e : TypeId} {x i : Operand} {ad : Addr} {n sz k : Nat} {kk : IntKind} {m : Int} (ht : P.underlying t = some (.array n e)) (hsz : (P.info? e).map (·.size) = some sz) (hx : ev ρ x = .pointer (some ad)) (hi : ev ρ i = .int kk m)
    (hm : m = (k : Int)) (h1 : k < n) : (execOp (ev ρ) ⟨d, .indexAddr t x i, ty, pos, af, g⟩).run P w = .ok (.value (.pointer (some (ad.add (k * sz))))) w := by
  obtain ⟨i, hi1, hi2⟩ := Option.map_eq_some_iff.1 hsz
  have h2 : (k : Int) < n := by omega
  subst hm
  simp [execOp, hx, hi, Instr.indexAt, asIntOf, run_underlying ht, sizeOf, typeInfo, hi1, hi2, Instr.sureAddr, h1]
/-- A slice's front. -/
theorem x_cutEnd {t e : TypeId} {x hi : Operand} {A : Option Addr} {n c h sz : Nat} {k : IntKind} {m : Int} (ht : P.underlying t = some (.slice e)) (hsz : (P.info? e).map (·.size) = some sz) (hx : ev ρ x = .slice A n c) (hhi : ev ρ hi = .int k m)
    (hm : m = (h : Int)) (h2 : h ≤ c) : (execOp (ev ρ) ⟨d, .slice t x none (some hi) none, ty, pos, af, g⟩).run P w = .ok (.value (.slice A h c)) w := by
  rw [x_slice_sl (lo := none) (hi := some hi) (l := 0) (h := h) ht hsz hx rfl ⟨k, m, hhi, hm⟩ (Nat.zero_le _) h2]
  congr 3
  cases A with
  | none => simp
  | some ad => simp [Addr.add]
/-- A slice's back. -/
theorem x_cutBegin {t e : TypeId} {x lo : Operand} {b o n c l sz : Nat} {k : IntKind} {m : Int} (ht : P.underlying t = some (.slice e)) (hsz : (P.info? e).map (·.size) = some sz) (hx : ev ρ x = .slice (some ⟨b, o, none⟩) n c) (hlo : ev ρ lo = .int k m)
    (hm : m = (l : Int)) (h1 : l ≤ n) (h2 : n ≤ c) (h3 : l < c) : (execOp (ev ρ) ⟨d, .slice t x (some lo) none none, ty, pos, af, g⟩).run P w = .ok (.value (.slice (some ⟨b, o + l * sz, none⟩) (n - l) (c - l))) w := by
  rw [x_slice_sl (lo := some lo) (hi := none) (l := l) (h := n) ht hsz hx ⟨k, m, hlo, hm⟩ rfl h1 h2, if_neg (by omega)]
  simp only [Option.map_some, addr_add]
theorem x_cutBeginA {t e : TypeId} {x lo : Operand} {ad : Addr} {n c l sz : Nat} {k : IntKind} {m : Int} (ht : P.underlying t = some (.slice e)) (hsz : (P.info? e).map (·.size) = some sz) (hx : ev ρ x = .slice (some ad) n c) (hlo : ev ρ lo = .int k m)
    (hm : m = (l : Int)) (h1 : l ≤ n) (h2 : n ≤ c) (h3 : l < c) : (execOp (ev ρ) ⟨d, .slice t x (some lo) none none, ty, pos, af, g⟩).run P w = .ok (.value (.slice (some (ad.add (l * sz))) (n - l) (c - l))) w := by
  rw [x_slice_sl (lo := some lo) (hi := none) (l := l) (h := n) ht hsz hx ⟨k, m, hlo, hm⟩ rfl h1 h2, if_neg (by omega)]
  rfl
end
/-- Reading a slice that was handed in. -/
theorem Rd.at1 {w : World} {ad : Addr} {xs : List Value} {k : Nat} {v : Value} (h : Rd w ad xs) (hx : xs[k]? = some v) : w.cell? (ad.add (k * 1)) = some v := by
  rw [Nat.mul_one]; exact h k v hx
def u64s (l : List Nat) : List Value := l.map fun (d : Nat) => .int .u64 (d : Int)
theorem length_u64s (l : List Nat) : (u64s l).length = l.length := by simp [u64s]
theorem u64s_at {l : List Nat} {k d : Nat} (h : l[k]? = some d) : (u64s l)[k]? = some (.int .u64 (d : Int)) := by simp [u64s, h]
theorem u64s_set (l : List Nat) (k d : Nat) : (u64s l).set k (.int .u64 (d : Int)) = u64s (l.set k d) := by simp [u64s, List.map_set]
theorem u64s_append (a b : List Nat) : u64s (a ++ b) = u64s a ++ u64s b := by simp [u64s]
theorem u64s_take (a : List Nat) (k : Nat) : u64s (a.take k) = (u64s a).take k := by simp [u64s, List.map_take]
theorem u64s_drop (a : List Nat) (k : Nat) : u64s (a.drop k) = (u64s a).drop k := by simp [u64s, List.map_drop]
theorem oneCells_u64s (l : List Nat) : ((u64s l).all Value.oneCell') = true := by simp [u64s, Value.oneCell']
theorem zrep_u64 (n : Nat) : zrep n [Value.int .u64 0] = u64s (List.replicate n 0) := by rw [zrep_one]; simp [u64s]
/-- A byte row told by numbers. -/
def u8n (l : List Nat) : List Value := l.map fun (d : Nat) => .int .u8 (d : Int)
theorem length_u8n (l : List Nat) : (u8n l).length = l.length := by simp [u8n]
theorem u8n_at {l : List Nat} {k d : Nat} (h : l[k]? = some d) : (u8n l)[k]? = some (.int .u8 (d : Int)) := by simp [u8n, h]
theorem u8n_set (l : List Nat) (k d : Nat) : (u8n l).set k (.int .u8 (d : Int)) = u8n (l.set k d) := by simp [u8n, List.map_set]
theorem u8n_append (a b : List Nat) : u8n (a ++ b) = u8n a ++ u8n b := by simp [u8n]
theorem u8n_take (a : List Nat) (k : Nat) : u8n (a.take k) = (u8n a).take k := by simp [u8n, List.map_take]
theorem u8n_drop (a : List Nat) (k : Nat) : u8n (a.drop k) = (u8n a).drop k := by simp [u8n, List.map_drop]
theorem oneCells_u8n (l : List Nat) : ((u8n l).all Value.oneCell') = true := by simp [u8n, Value.oneCell']
theorem zrep_u8 (n : Nat) : zrep n [Value.int .u8 0] = u8n (List.replicate n 0) := by rw [zrep_one]; simp [u8n]
theorem u8n_bytes {l : List Nat} (h : ∀ d ∈ l, d < 256) : u8n l = u8s (l.map UInt8.ofNat) := by
  rw [u8n, u8s, List.map_map]
  apply List.map_congr_left
  intro d hd
  have := h d hd
  simp only [Function.comp, UInt8.toNat_ofNat']
  congr 2
  omega
theorem Sl.at64 {w : World} {ad : Addr} {n : Nat} {ys : List Nat} {k d : Nat} (h : Sl w (some ad) n 1 (u64s ys)) (hd : ys[k]? = some d) : w.cell? (ad.add (k * 1)) = some (.int .u64 (d : Int)) := by
  have hl := h.1
  have hk := (List.getElem?_eq_some_iff.1 hd).1
  rw [length_u64s] at hl
  obtain ⟨ad', he, hr⟩ := h.2 (by omega)
  injection he with he
  subst he
  exact hr.at1 (u64s_at hd)
theorem get_mid {pre done r post : List Nat} {x : Nat} : (pre ++ (done ++ x :: r) ++ post)[pre.length + done.length]? = some x := by
  rw [List.append_assoc, List.getElem?_append_right (by omega), List.append_assoc, List.getElem?_append_right (by omega)]
  simp
theorem set_mid {pre done r post : List Nat} {x y : Nat} : (pre ++ (done ++ x :: r) ++ post).set (pre.length + done.length) y = pre ++ ((done ++ [y]) ++ r) ++ post := by
  rw [List.append_assoc, List.set_append_right _ _ (by omega), List.append_assoc, List.set_append_right _ _ (by omega)]
  simp
/-- Writing into a row: one cell. -/
theorem splice_one {cs : List Value} {o : Nat} {v : Value} (h : o < cs.length) : splice cs o [v] = cs.set o v := by
  unfold splice
  rw [List.set_eq_take_append_cons_drop, if_pos h]
  simp
theorem Hp.front {w0 w : World} {H : List HE} {x : HE} (h : Hp w0 H w) (i : Nat) (hi : H[i]? = some x) : Hp w0 (x :: H.eraseIdx i) w := by
  have hp : H.Perm (x :: H.eraseIdx i) := by
    clear h
    induction H generalizing i with
    | nil => simp at hi
    | cons y H ih =>
      cases i with
      | zero => simp at hi; subst hi; simp
      | succ i =>
        simp only [List.getElem?_cons_succ] at hi
        simp only [List.eraseIdx_cons_succ]
        exact ((ih i hi).cons y).trans (List.Perm.swap x y _)
  exact ⟨h.below, fun y hy => h.own y (hp.mem_iff.2 hy), (hp.filterMap _).nodup_iff.1 h.nd⟩
/-- A row's front alone. -/
theorem Hp.cutRow {w0 w : World} {H : List HE} {A : Option Addr} {n c : Nat} {t : TypeId} {sz : Nat} {xs : List Value} (h : Hp w0 (.row A n c t sz xs :: H) w) {k : Nat} (hk : k ≤ n) : Hp w0 (.row A k c t sz (xs.take (k * sz)) :: H) w := by
  refine ⟨h.below, fun y hy => ?_, h.nd⟩
  rcases List.mem_cons.1 hy with rfl | hy
  · have h1 : w.ownsRow w0.heap.size t sz (.slice A n c) n xs := h.own _ List.mem_cons_self
    obtain ⟨h2, h3⟩ := h1
    have hkn : k * sz ≤ n * sz := Nat.mul_le_mul_right _ hk
    refine ⟨by rw [List.length_take]; omega, ?_⟩
    rcases h3 with ⟨h3, h4⟩ | ⟨g, cap, cur, hv, hb, hg, h4, h5, h6, h7⟩
    · injection h3 with h5 h6 h7
      subst h5 h6 h7
      exact .inl ⟨by rw [show k = 0 by omega], by omega⟩
    · injection hv with h8 h9 h10
      subst h8
      refine .inr ⟨g, cap, cur, by rw [h10], hb, hg, by omega, h5, h6, ?_⟩
      rw [← h7, List.take_take, Nat.min_eq_left hkn]
  · exact h.own y (List.mem_cons_of_mem _ hy)
theorem Hp.row_cap {w0 w : World} {H : List HE} {A : Option Addr} {n c : Nat} {t : TypeId} {sz : Nat} {xs : List Value} {i : Nat} (h : Hp w0 H w) (hi : H[i]? = some (.row A n c t sz xs)) : n ≤ c := by
  have h1 : w.ownsRow w0.heap.size t sz (.slice A n c) n xs := h.at_ hi
  rcases h1.2 with ⟨h3, h4⟩ | ⟨g, cap, cur, hv, hb, hg, h4, h5, h6, h7⟩
  · omega
  · injection hv with h8 h9 h10
    omega
end Go.Proofs.YthmmofllajkejaaGreatDoor

/- The calculus' rules on a region's list, one for each kind of operation (printed by wip/gen/steps.py out of the rules x_..). Plain lemmas, no program in sight. -/
namespace Go.Proofs.YthmmofllajkejaaGreatDoor
open Go.RowKit
section
variable {P : Program} {N : Nat} {ops : Array Oper} {Q : Kq} {ρ : Rf} {w w0 : World} {rest : List Oper} {H : List HE} {d : Nat} {ty : TypeId} {pos : String} {af : Array Edge}

theorem s_move {x : Operand} {v : Value} (hx : ev ρ x = v) (hN : d < N) (kk : WL P N ops Q rest (upd ρ d v) w) :
    WL P N ops Q (⟨some d, .move x, ty, pos, af, none⟩ :: rest) ρ w := wl_val rfl rfl hN (x_move hx) kk

theorem s_assign {x : Operand} {v : Value} (hx : ev ρ x = v) (hN : d < N) (kk : WL P N ops Q rest (upd ρ d v) w) :
    WL P N ops Q (⟨some d, .assign x, ty, pos, af, none⟩ :: rest) ρ w := wl_val rfl rfl hN (x_assign hx) kk

theorem s_pick_t {c a b : Operand} {v : Value} (hc : ev ρ c = .bool true) (hx : ev ρ a = v) (hN : d < N) (kk : WL P N ops Q rest (upd ρ d v) w) :
    WL P N ops Q (⟨some d, .pick c a b, ty, pos, af, none⟩ :: rest) ρ w := wl_val rfl rfl hN (x_pick_t hc hx) kk

theorem s_pick_f {c a b : Operand} {v : Value} (hc : ev ρ c = .bool false) (hx : ev ρ b = v) (hN : d < N) (kk : WL P N ops Q rest (upd ρ d v) w) :
    WL P N ops Q (⟨some d, .pick c a b, ty, pos, af, none⟩ :: rest) ρ w := wl_val rfl rfl hN (x_pick_f hc hx) kk

section
variable {t u : TypeId} {x y : Operand} {k : IntKind} {a b : Int}

theorem s_add (hx : ev ρ x = .int k a) (hy : ev ρ y = .int k b) (hN : d < N) (kk : WL P N ops Q rest (upd ρ d (.int k (k.wrap (a + b)))) w) :
    WL P N ops Q (⟨some d, .binOp .add t x y u, ty, pos, af, none⟩ :: rest) ρ w := wl_val rfl rfl hN (x_add hx hy) kk

theorem s_sub (hx : ev ρ x = .int k a) (hy : ev ρ y = .int k b) (hN : d < N) (kk : WL P N ops Q rest (upd ρ d (.int k (k.wrap (a - b)))) w) :
    WL P N ops Q (⟨some d, .binOp .sub t x y u, ty, pos, af, none⟩ :: rest) ρ w := wl_val rfl rfl hN (x_sub hx hy) kk

theorem s_mul (hx : ev ρ x = .int k a) (hy : ev ρ y = .int k b) (hN : d < N) (kk : WL P N ops Q rest (upd ρ d (.int k (k.wrap (a * b)))) w) :
    WL P N ops Q (⟨some d, .binOp .mul t x y u, ty, pos, af, none⟩ :: rest) ρ w := wl_val rfl rfl hN (x_mul hx hy) kk

theorem s_quo (hx : ev ρ x = .int k a) (hy : ev ρ y = .int k b) (hb : b ≠ 0) (hN : d < N) (kk : WL P N ops Q rest (upd ρ d (.int k (k.wrap (a.tdiv b)))) w) :
    WL P N ops Q (⟨some d, .binOp .quo t x y u, ty, pos, af, none⟩ :: rest) ρ w := wl_val rfl rfl hN (x_quo hx hy hb) kk

theorem s_rem (hx : ev ρ x = .int k a) (hy : ev ρ y = .int k b) (hb : b ≠ 0) (hN : d < N) (kk : WL P N ops Q rest (upd ρ d (.int k (a.tmod b))) w) :
    WL P N ops Q (⟨some d, .binOp .rem t x y u, ty, pos, af, none⟩ :: rest) ρ w := wl_val rfl rfl hN (x_rem hx hy hb) kk

theorem s_and (hx : ev ρ x = .int k a) (hy : ev ρ y = .int k b) (hN : d < N) (kk : WL P N ops Q rest (upd ρ d (.int k (k.wrap (BitVec.ofInt k.bits a &&& BitVec.ofInt k.bits b).toNat))) w) :
    WL P N ops Q (⟨some d, .binOp .and t x y u, ty, pos, af, none⟩ :: rest) ρ w := wl_val rfl rfl hN (x_and hx hy) kk

theorem s_or (hx : ev ρ x = .int k a) (hy : ev ρ y = .int k b) (hN : d < N) (kk : WL P N ops Q rest (upd ρ d (.int k (k.wrap (BitVec.ofInt k.bits a ||| BitVec.ofInt k.bits b).toNat))) w) :
    WL P N ops Q (⟨some d, .binOp .or t x y u, ty, pos, af, none⟩ :: rest) ρ w := wl_val rfl rfl hN (x_or hx hy) kk

theorem s_xor (hx : ev ρ x = .int k a) (hy : ev ρ y = .int k b) (hN : d < N) (kk : WL P N ops Q rest (upd ρ d (.int k (k.wrap (BitVec.ofInt k.bits a ^^^ BitVec.ofInt k.bits b).toNat))) w) :
    WL P N ops Q (⟨some d, .binOp .xor t x y u, ty, pos, af, none⟩ :: rest) ρ w := wl_val rfl rfl hN (x_xor hx hy) kk

theorem s_andNot (hx : ev ρ x = .int k a) (hy : ev ρ y = .int k b) (hN : d < N) (kk : WL P N ops Q rest (upd ρ d (.int k (k.wrap (BitVec.ofInt k.bits a &&& ~~~BitVec.ofInt k.bits b).toNat))) w) :
    WL P N ops Q (⟨some d, .binOp .andNot t x y u, ty, pos, af, none⟩ :: rest) ρ w := wl_val rfl rfl hN (x_andNot hx hy) kk

theorem s_shl {k' : IntKind} (hx : ev ρ x = .int k a) (hy : ev ρ y = .int k' b) (hb : 0 ≤ b) (hN : d < N) (kk : WL P N ops Q rest (upd ρ d (.int k (k.wrap (a * 2 ^ (min b.toNat k.bits))))) w) :
    WL P N ops Q (⟨some d, .binOp .shl t x y u, ty, pos, af, none⟩ :: rest) ρ w := wl_val rfl rfl hN (x_shl hx hy hb) kk

theorem s_shr {k' : IntKind} (hx : ev ρ x = .int k a) (hy : ev ρ y = .int k' b) (hb : 0 ≤ b) (hN : d < N) (kk : WL P N ops Q rest (upd ρ d (.int k (a.fdiv (2 ^ (min b.toNat k.bits))))) w) :
    WL P N ops Q (⟨some d, .binOp .shr t x y u, ty, pos, af, none⟩ :: rest) ρ w := wl_val rfl rfl hN (x_shr hx hy hb) kk

theorem s_lss_t (hx : ev ρ x = .int k a) (hy : ev ρ y = .int k b) (h : a < b) (hN : d < N) (kk : WL P N ops Q rest (upd ρ d (.bool true)) w) :
    WL P N ops Q (⟨some d, .binOp .lss t x y u, ty, pos, af, none⟩ :: rest) ρ w := wl_val rfl rfl hN (x_lss_t hx hy h) kk

theorem s_lss_f (hx : ev ρ x = .int k a) (hy : ev ρ y = .int k b) (h : ¬ a < b) (hN : d < N) (kk : WL P N ops Q rest (upd ρ d (.bool false)) w) :
    WL P N ops Q (⟨some d, .binOp .lss t x y u, ty, pos, af, none⟩ :: rest) ρ w := wl_val rfl rfl hN (x_lss_f hx hy h) kk

theorem s_leq_t (hx : ev ρ x = .int k a) (hy : ev ρ y = .int k b) (h : a ≤ b) (hN : d < N) (kk : WL P N ops Q rest (upd ρ d (.bool true)) w) :
    WL P N ops Q (⟨some d, .binOp .leq t x y u, ty, pos, af, none⟩ :: rest) ρ w := wl_val rfl rfl hN (x_leq_t hx hy h) kk

theorem s_leq_f (hx : ev ρ x = .int k a) (hy : ev ρ y = .int k b) (h : ¬ a ≤ b) (hN : d < N) (kk : WL P N ops Q rest (upd ρ d (.bool false)) w) :
    WL P N ops Q (⟨some d, .binOp .leq t x y u, ty, pos, af, none⟩ :: rest) ρ w := wl_val rfl rfl hN (x_leq_f hx hy h) kk

theorem s_gtr_t (hx : ev ρ x = .int k a) (hy : ev ρ y = .int k b) (h : b < a) (hN : d < N) (kk : WL P N ops Q rest (upd ρ d (.bool true)) w) :
    WL P N ops Q (⟨some d, .binOp .gtr t x y u, ty, pos, af, none⟩ :: rest) ρ w := wl_val rfl rfl hN (x_gtr_t hx hy h) kk

theorem s_gtr_f (hx : ev ρ x = .int k a) (hy : ev ρ y = .int k b) (h : ¬ b < a) (hN : d < N) (kk : WL P N ops Q rest (upd ρ d (.bool false)) w) :
    WL P N ops Q (⟨some d, .binOp .gtr t x y u, ty, pos, af, none⟩ :: rest) ρ w := wl_val rfl rfl hN (x_gtr_f hx hy h) kk

theorem s_geq_t (hx : ev ρ x = .int k a) (hy : ev ρ y = .int k b) (h : b ≤ a) (hN : d < N) (kk : WL P N ops Q rest (upd ρ d (.bool true)) w) :
    WL P N ops Q (⟨some d, .binOp .geq t x y u, ty, pos, af, none⟩ :: rest) ρ w := wl_val rfl rfl hN (x_geq_t hx hy h) kk

theorem s_geq_f (hx : ev ρ x = .int k a) (hy : ev ρ y = .int k b) (h : ¬ b ≤ a) (hN : d < N) (kk : WL P N ops Q rest (upd ρ d (.bool false)) w) :
    WL P N ops Q (⟨some d, .binOp .geq t x y u, ty, pos, af, none⟩ :: rest) ρ w := wl_val rfl rfl hN (x_geq_f hx hy h) kk

theorem s_eql_t (hx : ev ρ x = .int k a) (hy : ev ρ y = .int k b) (h : a = b) (hN : d < N) (kk : WL P N ops Q rest (upd ρ d (.bool true)) w) :
    WL P N ops Q (⟨some d, .binOp .eql t x y u, ty, pos, af, none⟩ :: rest) ρ w := wl_val rfl rfl hN (x_eql_t hx hy h) kk

theorem s_eql_f (hx : ev ρ x = .int k a) (hy : ev ρ y = .int k b) (h : a ≠ b) (hN : d < N) (kk : WL P N ops Q rest (upd ρ d (.bool false)) w) :
    WL P N ops Q (⟨some d, .binOp .eql t x y u, ty, pos, af, none⟩ :: rest) ρ w := wl_val rfl rfl hN (x_eql_f hx hy h) kk

theorem s_neq_t (hx : ev ρ x = .int k a) (hy : ev ρ y = .int k b) (h : a ≠ b) (hN : d < N) (kk : WL P N ops Q rest (upd ρ d (.bool true)) w) :
    WL P N ops Q (⟨some d, .binOp .neq t x y u, ty, pos, af, none⟩ :: rest) ρ w := wl_val rfl rfl hN (x_neq_t hx hy h) kk

theorem s_neq_f (hx : ev ρ x = .int k a) (hy : ev ρ y = .int k b) (h : a = b) (hN : d < N) (kk : WL P N ops Q rest (upd ρ d (.bool false)) w) :
    WL P N ops Q (⟨some d, .binOp .neq t x y u, ty, pos, af, none⟩ :: rest) ρ w := wl_val rfl rfl hN (x_neq_f hx hy h) kk

theorem s_eql_v (hx : ev ρ x = .int k a) (hy : ev ρ y = .int k b) (hN : d < N) (kk : WL P N ops Q rest (upd ρ d (.bool (decide (a = b)))) w) :
    WL P N ops Q (⟨some d, .binOp .eql t x y u, ty, pos, af, none⟩ :: rest) ρ w := wl_val rfl rfl hN (x_eql_v hx hy) kk

theorem s_neg (hx : ev ρ x = .int k a) (hN : d < N) (kk : WL P N ops Q rest (upd ρ d (.int k (k.wrap (-a)))) w) :
    WL P N ops Q (⟨some d, .unOp .neg t x, ty, pos, af, none⟩ :: rest) ρ w := wl_val rfl rfl hN (x_neg hx) kk

theorem s_compl (hx : ev ρ x = .int k a) (hN : d < N) (kk : WL P N ops Q rest (upd ρ d (.int k (k.wrap (BitVec.ofInt k.bits (if k.signed then -1 else k.max) ^^^ BitVec.ofInt k.bits a).toNat))) w) :
    WL P N ops Q (⟨some d, .unOp .xor t x, ty, pos, af, none⟩ :: rest) ρ w := wl_val rfl rfl hN (x_compl hx) kk

theorem s_addi (hx : ev ρ x = .int .i64 a) (hy : ev ρ y = .int .i64 b) (h1 : -9223372036854775808 ≤ a + b) (h2 : a + b ≤ 9223372036854775807) (hN : d < N) (kk : WL P N ops Q rest (upd ρ d (.int .i64 (a + b))) w) :
    WL P N ops Q (⟨some d, .binOp .add t x y u, ty, pos, af, none⟩ :: rest) ρ w := wl_val rfl rfl hN (x_addi hx hy h1 h2) kk

theorem s_subi (hx : ev ρ x = .int .i64 a) (hy : ev ρ y = .int .i64 b) (h1 : -9223372036854775808 ≤ a - b) (h2 : a - b ≤ 9223372036854775807) (hN : d < N) (kk : WL P N ops Q rest (upd ρ d (.int .i64 (a - b))) w) :
    WL P N ops Q (⟨some d, .binOp .sub t x y u, ty, pos, af, none⟩ :: rest) ρ w := wl_val rfl rfl hN (x_subi hx hy h1 h2) kk

theorem s_muli (hx : ev ρ x = .int .i64 a) (hy : ev ρ y = .int .i64 b) (h1 : -9223372036854775808 ≤ a * b) (h2 : a * b ≤ 9223372036854775807) (hN : d < N) (kk : WL P N ops Q rest (upd ρ d (.int .i64 (a * b))) w) :
    WL P N ops Q (⟨some d, .binOp .mul t x y u, ty, pos, af, none⟩ :: rest) ρ w := wl_val rfl rfl hN (x_muli hx hy h1 h2) kk

theorem s_negi (hx : ev ρ x = .int .i64 a) (h1 : -9223372036854775808 ≤ -a) (h2 : -a ≤ 9223372036854775807) (hN : d < N) (kk : WL P N ops Q rest (upd ρ d (.int .i64 (-a))) w) :
    WL P N ops Q (⟨some d, .unOp .neg t x, ty, pos, af, none⟩ :: rest) ρ w := wl_val rfl rfl hN (x_negi hx h1 h2) kk

theorem s_quoi (hx : ev ρ x = .int .i64 a) (hy : ev ρ y = .int .i64 b) (ha : 0 ≤ a) (hb : 0 < b) (h2 : a ≤ 9223372036854775807) (hN : d < N) (kk : WL P N ops Q rest (upd ρ d (.int .i64 (a / b))) w) :
    WL P N ops Q (⟨some d, .binOp .quo t x y u, ty, pos, af, none⟩ :: rest) ρ w := wl_val rfl rfl hN (x_quoi hx hy ha hb h2) kk

theorem s_remi (hx : ev ρ x = .int .i64 a) (hy : ev ρ y = .int .i64 b) (ha : 0 ≤ a) (hb : 0 < b) (hN : d < N) (kk : WL P N ops Q rest (upd ρ d (.int .i64 (a % b))) w) :
    WL P N ops Q (⟨some d, .binOp .rem t x y u, ty, pos, af, none⟩ :: rest) ρ w := wl_val rfl rfl hN (x_remi hx hy ha hb) kk

end

theorem s_not {t : TypeId} {x : Operand} {b : Bool} (hx : ev ρ x = .bool b) (hN : d < N) (kk : WL P N ops Q rest (upd ρ d (.bool !b)) w) :
    WL P N ops Q (⟨some d, .unOp .not t x, ty, pos, af, none⟩ :: rest) ρ w := wl_val rfl rfl hN (x_not hx) kk

section
variable {t u : TypeId} {x y : Operand} {a b : Bool}

theorem s_eql_bool (ht : P.underlying t = some .bool) (hx : ev ρ x = .bool a) (hy : ev ρ y = .bool b) (hN : d < N) (kk : WL P N ops Q rest (upd ρ d (.bool (a == b))) w) :
    WL P N ops Q (⟨some d, .binOp .eql t x y u, ty, pos, af, none⟩ :: rest) ρ w := wl_val rfl rfl hN (x_eql_bool ht hx hy) kk

theorem s_neq_bool (ht : P.underlying t = some .bool) (hx : ev ρ x = .bool a) (hy : ev ρ y = .bool b) (hN : d < N) (kk : WL P N ops Q rest (upd ρ d (.bool (a != b))) w) :
    WL P N ops Q (⟨some d, .binOp .neq t x y u, ty, pos, af, none⟩ :: rest) ρ w := wl_val rfl rfl hN (x_neq_bool ht hx hy) kk

end

section
variable {t u : TypeId} {x y : Operand} {a b : ByteArray}

theorem s_eql_str (hx : ev ρ x = .string a) (hy : ev ρ y = .string b) (hN : d < N) (kk : WL P N ops Q rest (upd ρ d (.bool (a.toList == b.toList))) w) :
    WL P N ops Q (⟨some d, .binOp .eql t x y u, ty, pos, af, none⟩ :: rest) ρ w := wl_val rfl rfl hN (x_eql_str hx hy) kk

theorem s_neq_str (hx : ev ρ x = .string a) (hy : ev ρ y = .string b) (hN : d < N) (kk : WL P N ops Q rest (upd ρ d (.bool !(a.toList == b.toList))) w) :
    WL P N ops Q (⟨some d, .binOp .neq t x y u, ty, pos, af, none⟩ :: rest) ρ w := wl_val rfl rfl hN (x_neq_str hx hy) kk

theorem s_eql_str_t (hx : ev ρ x = .string a) (hy : ev ρ y = .string b) (h : a = b) (hN : d < N) (kk : WL P N ops Q rest (upd ρ d (.bool true)) w) :
    WL P N ops Q (⟨some d, .binOp .eql t x y u, ty, pos, af, none⟩ :: rest) ρ w := wl_val rfl rfl hN (x_eql_str_t hx hy h) kk

theorem s_eql_str_f (hx : ev ρ x = .string a) (hy : ev ρ y = .string b) (h : ¬ a = b) (hN : d < N) (kk : WL P N ops Q rest (upd ρ d (.bool false)) w) :
    WL P N ops Q (⟨some d, .binOp .eql t x y u, ty, pos, af, none⟩ :: rest) ρ w := wl_val rfl rfl hN (x_eql_str_f hx hy h) kk

theorem s_neq_str_t (hx : ev ρ x = .string a) (hy : ev ρ y = .string b) (h : ¬ a = b) (hN : d < N) (kk : WL P N ops Q rest (upd ρ d (.bool true)) w) :
    WL P N ops Q (⟨some d, .binOp .neq t x y u, ty, pos, af, none⟩ :: rest) ρ w := wl_val rfl rfl hN (x_neq_str_t hx hy h) kk

theorem s_neq_str_f (hx : ev ρ x = .string a) (hy : ev ρ y = .string b) (h : a = b) (hN : d < N) (kk : WL P N ops Q rest (upd ρ d (.bool false)) w) :
    WL P N ops Q (⟨some d, .binOp .neq t x y u, ty, pos, af, none⟩ :: rest) ρ w := wl_val rfl rfl hN (x_neq_str_f hx hy h) kk

theorem s_lss_str (hx : ev ρ x = .string a) (hy : ev ρ y = .string b) (hN : d < N) (kk : WL P N ops Q rest (upd ρ d (.bool (Op.bytesLess a.toList b.toList))) w) :
    WL P N ops Q (⟨some d, .binOp .lss t x y u, ty, pos, af, none⟩ :: rest) ρ w := wl_val rfl rfl hN (x_lss_str hx hy) kk

theorem s_leq_str (hx : ev ρ x = .string a) (hy : ev ρ y = .string b) (hN : d < N) (kk : WL P N ops Q rest (upd ρ d (.bool (Op.bytesLess a.toList b.toList || a.toList == b.toList))) w) :
    WL P N ops Q (⟨some d, .binOp .leq t x y u, ty, pos, af, none⟩ :: rest) ρ w := wl_val rfl rfl hN (x_leq_str hx hy) kk

theorem s_gtr_str (hx : ev ρ x = .string a) (hy : ev ρ y = .string b) (hN : d < N) (kk : WL P N ops Q rest (upd ρ d (.bool !(Op.bytesLess a.toList b.toList || a.toList == b.toList))) w) :
    WL P N ops Q (⟨some d, .binOp .gtr t x y u, ty, pos, af, none⟩ :: rest) ρ w := wl_val rfl rfl hN (x_gtr_str hx hy) kk

theorem s_geq_str (hx : ev ρ x = .string a) (hy : ev ρ y = .string b) (hN : d < N) (kk : WL P N ops Q rest (upd ρ d (.bool !(Op.bytesLess a.toList b.toList))) w) :
    WL P N ops Q (⟨some d, .binOp .geq t x y u, ty, pos, af, none⟩ :: rest) ρ w := wl_val rfl rfl hN (x_geq_str hx hy) kk

theorem s_cat (hx : ev ρ x = .string a) (hy : ev ρ y = .string b) (h : a.size + b.size ≤ 9223372036854775807) (hN : d < N) (kk : WL P N ops Q rest (upd ρ d (.string (a ++ b))) w) :
    WL P N ops Q (⟨some d, .binOp .add t x y u, ty, pos, af, none⟩ :: rest) ρ w := wl_val rfl rfl hN (x_cat hx hy h) kk

end

theorem s_conv_int {s t : TypeId} {x : Operand} {k k' : IntKind} {a : Int} {sd : TypeDesc} (hs : P.underlying s = some sd) (ht : P.underlying t = some (.int k)) (hx : ev ρ x = .int k' a) (hN : d < N) (kk : WL P N ops Q rest (upd ρ d (.int k (k.wrap a))) w) :
    WL P N ops Q (⟨some d, .convert s t x, ty, pos, af, none⟩ :: rest) ρ w := wl_val rfl rfl hN (x_conv_int hs ht hx) kk

theorem s_conv_i64 {s t : TypeId} {x : Operand} {k' : IntKind} {a : Int} {sd : TypeDesc} (hs : P.underlying s = some sd) (ht : P.underlying t = some (.int .i64)) (hx : ev ρ x = .int k' a) (h1 : -9223372036854775808 ≤ a) (h2 : a ≤ 9223372036854775807) (hN : d < N) (kk : WL P N ops Q rest (upd ρ d (.int .i64 a)) w) :
    WL P N ops Q (⟨some d, .convert s t x, ty, pos, af, none⟩ :: rest) ρ w := wl_val rfl rfl hN (x_conv_i64 hs ht hx h1 h2) kk

theorem s_conv_str {s t : TypeId} {x : Operand} {a : ByteArray} (hs : P.underlying s = some .string) (ht : P.underlying t = some .string) (hx : ev ρ x = .string a) (hN : d < N) (kk : WL P N ops Q rest (upd ρ d (.string a)) w) :
    WL P N ops Q (⟨some d, .convert s t x, ty, pos, af, none⟩ :: rest) ρ w := wl_val rfl rfl hN (x_conv_str hs ht hx) kk

theorem s_extract {x : Operand} {i : Nat} {vs : List Value} {v : Value} (hx : ev ρ x = .tuple vs.toArray) (hv : vs[i]? = some v) (hN : d < N) (kk : WL P N ops Q rest (upd ρ d v) w) :
    WL P N ops Q (⟨some d, .extract x i, ty, pos, af, none⟩ :: rest) ρ w := wl_val rfl rfl hN (x_extract hx hv) kk

theorem s_makeFunc {fn : Fn} {first captured : Array Operand} {fs cs : List Value} (hf : evs ρ first.toList = fs) (hc : evs ρ captured.toList = cs) (hN : d < N) (kk : WL P N ops Q rest (upd ρ d (.func fn fs.toArray cs.toArray)) w) :
    WL P N ops Q (⟨some d, .makeFunc fn first captured, ty, pos, af, none⟩ :: rest) ρ w := wl_val rfl rfl hN (x_makeFunc hf hc) kk

theorem s_len_str {x : Operand} {t : TypeId} {s : ByteArray} (ht : P.underlying t = some .string) (hx : ev ρ x = .string s) (hN : d < N) (kk : WL P N ops Q rest (upd ρ d (.int .i64 s.size)) w) :
    WL P N ops Q (⟨some d, .call ⟨.builtin .len, #[x], #[t]⟩, ty, pos, af, none⟩ :: rest) ρ w := wl_val rfl rfl hN (x_len_str ht hx) kk

theorem s_len_sl {x : Operand} {t e : TypeId} {A : Option Addr} {n c : Nat} (ht : P.underlying t = some (.slice e)) (hx : ev ρ x = .slice A n c) (hN : d < N) (kk : WL P N ops Q rest (upd ρ d (.int .i64 n)) w) :
    WL P N ops Q (⟨some d, .call ⟨.builtin .len, #[x], #[t]⟩, ty, pos, af, none⟩ :: rest) ρ w := wl_val rfl rfl hN (x_len_sl ht hx) kk

theorem s_min {x y : Operand} {ts : Array TypeId} {k : IntKind} {a b : Int} (hx : ev ρ x = .int k a) (hy : ev ρ y = .int k b) (hN : d < N) (kk : WL P N ops Q rest (upd ρ d (.int k (if b < a then b else a))) w) :
    WL P N ops Q (⟨some d, .call ⟨.builtin .min, #[x, y], ts⟩, ty, pos, af, none⟩ :: rest) ρ w := wl_val rfl rfl hN (x_min hx hy) kk

theorem s_max {x y : Operand} {ts : Array TypeId} {k : IntKind} {a b : Int} (hx : ev ρ x = .int k a) (hy : ev ρ y = .int k b) (hN : d < N) (kk : WL P N ops Q rest (upd ρ d (.int k (if b > a then b else a))) w) :
    WL P N ops Q (⟨some d, .call ⟨.builtin .max, #[x, y], ts⟩, ty, pos, af, none⟩ :: rest) ρ w := wl_val rfl rfl hN (x_max hx hy) kk

theorem s_index_str {t : TypeId} {x i : Operand} {s : ByteArray} {n : Int} {k : IntKind} {c : UInt8} (ht : P.underlying t = some .string) (hx : ev ρ x = .string s) (hi : ev ρ i = .int k n)
    (h0 : 0 ≤ n) (hc : s.data.toList[n.toNat]? = some c) (hN : d < N) (kk : WL P N ops Q rest (upd ρ d (.int .u8 c.toNat)) w) :
    WL P N ops Q (⟨some d, .index t x i, ty, pos, af, none⟩ :: rest) ρ w := wl_val rfl rfl hN (x_index_str ht hx hi h0 hc) kk

theorem s_slice_str {t : TypeId} {x : Operand} {lo hi : Option Operand} {s : ByteArray} {l h : Nat} (ht : P.underlying t = some .string) (hx : ev ρ x = .string s)
    (hlo : match lo with | none => l = 0 | some o => ∃ (k : IntKind) (n : Int), ev ρ o = .int k n ∧ n = l) (hhi : match hi with | none => h = s.size | some o => ∃ (k : IntKind) (n : Int), ev ρ o = .int k n ∧ n = h)
    (h1 : l ≤ h) (h2 : h ≤ s.size) (hN : d < N) (kk : WL P N ops Q rest (upd ρ d (.string (s.extract l h))) w) :
    WL P N ops Q (⟨some d, .slice t x lo hi none, ty, pos, af, none⟩ :: rest) ρ w := wl_val rfl rfl hN (x_slice_str ht hx hlo hhi h1 h2) kk

theorem s_slice_sl {t e : TypeId} {x : Operand} {lo hi : Option Operand} {A : Option Addr} {n c l h sz : Nat} (ht : P.underlying t = some (.slice e)) (hsz : (P.info? e).map (·.size) = some sz) (hx : ev ρ x = .slice A n c)
    (hlo : match lo with | none => l = 0 | some o => ∃ (k : IntKind) (n : Int), ev ρ o = .int k n ∧ n = l) (hhi : match hi with | none => h = n | some o => ∃ (k : IntKind) (n : Int), ev ρ o = .int k n ∧ n = h)
    (h1 : l ≤ h) (h2 : h ≤ c) (hN : d < N) (kk : WL P N ops Q rest (upd ρ d (.slice (if c = l then A else A.map (·.add (l * sz))) (h - l) (c - l))) w) :
    WL P N ops Q (⟨some d, .slice t x lo hi none, ty, pos, af, none⟩ :: rest) ρ w := wl_val rfl rfl hN (x_slice_sl ht hsz hx hlo hhi h1 h2) kk

theorem s_indexAddr {t e : TypeId} {x i : Operand} {ad : Addr} {n c sz : Nat} {k : IntKind} {m : Int} (ht : P.underlying t = some (.slice e)) (hsz : (P.info? e).map (·.size) = some sz) (hx : ev ρ x = .slice (some ad) n c) (hi : ev ρ i = .int k m)
    (h0 : 0 ≤ m) (h1 : m < n) (hN : d < N) (kk : WL P N ops Q rest (upd ρ d (.pointer (some (ad.add (m.toNat * sz))))) w) :
    WL P N ops Q (⟨some d, .indexAddr t x i, ty, pos, af, none⟩ :: rest) ρ w := wl_val rfl rfl hN (x_indexAddr ht hsz hx hi h0 h1) kk

theorem s_indexRow {t e : TypeId} {x i : Operand} {b n c sz k : Nat} {kk : IntKind} {m : Int} (ht : P.underlying t = some (.slice e)) (hsz : (P.info? e).map (·.size) = some sz) (hx : ev ρ x = .slice (some ⟨b, 0, none⟩) n c) (hi : ev ρ i = .int kk m)
    (hm : m = (k : Int)) (h1 : k < n) (hN : d < N) (kk : WL P N ops Q rest (upd ρ d (.pointer (some ⟨b, k * sz, none⟩))) w) :
    WL P N ops Q (⟨some d, .indexAddr t x i, ty, pos, af, none⟩ :: rest) ρ w := wl_val rfl rfl hN (x_indexRow ht hsz hx hi hm h1) kk

theorem s_load {t : TypeId} {x : Operand} {ad : Addr} {n by' : Nat} {zc vs : List Value} (ht : tinfo P t = some (n, true, by', zc)) (hx : ev ρ x = .pointer (some ad)) (hr : Rd w ad vs) (hl : vs.length = n) (hN : d < N) (kk : WL P N ops Q rest (upd ρ d (.agg vs.toArray)) w) :
    WL P N ops Q (⟨some d, .load t x, ty, pos, af, none⟩ :: rest) ρ w := wl_val rfl rfl hN (x_load ht hx hr hl) kk

theorem s_load1 {t : TypeId} {x : Operand} {ad : Addr} {n by' : Nat} {zc : List Value} {v : Value} (ht : tinfo P t = some (n, false, by', zc)) (hx : ev ρ x = .pointer (some ad)) (hc : w.cell? ad = some v) (hN : d < N) (kk : WL P N ops Q rest (upd ρ d v) w) :
    WL P N ops Q (⟨some d, .load t x, ty, pos, af, none⟩ :: rest) ρ w := wl_val rfl rfl hN (x_load1 ht hx hc) kk

theorem s_fieldAddr {s : TypeId} {x : Operand} {f b o off : Nat} {ft : TypeId} (hf : fieldOff P s f = some (off, ft)) (hx : ev ρ x = .pointer (some ⟨b, o, none⟩)) (hN : d < N) (kk : WL P N ops Q rest (upd ρ d (.pointer (some ⟨b, o + off, none⟩))) w) :
    WL P N ops Q (⟨some d, .fieldAddr s x f, ty, pos, af, none⟩ :: rest) ρ w := wl_val rfl rfl hN (x_fieldAddr hf hx) kk

theorem s_fieldAddrA {s : TypeId} {x : Operand} {f off : Nat} {ad : Addr} {ft : TypeId} (hf : fieldOff P s f = some (off, ft)) (hx : ev ρ x = .pointer (some ad)) (hN : d < N) (kk : WL P N ops Q rest (upd ρ d (.pointer (some (ad.add off)))) w) :
    WL P N ops Q (⟨some d, .fieldAddr s x f, ty, pos, af, none⟩ :: rest) ρ w := wl_val rfl rfl hN (x_fieldAddrA hf hx) kk

theorem s_field1 {s : TypeId} {x : Operand} {f off n by' : Nat} {ft : TypeId} {cs : Array Value} {v : Value} {zc : List Value} (hf : fieldOff P s f = some (off, ft)) (ht : tinfo P ft = some (n, false, by', zc)) (hx : ev ρ x = .agg cs) (hv : cs[off]? = some v) (hN : d < N) (kk : WL P N ops Q rest (upd ρ d v) w) :
    WL P N ops Q (⟨some d, .field s x f, ty, pos, af, none⟩ :: rest) ρ w := wl_val rfl rfl hN (x_field1 hf ht hx hv) kk

theorem s_field {s : TypeId} {x : Operand} {f off n by' : Nat} {ft : TypeId} {cs vs : Array Value} {zc : List Value} (hf : fieldOff P s f = some (off, ft)) (ht : tinfo P ft = some (n, true, by', zc)) (hx : ev ρ x = .agg cs) (hv : cs.extract off (off + n) = vs) (hN : d < N) (kk : WL P N ops Q rest (upd ρ d (.agg vs)) w) :
    WL P N ops Q (⟨some d, .field s x f, ty, pos, af, none⟩ :: rest) ρ w := wl_val rfl rfl hN (x_field hf ht hx hv) kk

theorem s_build {t : TypeId} {n by' : Nat} {parts : Array (Nat × Operand)} {ps : List (Nat × Value)} {zc cs : List Value} {pl : List (Nat × Nat)} (hte : tinfo P t = some (n, true, by', zc))
    (hpl : placesOf P t = some pl)
    (hp : evp ρ parts.toList = ps) (hf : fillL (pl[·]?) zc ps = some cs) (hN : d < N) (kk : WL P N ops Q rest (upd ρ d (.agg cs.toArray)) w) :
    WL P N ops Q (⟨some d, .build t parts, ty, pos, af, none⟩ :: rest) ρ w := wl_val rfl rfl hN (x_build hte hpl hp hf) kk

theorem s_bytes_str {s t e : TypeId} {x : Operand} {A : Option Addr} {n c : Nat} {l : List UInt8} (hs : P.underlying s = some (.slice e)) (he : P.underlying e = some (.int .u8)) (ht : P.underlying t = some .string)
    (hx : ev ρ x = .slice A n c) (h : Sl w A n 1 (u8s l)) (hN : d < N) (kk : WL P N ops Q rest (upd ρ d (.string ⟨l.toArray⟩)) w) :
    WL P N ops Q (⟨some d, .convert s t x, ty, pos, af, none⟩ :: rest) ρ w := wl_val rfl rfl hN (x_bytes_str hs he ht hx h) kk

section
variable {t u : TypeId} {x y : Operand} {k : IntKind} {q M : Nat} {a b : Nat}

theorem s_addu [UK k q M] (hx : ev ρ x = .int k (a : Int)) (hy : ev ρ y = .int k (b : Int)) (hN : d < N) (kk : WL P N ops Q rest (upd ρ d (.int k (((a + b) % M : Nat) : Int))) w) :
    WL P N ops Q (⟨some d, .binOp .add t x y u, ty, pos, af, none⟩ :: rest) ρ w := wl_val rfl rfl hN (x_addu hx hy) kk

theorem s_subu [UK k q M] (hx : ev ρ x = .int k (a : Int)) (hy : ev ρ y = .int k (b : Int)) (hb : b ≤ M) (hN : d < N) (kk : WL P N ops Q rest (upd ρ d (.int k (((a + M - b) % M : Nat) : Int))) w) :
    WL P N ops Q (⟨some d, .binOp .sub t x y u, ty, pos, af, none⟩ :: rest) ρ w := wl_val rfl rfl hN (x_subu hx hy hb) kk

theorem s_mulu [UK k q M] (hx : ev ρ x = .int k (a : Int)) (hy : ev ρ y = .int k (b : Int)) (hN : d < N) (kk : WL P N ops Q rest (upd ρ d (.int k (((a * b) % M : Nat) : Int))) w) :
    WL P N ops Q (⟨some d, .binOp .mul t x y u, ty, pos, af, none⟩ :: rest) ρ w := wl_val rfl rfl hN (x_mulu hx hy) kk

theorem s_quou [UK k q M] (hx : ev ρ x = .int k (a : Int)) (hy : ev ρ y = .int k (b : Int)) (hb : 0 < b) (ha : a < M) (hN : d < N) (kk : WL P N ops Q rest (upd ρ d (.int k ((a / b : Nat) : Int))) w) :
    WL P N ops Q (⟨some d, .binOp .quo t x y u, ty, pos, af, none⟩ :: rest) ρ w := wl_val rfl rfl hN (x_quou hx hy hb ha) kk

theorem s_remu (hx : ev ρ x = .int k (a : Int)) (hy : ev ρ y = .int k (b : Int)) (hb : 0 < b) (hN : d < N) (kk : WL P N ops Q rest (upd ρ d (.int k ((a % b : Nat) : Int))) w) :
    WL P N ops Q (⟨some d, .binOp .rem t x y u, ty, pos, af, none⟩ :: rest) ρ w := wl_val rfl rfl hN (x_remu hx hy hb) kk

theorem s_oru [h : UK k q M] (hx : ev ρ x = .int k (a : Int)) (hy : ev ρ y = .int k (b : Int)) (ha : a < M) (hb : b < M) (hN : d < N) (kk : WL P N ops Q rest (upd ρ d (.int k ((a ||| b : Nat) : Int))) w) :
    WL P N ops Q (⟨some d, .binOp .or t x y u, ty, pos, af, none⟩ :: rest) ρ w := wl_val rfl rfl hN (x_oru hx hy ha hb) kk

theorem s_andu [h : UK k q M] (hx : ev ρ x = .int k (a : Int)) (hy : ev ρ y = .int k (b : Int)) (ha : a < M) (hb : b < M) (hN : d < N) (kk : WL P N ops Q rest (upd ρ d (.int k ((a &&& b : Nat) : Int))) w) :
    WL P N ops Q (⟨some d, .binOp .and t x y u, ty, pos, af, none⟩ :: rest) ρ w := wl_val rfl rfl hN (x_andu hx hy ha hb) kk

theorem s_shlu [h : UK k q M] {k' : IntKind} {s : Int} (hx : ev ρ x = .int k (a : Int)) (hy : ev ρ y = .int k' s) (hs : 0 ≤ s ∧ s ≤ q) (hN : d < N) (kk : WL P N ops Q rest (upd ρ d (.int k (((a * 2 ^ s.toNat) % M : Nat) : Int))) w) :
    WL P N ops Q (⟨some d, .binOp .shl t x y u, ty, pos, af, none⟩ :: rest) ρ w := wl_val rfl rfl hN (x_shlu hx hy hs) kk

theorem s_shru [h : UK k q M] {k' : IntKind} {s : Int} (hx : ev ρ x = .int k (a : Int)) (hy : ev ρ y = .int k' s) (hs : 0 ≤ s ∧ s ≤ q) (hN : d < N) (kk : WL P N ops Q rest (upd ρ d (.int k ((a / 2 ^ s.toNat : Nat) : Int))) w) :
    WL P N ops Q (⟨some d, .binOp .shr t x y u, ty, pos, af, none⟩ :: rest) ρ w := wl_val rfl rfl hN (x_shru hx hy hs) kk

theorem s_shluc [UK k q M] {k' : IntKind} {s m : Nat} (hx : ev ρ x = .int k (a : Int)) (hy : ev ρ y = .int k' (s : Int)) (hs : s ≤ q) (hm : 2 ^ s = m) (hN : d < N) (kk : WL P N ops Q rest (upd ρ d (.int k (((a * m) % M : Nat) : Int))) w) :
    WL P N ops Q (⟨some d, .binOp .shl t x y u, ty, pos, af, none⟩ :: rest) ρ w := wl_val rfl rfl hN (x_shluc hx hy hs hm) kk

theorem s_shruc [UK k q M] {k' : IntKind} {s m : Nat} (hx : ev ρ x = .int k (a : Int)) (hy : ev ρ y = .int k' (s : Int)) (hs : s ≤ q) (hm : 2 ^ s = m) (hN : d < N) (kk : WL P N ops Q rest (upd ρ d (.int k ((a / m : Nat) : Int))) w) :
    WL P N ops Q (⟨some d, .binOp .shr t x y u, ty, pos, af, none⟩ :: rest) ρ w := wl_val rfl rfl hN (x_shruc hx hy hs hm) kk

theorem s_negu [h : UK k q M] (hx : ev ρ x = .int k (a : Int)) (ha : a ≤ M) (hN : d < N) (kk : WL P N ops Q rest (upd ρ d (.int k (((M - a) % M : Nat) : Int))) w) :
    WL P N ops Q (⟨some d, .unOp .neg t x, ty, pos, af, none⟩ :: rest) ρ w := wl_val rfl rfl hN (x_negu hx ha) kk

theorem s_convu [UK k q M] {s t : TypeId} {k' : IntKind} {sd : TypeDesc} (hs : P.underlying s = some sd) (ht : P.underlying t = some (.int k)) (hx : ev ρ x = .int k' (a : Int)) (hN : d < N) (kk : WL P N ops Q rest (upd ρ d (.int k ((a % M : Nat) : Int))) w) :
    WL P N ops Q (⟨some d, .convert s t x, ty, pos, af, none⟩ :: rest) ρ w := wl_val rfl rfl hN (x_convu hs ht hx) kk

theorem s_convu_lt [UK k q M] {s t : TypeId} {k' : IntKind} {sd : TypeDesc} (hs : P.underlying s = some sd) (ht : P.underlying t = some (.int k)) (hx : ev ρ x = .int k' (a : Int)) (ha : a < M) (hN : d < N) (kk : WL P N ops Q rest (upd ρ d (.int k (a : Int))) w) :
    WL P N ops Q (⟨some d, .convert s t x, ty, pos, af, none⟩ :: rest) ρ w := wl_val rfl rfl hN (x_convu_lt hs ht hx ha) kk

end

section
variable {t u : TypeId} {x y : Operand} {k : IntKind} {a b : Int}

theorem s_lss_v (hx : ev ρ x = .int k a) (hy : ev ρ y = .int k b) (hN : d < N) (kk : WL P N ops Q rest (upd ρ d (.bool (decide (a < b)))) w) :
    WL P N ops Q (⟨some d, .binOp .lss t x y u, ty, pos, af, none⟩ :: rest) ρ w := wl_val rfl rfl hN (x_lss_v hx hy) kk

theorem s_leq_v (hx : ev ρ x = .int k a) (hy : ev ρ y = .int k b) (hN : d < N) (kk : WL P N ops Q rest (upd ρ d (.bool (decide (a ≤ b)))) w) :
    WL P N ops Q (⟨some d, .binOp .leq t x y u, ty, pos, af, none⟩ :: rest) ρ w := wl_val rfl rfl hN (x_leq_v hx hy) kk

theorem s_gtr_v (hx : ev ρ x = .int k a) (hy : ev ρ y = .int k b) (hN : d < N) (kk : WL P N ops Q rest (upd ρ d (.bool (decide (b < a)))) w) :
    WL P N ops Q (⟨some d, .binOp .gtr t x y u, ty, pos, af, none⟩ :: rest) ρ w := wl_val rfl rfl hN (x_gtr_v hx hy) kk

theorem s_geq_v (hx : ev ρ x = .int k a) (hy : ev ρ y = .int k b) (hN : d < N) (kk : WL P N ops Q rest (upd ρ d (.bool (decide (b ≤ a)))) w) :
    WL P N ops Q (⟨some d, .binOp .geq t x y u, ty, pos, af, none⟩ :: rest) ρ w := wl_val rfl rfl hN (x_geq_v hx hy) kk

theorem s_neq_v (hx : ev ρ x = .int k a) (hy : ev ρ y = .int k b) (hN : d < N) (kk : WL P N ops Q rest (upd ρ d (.bool (decide (a ≠ b)))) w) :
    WL P N ops Q (⟨some d, .binOp .neq t x y u, ty, pos, af, none⟩ :: rest) ρ w := wl_val rfl rfl hN (x_neq_v hx hy) kk

end

section
variable {t u : TypeId} {x y : Operand} {a b : Bool}

theorem s_eqb_t (ht : P.underlying t = some .bool) (hx : ev ρ x = .bool a) (hy : ev ρ y = .bool b) (h : a = b) (hN : d < N) (kk : WL P N ops Q rest (upd ρ d (.bool true)) w) :
    WL P N ops Q (⟨some d, .binOp .eql t x y u, ty, pos, af, none⟩ :: rest) ρ w := wl_val rfl rfl hN (x_eqb_t ht hx hy h) kk

theorem s_eqb_f (ht : P.underlying t = some .bool) (hx : ev ρ x = .bool a) (hy : ev ρ y = .bool b) (h : ¬ a = b) (hN : d < N) (kk : WL P N ops Q rest (upd ρ d (.bool false)) w) :
    WL P N ops Q (⟨some d, .binOp .eql t x y u, ty, pos, af, none⟩ :: rest) ρ w := wl_val rfl rfl hN (x_eqb_f ht hx hy h) kk

theorem s_neb_t (ht : P.underlying t = some .bool) (hx : ev ρ x = .bool a) (hy : ev ρ y = .bool b) (h : ¬ a = b) (hN : d < N) (kk : WL P N ops Q rest (upd ρ d (.bool true)) w) :
    WL P N ops Q (⟨some d, .binOp .neq t x y u, ty, pos, af, none⟩ :: rest) ρ w := wl_val rfl rfl hN (x_neb_t ht hx hy h) kk

theorem s_neb_f (ht : P.underlying t = some .bool) (hx : ev ρ x = .bool a) (hy : ev ρ y = .bool b) (h : a = b) (hN : d < N) (kk : WL P N ops Q rest (upd ρ d (.bool false)) w) :
    WL P N ops Q (⟨some d, .binOp .neq t x y u, ty, pos, af, none⟩ :: rest) ρ w := wl_val rfl rfl hN (x_neb_f ht hx hy h) kk

end

theorem s_indexSl {t e : TypeId} {x i : Operand} {ad : Addr} {n c sz k : Nat} {kk : IntKind} {m : Int} (ht : P.underlying t = some (.slice e)) (hsz : (P.info? e).map (·.size) = some sz) (hx : ev ρ x = .slice (some ad) n c) (hi : ev ρ i = .int kk m)
    (hm : m = (k : Int)) (h1 : k < n) (hN : d < N) (kk : WL P N ops Q rest (upd ρ d (.pointer (some (ad.add (k * sz))))) w) :
    WL P N ops Q (⟨some d, .indexAddr t x i, ty, pos, af, none⟩ :: rest) ρ w := wl_val rfl rfl hN (x_indexSl ht hsz hx hi hm h1) kk

theorem s_indexOff {t e : TypeId} {x i : Operand} {b o n c sz k : Nat} {kk : IntKind} {m : Int} (ht : P.underlying t = some (.slice e)) (hsz : (P.info? e).map (·.size) = some sz) (hx : ev ρ x = .slice (some ⟨b, o, none⟩) n c) (hi : ev ρ i = .int kk m)
    (hm : m = (k : Int)) (h1 : k < n) (hN : d < N) (kk : WL P N ops Q rest (upd ρ d (.pointer (some ⟨b, o + k * sz, none⟩))) w) :
    WL P N ops Q (⟨some d, .indexAddr t x i, ty, pos, af, none⟩ :: rest) ρ w := wl_val rfl rfl hN (x_indexOff ht hsz hx hi hm h1) kk

theorem s_indexArr {t e : TypeId} {x i : Operand} {ad : Addr} {n sz k : Nat} {kk : IntKind} {m : Int} (ht : P.underlying t = some (.array n e)) (hsz : (P.info? e).map (·.size) = some sz) (hx : ev ρ x = .pointer (some ad)) (hi : ev ρ i = .int kk m)
    (hm : m = (k : Int)) (h1 : k < n) (hN : d < N) (kk : WL P N ops Q rest (upd ρ d (.pointer (some (ad.add (k * sz))))) w) :
    WL P N ops Q (⟨some d, .indexAddr t x i, ty, pos, af, none⟩ :: rest) ρ w := wl_val rfl rfl hN (x_indexArr ht hsz hx hi hm h1) kk

theorem s_cutEnd {t e : TypeId} {x hi : Operand} {A : Option Addr} {n c h sz : Nat} {k : IntKind} {m : Int} (ht : P.underlying t = some (.slice e)) (hsz : (P.info? e).map (·.size) = some sz) (hx : ev ρ x = .slice A n c) (hhi : ev ρ hi = .int k m)
    (hm : m = (h : Int)) (h2 : h ≤ c) (hN : d < N) (kk : WL P N ops Q rest (upd ρ d (.slice A h c)) w) :
    WL P N ops Q (⟨some d, .slice t x none (some hi) none, ty, pos, af, none⟩ :: rest) ρ w := wl_val rfl rfl hN (x_cutEnd ht hsz hx hhi hm h2) kk

theorem s_cutBegin {t e : TypeId} {x lo : Operand} {b o n c l sz : Nat} {k : IntKind} {m : Int} (ht : P.underlying t = some (.slice e)) (hsz : (P.info? e).map (·.size) = some sz) (hx : ev ρ x = .slice (some ⟨b, o, none⟩) n c) (hlo : ev ρ lo = .int k m)
    (hm : m = (l : Int)) (h1 : l ≤ n) (h2 : n ≤ c) (h3 : l < c) (hN : d < N) (kk : WL P N ops Q rest (upd ρ d (.slice (some ⟨b, o + l * sz, none⟩) (n - l) (c - l))) w) :
    WL P N ops Q (⟨some d, .slice t x (some lo) none none, ty, pos, af, none⟩ :: rest) ρ w := wl_val rfl rfl hN (x_cutBegin ht hsz hx hlo hm h1 h2 h3) kk

theorem s_cutBeginA {t e : TypeId} {x lo : Operand} {ad : Addr} {n c l sz : Nat} {k : IntKind} {m : Int} (ht : P.underlying t = some (.slice e)) (hsz : (P.info? e).map (·.size) = some sz) (hx : ev ρ x = .slice (some ad) n c) (hlo : ev ρ lo = .int k m)
    (hm : m = (l : Int)) (h1 : l ≤ n) (h2 : n ≤ c) (h3 : l < c) (hN : d < N) (kk : WL P N ops Q rest (upd ρ d (.slice (some (ad.add (l * sz))) (n - l) (c - l))) w) :
    WL P N ops Q (⟨some d, .slice t x (some lo) none none, ty, pos, af, none⟩ :: rest) ρ w := wl_val rfl rfl hN (x_cutBeginA ht hsz hx hlo hm h1 h2 h3) kk

theorem evs_nil : evs ρ [] = [] := rfl
theorem evs_cons {x : Operand} {l : List Operand} {v : Value} {r : List Value} (hx : ev ρ x = v) (h : evs ρ l = r) : evs ρ (x :: l) = v :: r := by simp only [evs, hx, h]
theorem evp_nil : evp ρ [] = [] := rfl
theorem evp_cons {i : Nat} {x : Operand} {l : List (Nat × Operand)} {v : Value} {r : List (Nat × Value)} (hx : ev ρ x = v) (h : evp ρ l = r) : evp ρ ((i, x) :: l) = (i, v) :: r := by simp only [evp, hx, h]
/-- The function f of the program has a body and is not of the model's own. -/
def isFn (P : Program) (f : FuncId) : Bool := match P.funcs[f]? with | some fn => !fn.body.isNone && !(fn.name == "runtime.NumGoroutine") | none => false
theorem isFn_spec {P : Program} {f : FuncId} (h : isFn P f = true) : ∃ fn, P.funcs[f]? = some fn ∧ fn.body.isNone = false ∧ (fn.name == "runtime.NumGoroutine") = false := by
  unfold isFn at h
  split at h
  · rename_i fn hf
    simp only [Bool.and_eq_true, Bool.not_eq_true'] at h
    exact ⟨fn, hf, h.1, h.2⟩
  · cases h
theorem run_callf {dd : Option Nat} {g : Option (Nat × Bool)} {f : FuncId} {args : Array Operand} {ts : Array TypeId} {vs : List Value} (hf : isFn P f = true) (ha : evs ρ args.toList = vs) :
    (execOp (ev ρ) ⟨dd, .call ⟨.value (.func f), args, ts⟩, ty, pos, af, g⟩).run P w = .ok (.enter f vs.toArray) w := by
  obtain ⟨fn, h1, h2, h3⟩ := isFn_spec hf
  have := x_call (P := P) (w := w) (d := dd) (ty := ty) (pos := pos) (af := af) (g := g) (ts := ts) h1 h2 h3 (show ev ρ (.func f) = .func (.func f) #[] #[] from rfl) (evs_arr args ha)
  simpa using this
theorem run_callv {dd : Option Nat} {g : Option (Nat × Bool)} {x : Operand} {f : FuncId} {args : Array Operand} {ts : Array TypeId} {first cap vs : List Value} (hf : isFn P f = true) (hx : ev ρ x = .func (.func f) first.toArray cap.toArray) (ha : first ++ (evs ρ args.toList ++ cap) = vs) :
    (execOp (ev ρ) ⟨dd, .call ⟨.value x, args, ts⟩, ty, pos, af, g⟩).run P w = .ok (.enter f vs.toArray) w := by
  obtain ⟨fn, h1, h2, h3⟩ := isFn_spec hf
  have := x_call (P := P) (w := w) (d := dd) (ty := ty) (pos := pos) (af := af) (g := g) (ts := ts) h1 h2 h3 hx (evs_arr args rfl)
  subst ha
  simpa using this
theorem s_callf {f : FuncId} {args : Array Operand} {ts : Array TypeId} {vs : List Value} {R : Ending → World → Prop} (hc : Calls P f vs.toArray w R) (hf : isFn P f = true) (ha : evs ρ args.toList = vs) (hN : d < N)
    (kk : ∀ e w', R e w' → ∃ v, e = .returned v ∧ WL P N ops Q rest (upd ρ d v) w') : WL P N ops Q (⟨some d, .call ⟨.value (.func f), args, ts⟩, ty, pos, af, none⟩ :: rest) ρ w :=
  wl_enter rfl rfl hN (run_callf hf ha) hc kk
theorem s_callf0 {f : FuncId} {args : Array Operand} {ts : Array TypeId} {vs : List Value} {R : Ending → World → Prop} (hc : Calls P f vs.toArray w R) (hf : isFn P f = true) (ha : evs ρ args.toList = vs)
    (kk : ∀ e w', R e w' → ∃ v, e = .returned v ∧ WL P N ops Q rest ρ w') : WL P N ops Q (⟨none, .call ⟨.value (.func f), args, ts⟩, ty, pos, af, none⟩ :: rest) ρ w :=
  wl_enter0 rfl rfl (run_callf hf ha) hc kk
theorem s_callv {x : Operand} {f : FuncId} {args : Array Operand} {ts : Array TypeId} {first cap vs : List Value} {R : Ending → World → Prop} (hc : Calls P f vs.toArray w R) (hf : isFn P f = true) (hx : ev ρ x = .func (.func f) first.toArray cap.toArray) (ha : first ++ (evs ρ args.toList ++ cap) = vs) (hN : d < N)
    (kk : ∀ e w', R e w' → ∃ v, e = .returned v ∧ WL P N ops Q rest (upd ρ d v) w') : WL P N ops Q (⟨some d, .call ⟨.value x, args, ts⟩, ty, pos, af, none⟩ :: rest) ρ w :=
  wl_enter rfl rfl hN (run_callv hf hx ha) hc kk
end
end Go.Proofs.YthmmofllajkejaaGreatDoor
