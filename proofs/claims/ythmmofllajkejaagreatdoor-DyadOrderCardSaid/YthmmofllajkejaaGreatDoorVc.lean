/- A small calculus over the model's operations: register files as functions; one rule for each construct. Plain lemmas, no program in sight. -/
import Derived.WalkKit
import Derived.WalkLawsBesides
import Derived.Below
import Derived.Laws.OwnMore
import Derived.Laws.Rows
import Derived.RegionTactic
namespace Go.Proofs.YthmmofllajkejaaGreatDoor
open Go.RowKit

abbrev Rf := Nat → Value
def upd (ρ : Rf) (d : Nat) (v : Value) : Rf := fun i => bif Nat.beq i d then v else ρ i
def ev (ρ : Rf) : Operand → Value
  | .tmp t => ρ t
  | .const v => v
  | .global g => .pointer (some ⟨g, 0, none⟩)
  | .func f => .func (.func f) #[] #[]
structure Fits (N : Nat) (a : Act) (ρ : Rf) : Prop where
  nd : a.defers = []
  sz : a.tmps.size = N
  at_ : ∀ i, a.tmps.getD i undef = ρ i
theorem Fits.eval {N : Nat} {a : Act} {ρ : Rf} (h : Fits N a ρ) : a.eval = ev ρ := by
  funext x
  cases x with
  | tmp t => exact h.at_ t
  | _ => rfl
theorem upd_same (ρ : Rf) (d : Nat) (v : Value) : upd ρ d v d = v := by simp [upd]
theorem upd_other (ρ : Rf) {d i : Nat} (h : i ≠ d) (v : Value) : upd ρ d v i = ρ i := by
  have hb : Nat.beq i d = false := by
    cases hb : Nat.beq i d
    · rfl
    · exact absurd (Nat.eq_of_beq_eq_true hb) h
  simp only [upd, hb, cond_false]
theorem Fits.put {N : Nat} {a : Act} {ρ : Rf} (h : Fits N a ρ) {d : Nat} (hd : d < N) (v : Value) : Fits N (a.put (some d) v) (upd ρ d v) := by
  refine ⟨h.nd, by simp [Act.put, h.sz], fun i => ?_⟩
  by_cases hi : i = d
  · subst hi
    rw [upd_same]
    simp [Act.put, h.sz, hd]
  · rw [upd_other ρ hi, ← h.at_ i]
    have : d ≠ i := fun e => hi e.symm
    simp [Act.put, Array.getElem?_setIfInBounds_ne this]
abbrev Kq := Exit → Rf → World → Prop
def lift (N : Nat) (Q : Kq) : Exit → Act → World → Prop := fun e a w => ∃ ρ, Fits N a ρ ∧ Q e ρ w
structure WC (P : Program) (N : Nat) (c : Code) (Q : Kq) (ρ : Rf) (w : World) : Prop where
  out : ∀ a, Fits N a ρ → c.wp P (lift N Q) a w
structure WL (P : Program) (N : Nat) (ops : Array Oper) (Q : Kq) (l : List Oper) (ρ : Rf) (w : World) : Prop where
  out : ∀ a, Fits N a ρ → wpList P ops (lift N Q) l a w
def thenK (next : Rf → World → Prop) (Q : Kq) : Kq
  | .normal, ρ, w => next ρ w
  | e, ρ, w => Q e ρ w
def blkK (id : Nat) (Q : Kq) : Kq
  | .exit id', ρ, w => if id' = id then Q .normal ρ w else Q (.exit id') ρ w
  | e, ρ, w => Q e ρ w

section code
variable {P : Program} {N : Nat} {Q : Kq} {ρ : Rf} {w : World}
theorem lift_mono {Q Q' : Kq} (h : ∀ e ρ w, Q e ρ w → Q' e ρ w) (e : Exit) (a : Act) (w : World) : lift N Q e a w → lift N Q' e a w :=
  fun ⟨ρ, hf, hq⟩ => ⟨ρ, hf, h _ _ _ hq⟩
theorem WC.mono {c : Code} {Q' : Kq} (h : WC P N c Q ρ w) (hq : ∀ e ρ w, Q e ρ w → Q' e ρ w) : WC P N c Q' ρ w :=
  ⟨fun a hf => wp_mono (h.out a hf) (lift_mono hq)⟩
theorem wc_seq {x y : Code} (h : WC P N x (thenK (fun ρ w => WC P N y Q ρ w) Q) ρ w) : WC P N (.seq x y) Q ρ w :=
  ⟨fun a hf => wp_seq (wp_mono (h.out a hf) fun e a' w' ⟨ρ', hf', hq⟩ => by
    cases e with
    | normal => exact hq.out a' hf'
    | _ => exact ⟨ρ', hf', hq⟩)⟩
theorem wc_skip (h : Q .normal ρ w) : WC P N .skip Q ρ w := ⟨fun _ hf => wp_skip ⟨ρ, hf, h⟩⟩
theorem wc_ret (h : Q .ret ρ w) : WC P N .ret Q ρ w := ⟨fun _ hf => wp_ret ⟨ρ, hf, h⟩⟩
theorem wc_exit {id : Nat} (h : Q (.exit id) ρ w) : WC P N (.exit id) Q ρ w := ⟨fun _ hf => wp_exit ⟨ρ, hf, h⟩⟩
theorem wc_label {l : Nat} (h : Q .normal ρ w) : WC P N (.label l) Q ρ w := ⟨fun _ hf => wp_label ⟨ρ, hf, h⟩⟩
theorem wc_block {id : Nat} {c : Code} (h : WC P N c (blkK id Q) ρ w) : WC P N (.block id c) Q ρ w :=
  ⟨fun a hf => wp_block (wp_mono (h.out a hf) fun e a' w' ⟨ρ', hf', hq⟩ => by
    cases e with
    | exit id' =>
      by_cases hid : id' = id
      · simp only [blkK, hid, if_true] at hq
        simp only [Exit.inBlock, hid, if_true]
        exact ⟨ρ', hf', hq⟩
      · simp only [blkK, hid, if_false] at hq
        simp only [Exit.inBlock, hid, if_false]
        exact ⟨ρ', hf', hq⟩
    | _ => exact ⟨ρ', hf', hq⟩)⟩
theorem wc_cond_t {c : Operand} {x y : Code} (hc : ev ρ c = .bool true) (h : WC P N x Q ρ w) : WC P N (.cond c x y) Q ρ w :=
  ⟨fun a hf => wp_cond_true (by rw [hf.eval]; exact hc) (h.out a hf)⟩
theorem wc_cond_f {c : Operand} {x y : Code} (hc : ev ρ c = .bool false) (h : WC P N y Q ρ w) : WC P N (.cond c x y) Q ρ w :=
  ⟨fun a hf => wp_cond_false (by rw [hf.eval]; exact hc) (h.out a hf)⟩
theorem wc_split {c : Operand} {b : Bool} {x y : Code} (hc : ev ρ c = .bool b) (ht : b = true → WC P N x Q ρ w) (hf : b = false → WC P N y Q ρ w) : WC P N (.cond c x y) Q ρ w := by
  cases b with
  | true => exact wc_cond_t hc (ht rfl)
  | false => exact wc_cond_f hc (hf rfl)
theorem wc_region {id : Nat} {l : List Oper} (h : WL P N l.toArray Q l ρ w) : WC P N (.region id l.toArray false) Q ρ w :=
  ⟨fun a hf => wp_region_lit (h.out a hf)⟩
/-- thenK, blkK at a literal exit. -/
theorem k_then {next : Rf → World → Prop} (h : next ρ w) : thenK next Q .normal ρ w := h
theorem k_ret {next : Rf → World → Prop} (h : Q .ret ρ w) : thenK next Q .ret ρ w := h
theorem k_exit {next : Rf → World → Prop} {id : Nat} (h : Q (.exit id) ρ w) : thenK next Q (.exit id) ρ w := h
theorem b_norm {id : Nat} (h : Q .normal ρ w) : blkK id Q .normal ρ w := h
theorem b_ret {id : Nat} (h : Q .ret ρ w) : blkK id Q .ret ρ w := h
theorem b_here {id : Nat} (h : Q .normal ρ w) : blkK id Q (.exit id) ρ w := by simpa [blkK] using h
theorem b_past {id id' : Nat} (hne : id' ≠ id) (h : Q (.exit id') ρ w) : blkK id Q (.exit id') ρ w := by simpa [blkK, hne] using h

/-- A loop: what holds at its head, over the slots that its body may write ('mods'); the others stay. -/
def mask (mods : List Nat) (ρ' ρ : Rf) : Rf := fun i => bif mods.contains i then ρ' i else ρ i
def Agree (mods : List Nat) (ρ1 ρ : Rf) : Prop := ∀ i, mods.contains i = false → ρ1 i = ρ i
theorem agree_mask (mods : List Nat) (ρ' ρ : Rf) : Agree mods (mask mods ρ' ρ) ρ := fun i hi => by simp only [mask, hi, cond_false]
theorem agree_upd {mods : List Nat} {ρ1 ρ : Rf} {d : Nat} {v : Value} (hd : mods.contains d = true) (h : Agree mods ρ1 ρ) : Agree mods (upd ρ1 d v) ρ := fun i hi => by
  rw [upd_other ρ1 (fun e => by rw [e, hd] at hi; cases hi)]
  exact h i hi
theorem agree_mask2 {mods mods2 : List Nat} {ρ' ρ1 ρ : Rf} (hm : (mods2.all fun i => mods.contains i) = true) (h : Agree mods ρ1 ρ) : Agree mods (mask mods2 ρ' ρ1) ρ := fun i hi => by
  have h2 : mods2.contains i = false := by
    cases hc : mods2.contains i with
    | false => rfl
    | true =>
      have := List.all_eq_true.1 hm i (by simpa using hc)
      rw [this] at hi; cases hi
  simp only [mask, h2, cond_false]
  exact h i hi
theorem mask_self {mods : List Nat} {ρ1 ρ : Rf} (h : Agree mods ρ1 ρ) : mask mods ρ1 ρ = ρ1 := by
  funext i
  simp only [mask]
  cases hc : mods.contains i with
  | true => rfl
  | false => simpa using (h i hc).symm
theorem upd_self (ρ : Rf) (d : Nat) : upd ρ d (ρ d) = ρ := by
  funext i
  by_cases h : i = d
  · subst h; rw [upd_same]
  · rw [upd_other ρ h]
theorem wc_loop {c : Code} (I : Rf → World → Prop) (μ : Rf → World → Nat) (h0 : I ρ w)
    (round : ∀ ρ w, I ρ w → WC P N c (thenK (fun ρ' w' => I ρ' w' ∧ μ ρ' w' < μ ρ w) Q) ρ w) : WC P N (.loop c) Q ρ w := by
  refine ⟨fun a hf => ?_⟩
  refine wp_loop (fun a w => ∃ ρ, Fits N a ρ ∧ I ρ w) (fun a w => μ (fun i => a.tmps.getD i undef) w) ⟨ρ, hf, h0⟩ ?_
  rintro a w ⟨ρ, hf, hi⟩
  refine wp_mono ((round ρ w hi).out a hf) ?_
  rintro e a' w' ⟨ρ', hf', hq⟩
  have e1 : (fun i => a.tmps.getD i undef) = ρ := funext hf.at_
  have e2 : (fun i => a'.tmps.getD i undef) = ρ' := funext hf'.at_
  cases e with
  | normal => exact ⟨⟨ρ', hf', hq.1⟩, by rw [e1, e2]; exact hq.2⟩
  | _ => exact ⟨ρ', hf', hq⟩
theorem wc_loop0 {c : Code} (mods : List Nat) (I : World → Prop) (μ : World → Nat) (h0 : I  w)
    (round : ∀ ρ' w', I  w' → WC P N c (thenK (fun ρ2 w2 => I  w2 ∧ μ  w2 < μ  w' ∧ Agree mods ρ2 ρ) Q) (mask mods ρ' ρ) w') : WC P N (.loop c) Q ρ w :=
  wc_loop (fun ρ1 w1 => I  w1 ∧ Agree mods ρ1 ρ) (fun ρ1 w1 => μ  w1) ⟨h0, fun _ _ => rfl⟩ fun ρ1 w1 ⟨hi, ha⟩ => by
    have h := round ρ1  w1 hi
    rw [mask_self ha] at h
    exact h.mono fun e ρ2 w2 hq => by
      cases e with
      | normal => exact ⟨⟨hq.1, hq.2.2⟩, hq.2.1⟩
      | _ => exact hq
theorem wc_loop1 {c : Code} (mods : List Nat) (s0 : Nat) (I : Value → World → Prop) (μ : Value → World → Nat) (h0 : I (ρ s0) w)
    (round : ∀ ρ' v0 w', I v0 w' → WC P N c (thenK (fun ρ2 w2 => I (ρ2 s0) w2 ∧ μ (ρ2 s0) w2 < μ v0 w' ∧ Agree mods ρ2 ρ) Q) (upd (mask mods ρ' ρ) s0 v0) w') : WC P N (.loop c) Q ρ w :=
  wc_loop (fun ρ1 w1 => I (ρ1 s0) w1 ∧ Agree mods ρ1 ρ) (fun ρ1 w1 => μ (ρ1 s0) w1) ⟨h0, fun _ _ => rfl⟩ fun ρ1 w1 ⟨hi, ha⟩ => by
    have h := round ρ1 (ρ1 s0) w1 hi
    rw [mask_self ha, upd_self] at h
    exact h.mono fun e ρ2 w2 hq => by
      cases e with
      | normal => exact ⟨⟨hq.1, hq.2.2⟩, hq.2.1⟩
      | _ => exact hq
theorem wc_loop2 {c : Code} (mods : List Nat) (s0 s1 : Nat) (I : Value → Value → World → Prop) (μ : Value → Value → World → Nat) (h0 : I (ρ s0) (ρ s1) w)
    (round : ∀ ρ' v0 v1 w', I v0 v1 w' → WC P N c (thenK (fun ρ2 w2 => I (ρ2 s0) (ρ2 s1) w2 ∧ μ (ρ2 s0) (ρ2 s1) w2 < μ v0 v1 w' ∧ Agree mods ρ2 ρ) Q) (upd (upd (mask mods ρ' ρ) s0 v0) s1 v1) w') : WC P N (.loop c) Q ρ w :=
  wc_loop (fun ρ1 w1 => I (ρ1 s0) (ρ1 s1) w1 ∧ Agree mods ρ1 ρ) (fun ρ1 w1 => μ (ρ1 s0) (ρ1 s1) w1) ⟨h0, fun _ _ => rfl⟩ fun ρ1 w1 ⟨hi, ha⟩ => by
    have h := round ρ1 (ρ1 s0) (ρ1 s1) w1 hi
    rw [mask_self ha, upd_self, upd_self] at h
    exact h.mono fun e ρ2 w2 hq => by
      cases e with
      | normal => exact ⟨⟨hq.1, hq.2.2⟩, hq.2.1⟩
      | _ => exact hq
theorem wc_loop3 {c : Code} (mods : List Nat) (s0 s1 s2 : Nat) (I : Value → Value → Value → World → Prop) (μ : Value → Value → Value → World → Nat) (h0 : I (ρ s0) (ρ s1) (ρ s2) w)
    (round : ∀ ρ' v0 v1 v2 w', I v0 v1 v2 w' → WC P N c (thenK (fun ρ2 w2 => I (ρ2 s0) (ρ2 s1) (ρ2 s2) w2 ∧ μ (ρ2 s0) (ρ2 s1) (ρ2 s2) w2 < μ v0 v1 v2 w' ∧ Agree mods ρ2 ρ) Q) (upd (upd (upd (mask mods ρ' ρ) s0 v0) s1 v1) s2 v2) w') : WC P N (.loop c) Q ρ w :=
  wc_loop (fun ρ1 w1 => I (ρ1 s0) (ρ1 s1) (ρ1 s2) w1 ∧ Agree mods ρ1 ρ) (fun ρ1 w1 => μ (ρ1 s0) (ρ1 s1) (ρ1 s2) w1) ⟨h0, fun _ _ => rfl⟩ fun ρ1 w1 ⟨hi, ha⟩ => by
    have h := round ρ1 (ρ1 s0) (ρ1 s1) (ρ1 s2) w1 hi
    rw [mask_self ha, upd_self, upd_self, upd_self] at h
    exact h.mono fun e ρ2 w2 hq => by
      cases e with
      | normal => exact ⟨⟨hq.1, hq.2.2⟩, hq.2.1⟩
      | _ => exact hq
theorem wc_loop4 {c : Code} (mods : List Nat) (s0 s1 s2 s3 : Nat) (I : Value → Value → Value → Value → World → Prop) (μ : Value → Value → Value → Value → World → Nat) (h0 : I (ρ s0) (ρ s1) (ρ s2) (ρ s3) w)
    (round : ∀ ρ' v0 v1 v2 v3 w', I v0 v1 v2 v3 w' → WC P N c (thenK (fun ρ2 w2 => I (ρ2 s0) (ρ2 s1) (ρ2 s2) (ρ2 s3) w2 ∧ μ (ρ2 s0) (ρ2 s1) (ρ2 s2) (ρ2 s3) w2 < μ v0 v1 v2 v3 w' ∧ Agree mods ρ2 ρ) Q) (upd (upd (upd (upd (mask mods ρ' ρ) s0 v0) s1 v1) s2 v2) s3 v3) w') : WC P N (.loop c) Q ρ w :=
  wc_loop (fun ρ1 w1 => I (ρ1 s0) (ρ1 s1) (ρ1 s2) (ρ1 s3) w1 ∧ Agree mods ρ1 ρ) (fun ρ1 w1 => μ (ρ1 s0) (ρ1 s1) (ρ1 s2) (ρ1 s3) w1) ⟨h0, fun _ _ => rfl⟩ fun ρ1 w1 ⟨hi, ha⟩ => by
    have h := round ρ1 (ρ1 s0) (ρ1 s1) (ρ1 s2) (ρ1 s3) w1 hi
    rw [mask_self ha, upd_self, upd_self, upd_self, upd_self] at h
    exact h.mono fun e ρ2 w2 hq => by
      cases e with
      | normal => exact ⟨⟨hq.1, hq.2.2⟩, hq.2.1⟩
      | _ => exact hq
theorem wc_loop5 {c : Code} (mods : List Nat) (s0 s1 s2 s3 s4 : Nat) (I : Value → Value → Value → Value → Value → World → Prop) (μ : Value → Value → Value → Value → Value → World → Nat) (h0 : I (ρ s0) (ρ s1) (ρ s2) (ρ s3) (ρ s4) w)
    (round : ∀ ρ' v0 v1 v2 v3 v4 w', I v0 v1 v2 v3 v4 w' → WC P N c (thenK (fun ρ2 w2 => I (ρ2 s0) (ρ2 s1) (ρ2 s2) (ρ2 s3) (ρ2 s4) w2 ∧ μ (ρ2 s0) (ρ2 s1) (ρ2 s2) (ρ2 s3) (ρ2 s4) w2 < μ v0 v1 v2 v3 v4 w' ∧ Agree mods ρ2 ρ) Q) (upd (upd (upd (upd (upd (mask mods ρ' ρ) s0 v0) s1 v1) s2 v2) s3 v3) s4 v4) w') : WC P N (.loop c) Q ρ w :=
  wc_loop (fun ρ1 w1 => I (ρ1 s0) (ρ1 s1) (ρ1 s2) (ρ1 s3) (ρ1 s4) w1 ∧ Agree mods ρ1 ρ) (fun ρ1 w1 => μ (ρ1 s0) (ρ1 s1) (ρ1 s2) (ρ1 s3) (ρ1 s4) w1) ⟨h0, fun _ _ => rfl⟩ fun ρ1 w1 ⟨hi, ha⟩ => by
    have h := round ρ1 (ρ1 s0) (ρ1 s1) (ρ1 s2) (ρ1 s3) (ρ1 s4) w1 hi
    rw [mask_self ha, upd_self, upd_self, upd_self, upd_self, upd_self] at h
    exact h.mono fun e ρ2 w2 hq => by
      cases e with
      | normal => exact ⟨⟨hq.1, hq.2.2⟩, hq.2.1⟩
      | _ => exact hq
theorem wc_loop6 {c : Code} (mods : List Nat) (s0 s1 s2 s3 s4 s5 : Nat) (I : Value → Value → Value → Value → Value → Value → World → Prop) (μ : Value → Value → Value → Value → Value → Value → World → Nat) (h0 : I (ρ s0) (ρ s1) (ρ s2) (ρ s3) (ρ s4) (ρ s5) w)
    (round : ∀ ρ' v0 v1 v2 v3 v4 v5 w', I v0 v1 v2 v3 v4 v5 w' → WC P N c (thenK (fun ρ2 w2 => I (ρ2 s0) (ρ2 s1) (ρ2 s2) (ρ2 s3) (ρ2 s4) (ρ2 s5) w2 ∧ μ (ρ2 s0) (ρ2 s1) (ρ2 s2) (ρ2 s3) (ρ2 s4) (ρ2 s5) w2 < μ v0 v1 v2 v3 v4 v5 w' ∧ Agree mods ρ2 ρ) Q) (upd (upd (upd (upd (upd (upd (mask mods ρ' ρ) s0 v0) s1 v1) s2 v2) s3 v3) s4 v4) s5 v5) w') : WC P N (.loop c) Q ρ w :=
  wc_loop (fun ρ1 w1 => I (ρ1 s0) (ρ1 s1) (ρ1 s2) (ρ1 s3) (ρ1 s4) (ρ1 s5) w1 ∧ Agree mods ρ1 ρ) (fun ρ1 w1 => μ (ρ1 s0) (ρ1 s1) (ρ1 s2) (ρ1 s3) (ρ1 s4) (ρ1 s5) w1) ⟨h0, fun _ _ => rfl⟩ fun ρ1 w1 ⟨hi, ha⟩ => by
    have h := round ρ1 (ρ1 s0) (ρ1 s1) (ρ1 s2) (ρ1 s3) (ρ1 s4) (ρ1 s5) w1 hi
    rw [mask_self ha, upd_self, upd_self, upd_self, upd_self, upd_self, upd_self] at h
    exact h.mono fun e ρ2 w2 hq => by
      cases e with
      | normal => exact ⟨⟨hq.1, hq.2.2⟩, hq.2.1⟩
      | _ => exact hq
theorem wc_loop7 {c : Code} (mods : List Nat) (s0 s1 s2 s3 s4 s5 s6 : Nat) (I : Value → Value → Value → Value → Value → Value → Value → World → Prop) (μ : Value → Value → Value → Value → Value → Value → Value → World → Nat) (h0 : I (ρ s0) (ρ s1) (ρ s2) (ρ s3) (ρ s4) (ρ s5) (ρ s6) w)
    (round : ∀ ρ' v0 v1 v2 v3 v4 v5 v6 w', I v0 v1 v2 v3 v4 v5 v6 w' → WC P N c (thenK (fun ρ2 w2 => I (ρ2 s0) (ρ2 s1) (ρ2 s2) (ρ2 s3) (ρ2 s4) (ρ2 s5) (ρ2 s6) w2 ∧ μ (ρ2 s0) (ρ2 s1) (ρ2 s2) (ρ2 s3) (ρ2 s4) (ρ2 s5) (ρ2 s6) w2 < μ v0 v1 v2 v3 v4 v5 v6 w' ∧ Agree mods ρ2 ρ) Q) (upd (upd (upd (upd (upd (upd (upd (mask mods ρ' ρ) s0 v0) s1 v1) s2 v2) s3 v3) s4 v4) s5 v5) s6 v6) w') : WC P N (.loop c) Q ρ w :=
  wc_loop (fun ρ1 w1 => I (ρ1 s0) (ρ1 s1) (ρ1 s2) (ρ1 s3) (ρ1 s4) (ρ1 s5) (ρ1 s6) w1 ∧ Agree mods ρ1 ρ) (fun ρ1 w1 => μ (ρ1 s0) (ρ1 s1) (ρ1 s2) (ρ1 s3) (ρ1 s4) (ρ1 s5) (ρ1 s6) w1) ⟨h0, fun _ _ => rfl⟩ fun ρ1 w1 ⟨hi, ha⟩ => by
    have h := round ρ1 (ρ1 s0) (ρ1 s1) (ρ1 s2) (ρ1 s3) (ρ1 s4) (ρ1 s5) (ρ1 s6) w1 hi
    rw [mask_self ha, upd_self, upd_self, upd_self, upd_self, upd_self, upd_self, upd_self] at h
    exact h.mono fun e ρ2 w2 hq => by
      cases e with
      | normal => exact ⟨⟨hq.1, hq.2.2⟩, hq.2.1⟩
      | _ => exact hq
theorem wc_loop8 {c : Code} (mods : List Nat) (s0 s1 s2 s3 s4 s5 s6 s7 : Nat) (I : Value → Value → Value → Value → Value → Value → Value → Value → World → Prop) (μ : Value → Value → Value → Value → Value → Value → Value → Value → World → Nat) (h0 : I (ρ s0) (ρ s1) (ρ s2) (ρ s3) (ρ s4) (ρ s5) (ρ s6) (ρ s7) w)
    (round : ∀ ρ' v0 v1 v2 v3 v4 v5 v6 v7 w', I v0 v1 v2 v3 v4 v5 v6 v7 w' → WC P N c (thenK (fun ρ2 w2 => I (ρ2 s0) (ρ2 s1) (ρ2 s2) (ρ2 s3) (ρ2 s4) (ρ2 s5) (ρ2 s6) (ρ2 s7) w2 ∧ μ (ρ2 s0) (ρ2 s1) (ρ2 s2) (ρ2 s3) (ρ2 s4) (ρ2 s5) (ρ2 s6) (ρ2 s7) w2 < μ v0 v1 v2 v3 v4 v5 v6 v7 w' ∧ Agree mods ρ2 ρ) Q) (upd (upd (upd (upd (upd (upd (upd (upd (mask mods ρ' ρ) s0 v0) s1 v1) s2 v2) s3 v3) s4 v4) s5 v5) s6 v6) s7 v7) w') : WC P N (.loop c) Q ρ w :=
  wc_loop (fun ρ1 w1 => I (ρ1 s0) (ρ1 s1) (ρ1 s2) (ρ1 s3) (ρ1 s4) (ρ1 s5) (ρ1 s6) (ρ1 s7) w1 ∧ Agree mods ρ1 ρ) (fun ρ1 w1 => μ (ρ1 s0) (ρ1 s1) (ρ1 s2) (ρ1 s3) (ρ1 s4) (ρ1 s5) (ρ1 s6) (ρ1 s7) w1) ⟨h0, fun _ _ => rfl⟩ fun ρ1 w1 ⟨hi, ha⟩ => by
    have h := round ρ1 (ρ1 s0) (ρ1 s1) (ρ1 s2) (ρ1 s3) (ρ1 s4) (ρ1 s5) (ρ1 s6) (ρ1 s7) w1 hi
    rw [mask_self ha, upd_self, upd_self, upd_self, upd_self, upd_self, upd_self, upd_self, upd_self] at h
    exact h.mono fun e ρ2 w2 hq => by
      cases e with
      | normal => exact ⟨⟨hq.1, hq.2.2⟩, hq.2.1⟩
      | _ => exact hq
end code

/-- The end of a function: what its results read as. -/
inductive ResAt (P : Program) (ρ : Rf) (w : World) : ResultVar → Value → Prop
  | tmp (t : Tmp) {v : Value} (h : ρ t = v) : ResAt P ρ w (.tmp t) v
  | cell (p : Tmp) (t : TypeId) {a : Addr} {v : Value} (hp : ρ p = .pointer (some a)) (h : (loadVar t a).run P w = .ok v w) : ResAt P ρ w (.cell p t) v
def ResAll (P : Program) (ρ : Rf) (w : World) : List ResultVar → List Value → Prop
  | [], [] => True
  | r :: rs, v :: vs => ResAt P ρ w r v ∧ ResAll P ρ w rs vs
  | _, _ => False
def packR : List Value → Value
  | [v] => v
  | vs => .tuple vs.toArray
def retK (P : Program) (fn : Func) (R : Ending → World → Prop) : Kq := fun e ρ w =>
  (e = .normal ∨ e = .ret) ∧ ∃ v, (∀ tmps : Array Value, (∀ i, tmps.getD i undef = ρ i) → (results fn tmps).run P w = .ok v w) ∧ R (.returned v) w
theorem res_run {P : Program} {ρ : Rf} {w : World} {f : ResultVar → Sem Value} (h1 : ∀ t, (f (.tmp t)).run P w = .ok (ρ t) w)
    (h2 : ∀ p t a v, ρ p = .pointer (some a) → (loadVar t a).run P w = .ok v w → (f (.cell p t)).run P w = .ok v w) : ∀ (rs : List ResultVar) (vs : List Value), ResAll P ρ w rs vs →
    (rs.mapM f).run P w = .ok vs w
  | [], [], _ => by simp
  | [], _ :: _, h => h.elim
  | _ :: _, [], h => h.elim
  | r :: rs, v :: vs, h => by
    have ih := res_run h1 h2 rs vs h.2
    obtain ⟨h3, _⟩ := h
    rw [List.mapM_cons]
    cases h3 with
    | tmp t hv => rw [Sem.run_bind, h1, Result.andThen_ok, Sem.run_bind, ih, Result.andThen_ok, Sem.run_pure, hv]
    | cell p t hp hl => rw [Sem.run_bind, h2 _ _ _ _ hp hl, Result.andThen_ok, Sem.run_bind, ih, Result.andThen_ok, Sem.run_pure]
theorem ret_end {P : Program} {fn : Func} {R : Ending → World → Prop} {ρ : Rf} {w : World} {rs : List ResultVar} {vs : List Value} {e : Exit} (he : e = .normal ∨ e = .ret) (hr : fn.results = rs.toArray)
    (hv : ResAll P ρ w rs vs) (h : R (.returned (packR vs)) w) : retK P fn R e ρ w := by
  refine ⟨he, packR vs, fun tmps ht => ?_, h⟩
  unfold results
  rw [hr, Sem.run_bind, List.mapM_toArray, Sem.run_map, res_run (ρ := ρ) (fun t => by simp [ht]) (fun p t a v hp hl => by simp [ht, hp, asAddr, hl]) rs vs hv]
  simp only [Result.andThen_ok]
  match vs with
  | [] => simp [packR]
  | [v] => simp [packR]
  | _ :: _ :: _ => simp [packR]
theorem r_nil {P : Program} {ρ : Rf} {w : World} : ResAll P ρ w [] [] := trivial
theorem r_tmp {P : Program} {ρ : Rf} {w : World} {t : Tmp} {v : Value} {rs : List ResultVar} {vs : List Value} (h : ρ t = v) (k : ResAll P ρ w rs vs) : ResAll P ρ w (.tmp t :: rs) (v :: vs) := ⟨.tmp t h, k⟩
theorem r_cell {P : Program} {ρ : Rf} {w : World} {p : Tmp} {t : TypeId} {a : Addr} {v : Value} {rs : List ResultVar} {vs : List Value} (hp : ρ p = .pointer (some a)) (h : (loadVar t a).run P w = .ok v w) (k : ResAll P ρ w rs vs) : ResAll P ρ w (.cell p t :: rs) (v :: vs) := ⟨.cell p t hp h, k⟩
theorem ret1 {P : Program} {fn : Func} {R : Ending → World → Prop} {ρ : Rf} {w : World} {t : Tmp} {e : Exit} {v : Value} (he : e = .normal ∨ e = .ret) (hr : fn.results = #[.tmp t]) (hv : ρ t = v) (h : R (.returned v) w) : retK P fn R e ρ w :=
  ret_end he hr (r_tmp hv r_nil) h
theorem ret2 {P : Program} {fn : Func} {R : Ending → World → Prop} {ρ : Rf} {w : World} {t u : Tmp} {e : Exit} {v x : Value} (he : e = .normal ∨ e = .ret) (hr : fn.results = #[.tmp t, .tmp u]) (hv : ρ t = v) (hx : ρ u = x) (h : R (.returned (.tuple #[v, x])) w) : retK P fn R e ρ w :=
  ret_end he hr (r_tmp hv (r_tmp hx r_nil)) h
theorem ret3 {P : Program} {fn : Func} {R : Ending → World → Prop} {ρ : Rf} {w : World} {t u s : Tmp} {e : Exit} {v x y : Value} (he : e = .normal ∨ e = .ret) (hr : fn.results = #[.tmp t, .tmp u, .tmp s]) (hv : ρ t = v) (hx : ρ u = x) (hy : ρ s = y) (h : R (.returned (.tuple #[v, x, y])) w) : retK P fn R e ρ w :=
  ret_end he hr (r_tmp hv (r_tmp hx (r_tmp hy r_nil))) h
theorem ret0 {P : Program} {fn : Func} {R : Ending → World → Prop} {ρ : Rf} {w : World} {e : Exit} (he : e = .normal ∨ e = .ret) (hr : fn.results = #[]) (h : R (.returned (.tuple #[])) w) : retK P fn R e ρ w :=
  ret_end he hr r_nil h
theorem retc1 {P : Program} {fn : Func} {R : Ending → World → Prop} {ρ : Rf} {w : World} {r : ResultVar} {e : Exit} {v : Value} (he : e = .normal ∨ e = .ret) (hr : fn.results = #[r]) (h1 : ResAll P ρ w [r] [v]) (h : R (.returned v) w) : retK P fn R e ρ w :=
  ret_end he hr h1 h
theorem retc2 {P : Program} {fn : Func} {R : Ending → World → Prop} {ρ : Rf} {w : World} {r s : ResultVar} {e : Exit} {v x : Value} (he : e = .normal ∨ e = .ret) (hr : fn.results = #[r, s]) (h1 : ResAll P ρ w [r, s] [v, x]) (h : R (.returned (.tuple #[v, x])) w) : retK P fn R e ρ w :=
  ret_end he hr h1 h
theorem retc3 {P : Program} {fn : Func} {R : Ending → World → Prop} {ρ : Rf} {w : World} {r s t : ResultVar} {e : Exit} {v x y : Value} (he : e = .normal ∨ e = .ret) (hr : fn.results = #[r, s, t]) (h1 : ResAll P ρ w [r, s, t] [v, x, y]) (h : R (.returned (.tuple #[v, x, y])) w) : retK P fn R e ρ w :=
  ret_end he hr h1 h
theorem retc4 {P : Program} {fn : Func} {R : Ending → World → Prop} {ρ : Rf} {w : World} {r s t u : ResultVar} {e : Exit} {v x y z : Value} (he : e = .normal ∨ e = .ret) (hr : fn.results = #[r, s, t, u]) (h1 : ResAll P ρ w [r, s, t, u] [v, x, y, z]) (h : R (.returned (.tuple #[v, x, y, z])) w) : retK P fn R e ρ w :=
  ret_end he hr h1 h
def argsR (l : List Value) : Rf := fun i => l.getD i undef
theorem calls_vc {P : Program} {f : FuncId} {fn : Func} {c : Code} {N : Nat} {l : List Value} {w : World} {R : Ending → World → Prop}
    (hf : P.funcs[f]? = some fn) (hb : fn.body = some c) (hn : fn.ntmps = N) (ha : l.length ≤ N)
    (h : WC P N c (retK P fn R) (argsR l) w) : Calls P f l.toArray w R := by
  refine calls_of_wp hf hb ?_
  refine wp_mono (h.out _ ⟨rfl, by simp [hn]; omega, fun i => ?_⟩) ?_
  · simp only [argsR]
    rcases Nat.lt_or_ge i l.length with hi | hi
    · rw [Array.getD_eq_getD_getElem?, Array.getElem?_append_left (by simpa using hi)]
      simp [List.getD_eq_getElem?_getD]
    · rw [Array.getD_eq_getD_getElem?, Array.getElem?_append_right (by simpa using hi)]
      simp only [List.getD_eq_getElem?_getD, List.getElem?_eq_none hi, Option.getD_none, Array.getElem?_replicate]
      split <;> rfl
  · rintro e a w' ⟨ρ', hf', he, v, hr, hR⟩
    rcases he with rfl | rfl <;> exact ⟨hf'.nd, v, hr _ hf'.at_, hR⟩
end Go.Proofs.YthmmofllajkejaaGreatDoor
