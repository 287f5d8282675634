/- What one owns, in another order; a row cut; the entries of queues. Plain lemmas, no program in sight. -/
import Derived.Test.YthmmofllajkejaaDoorDraws
import Derived.Test.YthmmofllajkejaaDoorDyads
import Derived.Test.YthmmofllajkejaaDoorHeapP
import Derived.Scope
namespace Go.Proofs.YthmmofllajkejaaDoor
open Go.RowKit
/-- A scope without jumps. -/
def scopeK (Q : Kq) : Kq
  | .goto _, _, _ => False
  | e, ρ, w => Q e ρ w
section
variable {P : Program} {N : Nat} {Q : Kq} {ρ : Rf} {w : World}
theorem wc_scope {c : Code} (h : WC P N c (scopeK Q) ρ w) : WC P N (.scope c) Q ρ w :=
  ⟨fun a hf => wp_scope_straight (wp_mono (h.out a hf) fun e a' w' ⟨ρ', hf', hq⟩ => by
    cases e with
    | goto l => exact hq.elim
    | _ => exact ⟨ρ', hf', hq⟩)⟩
theorem sc_norm (h : Q .normal ρ w) : scopeK Q .normal ρ w := h
theorem sc_ret (h : Q .ret ρ w) : scopeK Q .ret ρ w := h
theorem sc_exit {id : Nat} (h : Q (.exit id) ρ w) : scopeK Q (.exit id) ρ w := h
theorem np_scope (h : NP Q) : NP (scopeK Q) := fun c ρ w hq => h c ρ w hq
end
theorem Hp.perm {w0 w : World} {H H' : List HE} (h : Hp w0 H w) (hp : H.Perm H') : Hp w0 H' w :=
  ⟨h.below, fun x hx => h.own x (hp.mem_iff.2 hx), (hp.filterMap _).nodup_iff.1 h.nd⟩
theorem Hp.rowCap {w0 w : World} {H : List HE} (h : Hp w0 H w) {i n c sz : Nat} {A : Option Addr} {t : TypeId} {xs : List Value} (hi : H[i]? = some (.row A n c t sz xs)) : n ≤ c := by
  have h1 : w.ownsRow w0.heap.size t sz (.slice A n c) n xs := h.at_ hi
  rcases h1.2 with ⟨_, h3⟩ | ⟨g, cap, cur, h2, _, _, h5, _⟩
  · omega
  · injection h2 with _ _ e3
    omega
/-- An entry of a queue: a number, a turn, a thing. -/
structure Ent (α : Type) where
  k : NR
  t : Int
  x : α
def EI.cells (e : Ent Int) : List Value := [.bool e.k.neg, .string e.k.mag, .int .i64 e.k.e, .int .i64 e.t, .int .i64 e.x]
def ES.cells (e : Ent ByteArray) : List Value := [.bool e.k.neg, .string e.k.mag, .int .i64 e.k.e, .int .i64 e.t, .string e.x]
theorem EI.len (e : Ent Int) : (EI.cells e).length = 5 := rfl
theorem ES.len (e : Ent ByteArray) : (ES.cells e).length = 5 := rfl
theorem EI.one (e : Ent Int) : (EI.cells e).all Value.oneCell' = true := rfl
theorem ES.one (e : Ent ByteArray) : (ES.cells e).all Value.oneCell' = true := rfl
/-- One entry stands ahead of another one. -/
def ah {α : Type} (a b : Ent α) : Bool := decide (a.k.d < b.k.d ∨ a.k.d = b.k.d ∧ a.t < b.t)
theorem ah_ord {α : Type} : Ord (ah (α := α)) := by
  refine ⟨fun a => ?_, fun a b c h1 h2 => ?_, fun a b h => ?_⟩
  · exact decide_eq_false fun h => by rcases h with h | h <;> grind
  · have h1' := of_decide_eq_false h1
    have h2' := of_decide_eq_false h2
    refine decide_eq_false fun h => ?_
    rcases d_tri a.k.d b.k.d with h3 | h3 | h3 <;> rcases d_tri b.k.d c.k.d with h4 | h4 | h4 <;> grind
  · have h' := of_decide_eq_true h
    exact decide_eq_false fun h2 => by rcases h' with h' | h' <;> rcases h2 with h2 | h2 <;> grind
end Go.Proofs.YthmmofllajkejaaDoor
