/- The values of a drawn region, laid in at one stroke. -/
import Derived.Test.YthmmofllajkejaaGreatDoorDrawB
import Derived.Test.YthmmofllajkejaaGreatDoorRecs
namespace Go.Proofs.YthmmofllajkejaaGreatDoor
open Go.RowKit
def updK (ρ : Rf) : List (Nat × Value) → Rf
  | [] => ρ
  | (d, v) :: r => upd (updK ρ r) d v
def EqL (f : Nat → Value) : List (Nat × Nat) → List (Nat × Value) → Prop
  | [], [] => True
  | (i, d) :: r, (d', v) :: s => (d = d' ∧ f i = v) ∧ EqL f r s
  | _, _ => False
theorem updL_K {ρ : Rf} {f : Nat → Value} : ∀ {ds : List (Nat × Nat)} {vs : List (Nat × Value)}, EqL f ds vs → updL ρ f ds = updK ρ vs
  | [], [], _ => rfl
  | [], _ :: _, h => h.elim
  | _ :: _, [], h => h.elim
  | (i, d) :: r, (d', v) :: s, h => by
    obtain ⟨⟨rfl, rfl⟩, h2⟩ := h
    rw [updL, updK, updL_K h2]
theorem eql_nil {f : Nat → Value} : EqL f [] [] := trivial
theorem eql_cons {f : Nat → Value} {i d : Nat} {v : Value} {r : List (Nat × Nat)} {s : List (Nat × Value)} (h : f i = v) (hr : EqL f r s) : EqL f ((i, d) :: r) ((d, v) :: s) := ⟨⟨rfl, h⟩, hr⟩
theorem wl_cast {P : Program} {N : Nat} {ops : Array Oper} {Q : Kq} {l : List Oper} {ρ ρ' : Rf} {w : World} (h : ρ = ρ') (k : WL P N ops Q l ρ' w) : WL P N ops Q l ρ w := h ▸ k
section
variable {P : Program} {ops : Array Oper} {J : World → Prop} {ρ : Rf} {T : (Nat → VP) → Prop} {i : Nat} {pv : Nat → VP} {os : List Oper} {s : List (Nat × Option Nat)} {ss : List (List (Nat × Option Nat))} {d : Option Nat} {ty : TypeId} {pos : String} {af : Array Edge}
theorem og_guard_skipU {K : Value → World → Prop} {w : World} {ρ : Rf} {op : Op} {j dj : Nat} {b : Bool} (hj : (ops[j]?).bind (·.dst) = some dj) (hv : ρ dj = undef) (h : K undef w) : OG P ops ⟨d, op, ty, pos, af, some (j, b)⟩ ρ w K :=
  ⟨fun a next Q ha hn => by
    have h1 : Region.wanted ⟨d, op, ty, pos, af, some (j, b)⟩ (yielded ops a.tmps) = false := by
      have h2 := ha dj
      rw [hv, Array.getD_eq_getD_getElem?] at h2
      cases h3 : a.tmps[dj]? with
      | none => simp [Region.wanted, yielded, hj, h3]
      | some x =>
        rw [h3] at h2
        simp only [Option.getD_some] at h2
        subst h2
        simp [Region.wanted, yielded, hj, h3, undef]
    rw [h1]
    exact hn _ _ h⟩
theorem dx_skipU {b : Bool} {op : Op} {j dj : Nat} (hj : (ops[j]?).bind (·.dst) = some dj) (hv : ∀ ρ1 w1, J w1 → RdOk (pv) ρ ρ1 w1 s → ρ1 dj = undef)
    (k : DX P ops J ρ T (i + 1) (updV pv i (Is undef)) os ss) : DX P ops J ρ T i pv (⟨d, op, ty, pos, af, some (j, b)⟩ :: os) (s :: ss) :=
  dx_gen (Is undef) Is.ext (fun ρ1 w1 hj' h => og_guard_skipU hj (hv ρ1 w1 hj' h) ⟨Below.refl _ _, rfl⟩) k
theorem dx_take_buildSlice {b : Bool} {j dj : Nat} {t e : TypeId} {len sz by' : Nat} {ag : Bool} {parts : Array (Nat × Operand)} {ps : List (Nat × Value)} {zc cs : List Value} (hj : (ops[j]?).bind (·.dst) = some dj) (hg : ∀ ρ1 w1, J w1 → RdOk (pv) ρ ρ1 w1 s → ρ1 dj = .bool b)
    (ht : P.underlying t = some (.slice e)) (hte : tinfo P e = some (sz, ag, by', zc))
    (hp : ∀ ρ1 w1, J w1 → RdOk (pv) ρ ρ1 w1 s → evp ρ1 parts.toList = ps) (hzl : zc.length = sz) (hf : fillL (fun i => some (i * sz, sz)) (zrep len zc) ps = some cs) (h0 : ¬ len * sz = 0) (hsl : len * sz ≤ 16777216) (hl : cs.length = len * sz)
    (k : DX P ops J ρ T (i + 1) (updV pv i (Rows len sz cs)) os ss) : DX P ops J ρ T i pv (⟨d, .buildSlice t len parts, ty, pos, af, some (j, b)⟩ :: os) (s :: ss) :=
  dx_gen (Rows len sz cs) Rows.ext (fun ρ1 w1 hj' h => og_guard_take hj (hg ρ1 w1 hj' h) (og_buildSlice ht hte (hp ρ1 w1 hj' h) hzl hf h0 hsl hl fun _ _ ⟨_, hv, hs⟩ hb => ⟨hb, _, _, hv, hs⟩)) k
end
theorem Hp.recRow {α : Type} {f : α → List Value} {sz : Nat} {w0 w : World} {H : List HE} {i n c e k g : Nat} {l : List α} {x : α} (hh : Hp w0 H w) (hi : H[i]? = some (.row (some ⟨g, 0, none⟩) n c e sz (recs f l))) (hf : ∀ x, (f x).length = sz) (h0 : 0 < sz) (hx : l[k]? = some x) : Rd w ⟨g, k * sz, none⟩ (f x) := by
  have hs := hh.sl_row hi
  have hl := hs.recLen hf h0
  obtain ⟨ad, h1, h2⟩ := hs.2 (by have := (List.getElem?_eq_some_iff.1 hx).1; omega)
  injection h1 with h1
  subst h1
  have h3 := h2.recAt hf hx
  rwa [addr_add, Nat.zero_add] at h3
end Go.Proofs.YthmmofllajkejaaGreatDoor
