/- Rules for values of array type. -/
import Derived.Test.YthmmofllajkejaaGreatDoorDrawC
namespace Go.Proofs.YthmmofllajkejaaGreatDoor
open Go.RowKit
section
variable {P : Program} {ρ : Rf} {w : World}
theorem x_index_arr {d : Option Nat} {ty : Nat} {pos : String} {af : Array Edge} {g : Option (Nat × Bool)} {t e : TypeId} {len n by' i : Nat} {ki : IntKind} {x ix : Operand} {cs vs : Array Value} {zc : List Value} (ht : P.underlying t = some (.array len e)) (hte : tinfo P e = some (n, true, by', zc))
    (hx : ev ρ x = .agg cs) (hi : ev ρ ix = .int ki (i : Int)) (hlt : i < len) (hv : cs.extract (i * n) (i * n + n) = vs) :
    (execOp (ev ρ) ⟨d, .index t x ix, ty, pos, af, g⟩).run P w = .ok (.value (.agg vs)) w := by
  simp [execOp, hx, hi, Instr.index, asIntOf, run_underlying ht, part, run_isAgg' hte, run_sizeOf' hte, hv]
  exact fun h => absurd h (by omega)
theorem s_index_arr {N d : Nat} {ops : Array Oper} {Q : Kq} {rest : List Oper} {ty : Nat} {pos : String} {af : Array Edge} {t e : TypeId} {len n by' i : Nat} {ki : IntKind} {x ix : Operand} {cs vs : Array Value} {zc : List Value} (ht : P.underlying t = some (.array len e)) (hte : tinfo P e = some (n, true, by', zc))
    (hx : ev ρ x = .agg cs) (hi : ev ρ ix = .int ki (i : Int)) (hlt : i < len) (hv : cs.extract (i * n) (i * n + n) = vs) (hN : d < N) (kk : WL P N ops Q rest (upd ρ d (.agg vs)) w) : WL P N ops Q (⟨some d, .index t x ix, ty, pos, af, none⟩ :: rest) ρ w :=
  wl_val rfl rfl hN (x_index_arr ht hte hx hi hlt hv) kk
theorem or_small : ∀ a b : Fin 4, IntKind.i64.wrap (BitVec.ofInt IntKind.i64.bits (a.val : Int) ||| BitVec.ofInt IntKind.i64.bits (b.val : Int)).toNat = ((a.val ||| b.val : Nat) : Int) := by decide +kernel
theorem s_or4 {N d : Nat} {ops : Array Oper} {Q : Kq} {rest : List Oper} {t u ty : Nat} {pos : String} {af : Array Edge} {x y : Operand} {a b : Nat} (hx : ev ρ x = .int .i64 (a : Int)) (hy : ev ρ y = .int .i64 (b : Int)) (ha : a < 4) (hb : b < 4) (hN : d < N)
    (kk : WL P N ops Q rest (upd ρ d (.int .i64 ((a ||| b : Nat) : Int))) w) : WL P N ops Q (⟨some d, .binOp .or t x y u, ty, pos, af, none⟩ :: rest) ρ w := by
  have h := or_small ⟨a, ha⟩ ⟨b, hb⟩
  refine wl_val rfl rfl hN (x_or hx hy) ?_
  simp only at h
  rw [h]
  exact kk
end
end Go.Proofs.YthmmofllajkejaaGreatDoor
