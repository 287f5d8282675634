/- Rules for pointers and for values of array type: looks for nil, comparisons with nil, arrays that are built. Plain lemmas, no program in sight. -/
import Derived.Test.YthmmofllajkejaaGreatDoorOpsA
namespace Go.Proofs.YthmmofllajkejaaGreatDoor
open Go.RowKit
section
variable {P : Program} {ρ : Rf} {w : World}
theorem x_nilCheck {d : Option Nat} {ty : Nat} {pos : String} {af : Array Edge} {g : Option (Nat × Bool)} {x : Operand} {a : Addr} (hx : ev ρ x = .pointer (some a)) :
    (execOp (ev ρ) ⟨d, .nilCheck x, ty, pos, af, g⟩).run P w = .ok (.value (.pointer (some a))) w := by simp [execOp, hx]
theorem equal_pf (n : Nat) {t e : TypeId} {a : Addr} (ht : P.underlying t = some (.pointer e)) : (Op.equalIn (n + 1) t (.pointer (some a)) (.pointer none)).run P w = .ok false w := by
  simp [Op.equalIn, run_underlying ht]
theorem equal_pt (n : Nat) {t e : TypeId} (ht : P.underlying t = some (.pointer e)) : (Op.equalIn (n + 1) t (.pointer none) (.pointer none)).run P w = .ok true w := by
  simp [Op.equalIn, run_underlying ht]
theorem equalp_f {t e : TypeId} {a : Addr} (ht : P.underlying t = some (.pointer e)) : (Op.equal t (.pointer (some a)) (.pointer none)).run P w = .ok false w := equal_pf 9999 ht
theorem equalp_t {t e : TypeId} (ht : P.underlying t = some (.pointer e)) : (Op.equal t (.pointer none) (.pointer none)).run P w = .ok true w := equal_pt 9999 ht
theorem binOp_eqp_f {t e : TypeId} {a : Addr} (ht : P.underlying t = some (.pointer e)) : (binOp .eql t (.pointer (some a)) (.pointer none)).run P w = .ok (.bool false) w := by
  simp only [binOp]
  simp [equalp_f ht]
theorem binOp_eqp_t {t e : TypeId} (ht : P.underlying t = some (.pointer e)) : (binOp .eql t (.pointer none) (.pointer none)).run P w = .ok (.bool true) w := by
  simp only [binOp]
  simp [equalp_t ht]
theorem binOp_nep_t {t e : TypeId} {a : Addr} (ht : P.underlying t = some (.pointer e)) : (binOp .neq t (.pointer (some a)) (.pointer none)).run P w = .ok (.bool true) w := by
  simp only [binOp]
  simp [equalp_f ht]
theorem x_eqp_f {d : Option Nat} {ty t u e : Nat} {pos : String} {af : Array Edge} {g : Option (Nat × Bool)} {x y : Operand} {a : Addr} (ht : P.underlying t = some (.pointer e)) (hx : ev ρ x = .pointer (some a)) (hy : ev ρ y = .pointer none) :
    (execOp (ev ρ) ⟨d, .binOp .eql t x y u, ty, pos, af, g⟩).run P w = .ok (.value (.bool false)) w := by
  simp only [execOp, hx, hy, eqGuard]
  simp [binOp_eqp_f ht]
theorem x_eqp_t {d : Option Nat} {ty t u e : Nat} {pos : String} {af : Array Edge} {g : Option (Nat × Bool)} {x y : Operand} (ht : P.underlying t = some (.pointer e)) (hx : ev ρ x = .pointer none) (hy : ev ρ y = .pointer none) :
    (execOp (ev ρ) ⟨d, .binOp .eql t x y u, ty, pos, af, g⟩).run P w = .ok (.value (.bool true)) w := by
  simp only [execOp, hx, hy, eqGuard]
  simp [binOp_eqp_t ht]
theorem x_nep_t {d : Option Nat} {ty t u e : Nat} {pos : String} {af : Array Edge} {g : Option (Nat × Bool)} {x y : Operand} {a : Addr} (ht : P.underlying t = some (.pointer e)) (hx : ev ρ x = .pointer (some a)) (hy : ev ρ y = .pointer none) :
    (execOp (ev ρ) ⟨d, .binOp .neq t x y u, ty, pos, af, g⟩).run P w = .ok (.value (.bool true)) w := by
  simp only [execOp, hx, hy, eqGuard]
  simp [binOp_nep_t ht]
theorem x_build_arr {d : Option Nat} {ty : Nat} {pos : String} {af : Array Edge} {g : Option (Nat × Bool)} {t e : TypeId} {len n by' m by2 : Nat} {ag : Bool} {parts : Array (Nat × Operand)} {ps : List (Nat × Value)} {zc ze cs : List Value}
    (ht : P.underlying t = some (.array len e)) (hte : tinfo P t = some (n, true, by', zc)) (he : tinfo P e = some (m, ag, by2, ze))
    (hp : evp ρ parts.toList = ps) (hf : fillL (fun i => some (i * m, m)) zc ps = some cs) :
    (execOp (ev ρ) ⟨d, .build t parts, ty, pos, af, g⟩).run P w = .ok (.value (.agg cs.toArray)) w := by
  obtain ⟨z, hz, hzc⟩ := run_zeroValue' (w := w) hte
  have hf' := fill_of _ _ _ hf
  have hp' := evp_arr parts hp
  simp only [execOp, hp', Instr.build, Sem.run_bind, hz, Result.andThen_ok, run_underlying ht, run_sizeOf' he, hzc, hf', Sem.run_pure]
theorem and3 (a : Int) : IntKind.i64.wrap (BitVec.ofInt IntKind.i64.bits a &&& BitVec.ofInt IntKind.i64.bits 3).toNat = a % 4 := by
  have h1 : (BitVec.ofInt IntKind.i64.bits a &&& BitVec.ofInt IntKind.i64.bits 3).toNat = (a % 4).toNat := by
    show (BitVec.ofInt 64 a &&& BitVec.ofInt 64 3).toNat = _
    rw [BitVec.toNat_and, show (BitVec.ofInt 64 3).toNat = 2 ^ 2 - 1 by decide, Nat.and_two_pow_sub_one_eq_mod, BitVec.toNat_ofInt]
    omega
  rw [h1, wrap_i64 (by omega) (by omega)]
  omega
theorem x_and3 {d : Option Nat} {ty t u : Nat} {pos : String} {af : Array Edge} {g : Option (Nat × Bool)} {x y : Operand} {a : Int} (hx : ev ρ x = .int .i64 a) (hy : ev ρ y = .int .i64 3) :
    (execOp (ev ρ) ⟨d, .binOp .and t x y u, ty, pos, af, g⟩).run P w = .ok (.value (.int .i64 (a % 4))) w := by
  rw [x_and hx hy, and3]
end
section
variable {P : Program} {N : Nat} {ops : Array Oper} {Q : Kq} {ρ : Rf} {w : World} {rest : List Oper} {d ty : Nat} {pos : String} {af : Array Edge}
theorem s_nilCheck {x : Operand} {a : Addr} (hx : ev ρ x = .pointer (some a)) (hN : d < N) (kk : WL P N ops Q rest (upd ρ d (.pointer (some a))) w) : WL P N ops Q (⟨some d, .nilCheck x, ty, pos, af, none⟩ :: rest) ρ w := wl_val rfl rfl hN (x_nilCheck hx) kk
theorem s_eqp_f {t u e : Nat} {x y : Operand} {a : Addr} (ht : P.underlying t = some (.pointer e)) (hx : ev ρ x = .pointer (some a)) (hy : ev ρ y = .pointer none) (hN : d < N) (kk : WL P N ops Q rest (upd ρ d (.bool false)) w) : WL P N ops Q (⟨some d, .binOp .eql t x y u, ty, pos, af, none⟩ :: rest) ρ w := wl_val rfl rfl hN (x_eqp_f ht hx hy) kk
theorem s_eqp_t {t u e : Nat} {x y : Operand} (ht : P.underlying t = some (.pointer e)) (hx : ev ρ x = .pointer none) (hy : ev ρ y = .pointer none) (hN : d < N) (kk : WL P N ops Q rest (upd ρ d (.bool true)) w) : WL P N ops Q (⟨some d, .binOp .eql t x y u, ty, pos, af, none⟩ :: rest) ρ w := wl_val rfl rfl hN (x_eqp_t ht hx hy) kk
theorem s_nep_t {t u e : Nat} {x y : Operand} {a : Addr} (ht : P.underlying t = some (.pointer e)) (hx : ev ρ x = .pointer (some a)) (hy : ev ρ y = .pointer none) (hN : d < N) (kk : WL P N ops Q rest (upd ρ d (.bool true)) w) : WL P N ops Q (⟨some d, .binOp .neq t x y u, ty, pos, af, none⟩ :: rest) ρ w := wl_val rfl rfl hN (x_nep_t ht hx hy) kk
theorem s_build_arr {t e : TypeId} {len n by' m by2 : Nat} {ag : Bool} {parts : Array (Nat × Operand)} {ps : List (Nat × Value)} {zc ze cs : List Value}
    (ht : P.underlying t = some (.array len e)) (hte : tinfo P t = some (n, true, by', zc)) (he : tinfo P e = some (m, ag, by2, ze))
    (hp : evp ρ parts.toList = ps) (hf : fillL (fun i => some (i * m, m)) zc ps = some cs) (hN : d < N) (kk : WL P N ops Q rest (upd ρ d (.agg cs.toArray)) w) : WL P N ops Q (⟨some d, .build t parts, ty, pos, af, none⟩ :: rest) ρ w := wl_val rfl rfl hN (x_build_arr ht hte he hp hf) kk
theorem s_and3 {t u : Nat} {x y : Operand} {a : Int} (hx : ev ρ x = .int .i64 a) (hy : ev ρ y = .int .i64 3) (hN : d < N) (kk : WL P N ops Q rest (upd ρ d (.int .i64 (a % 4))) w) : WL P N ops Q (⟨some d, .binOp .and t x y u, ty, pos, af, none⟩ :: rest) ρ w := wl_val rfl rfl hN (x_and3 hx hy) kk
/-- The element of an array of single cells. -/
theorem x_index_arr1 {dd : Option Nat} {g : Option (Nat × Bool)} {t e : TypeId} {len by' i : Nat} {ki : IntKind} {x ix : Operand} {cs : Array Value} {v : Value} {zc : List Value} (ht : P.underlying t = some (.array len e)) (hte : tinfo P e = some (1, false, by', zc))
    (hx : ev ρ x = .agg cs) (hi : ev ρ ix = .int ki (i : Int)) (hlt : i < len) (hv : cs[i]? = some v) :
    (execOp (ev ρ) ⟨dd, .index t x ix, ty, pos, af, g⟩).run P w = .ok (.value v) w := by
  simp [execOp, hx, hi, Instr.index, asIntOf, run_underlying ht, part, run_isAgg' hte, run_sizeOf' hte, hv]
  exact fun h => absurd h (by omega)
theorem s_index_arr1 {t e : TypeId} {len by' i : Nat} {ki : IntKind} {x ix : Operand} {cs : Array Value} {v : Value} {zc : List Value} (ht : P.underlying t = some (.array len e)) (hte : tinfo P e = some (1, false, by', zc))
    (hx : ev ρ x = .agg cs) (hi : ev ρ ix = .int ki (i : Int)) (hlt : i < len) (hv : cs[i]? = some v) (hN : d < N) (kk : WL P N ops Q rest (upd ρ d v) w) : WL P N ops Q (⟨some d, .index t x ix, ty, pos, af, none⟩ :: rest) ρ w := wl_val rfl rfl hN (x_index_arr1 ht hte hx hi hlt hv) kk
end
end Go.Proofs.YthmmofllajkejaaGreatDoor
