/- The calculus' rules for single operations that touch no memory. Plain lemmas, no program in sight. -/
import Derived.Test.YthmmofllajkejaaGreatDoorVc
namespace Go.Proofs.YthmmofllajkejaaGreatDoor
open Go.RowKit
section
variable {P : Program} {N : Nat} {ops : Array Oper} {Q : Kq} {ρ : Rf} {w : World} {rest : List Oper}
theorem wl_nil (h : Q .normal ρ w) : WL P N ops Q [] ρ w := ⟨fun _ hf => wpList_nil ⟨ρ, hf, h⟩⟩
theorem wl_end {next : Rf → World → Prop} {Q' : Kq} (h : next ρ w) : WL P N ops (thenK next Q') [] ρ w := wl_nil h
/-- An operation that yields a value. -/
theorem wl_val {o : Oper} {d : Nat} {v : Value} {w' : World} (hg : o.guard = none) (hd : o.dst = some d) (hN : d < N)
    (hr : (execOp (ev ρ) o).run P w = .ok (.value v) w') (k : WL P N ops Q rest (upd ρ d v) w') : WL P N ops Q (o :: rest) ρ w :=
  ⟨fun a hf => wpList_plain hg fun K hK => by
    unfold Oper.wp
    rw [hf.eval, hr]
    show K (a.put o.dst v) w'
    rw [hd]
    exact hK _ _ (k.out _ (hf.put hN v))⟩
/-- An operation without a value. -/
theorem wl_skip {o : Oper} {w' : World} (hg : o.guard = none) (hd : o.dst = none)
    (hr : (execOp (ev ρ) o).run P w = .ok .skip w') (k : WL P N ops Q rest ρ w') : WL P N ops Q (o :: rest) ρ w :=
  ⟨fun a hf => wpList_plain hg fun K hK => by
    unfold Oper.wp
    rw [hf.eval, hr]
    show K (a.put o.dst undef) w'
    rw [hd]
    exact hK _ _ (k.out _ hf)⟩
/-- A call of a function of the program. -/
theorem wl_enter {o : Oper} {d : Nat} {f : FuncId} {args : Array Value} {w1 : World} {R : Ending → World → Prop} (hg : o.guard = none) (hd : o.dst = some d) (hN : d < N)
    (hr : (execOp (ev ρ) o).run P w = .ok (.enter f args) w1) (hc : Calls P f args w1 R)
    (k : ∀ e w', R e w' → ∃ v, e = .returned v ∧ WL P N ops Q rest (upd ρ d v) w') : WL P N ops Q (o :: rest) ρ w :=
  ⟨fun a hf => wpList_plain hg fun K hK => by
    unfold Oper.wp
    rw [hf.eval, hr]
    show Calls P f args w1 _
    refine hc.mono fun e w' hR => ?_
    obtain ⟨v, rfl, hk⟩ := k e w' hR
    show K (a.put o.dst v) w'
    rw [hd]
    exact hK _ _ (hk.out _ (hf.put hN v))⟩
theorem wl_enter0 {o : Oper} {f : FuncId} {args : Array Value} {w1 : World} {R : Ending → World → Prop} (hg : o.guard = none) (hd : o.dst = none)
    (hr : (execOp (ev ρ) o).run P w = .ok (.enter f args) w1) (hc : Calls P f args w1 R)
    (k : ∀ e w', R e w' → ∃ v, e = .returned v ∧ WL P N ops Q rest ρ w') : WL P N ops Q (o :: rest) ρ w :=
  ⟨fun a hf => wpList_plain hg fun K hK => by
    unfold Oper.wp
    rw [hf.eval, hr]
    show Calls P f args w1 _
    refine hc.mono fun e w' hR => ?_
    obtain ⟨v, rfl, hk⟩ := k e w' hR
    show K (a.put o.dst v) w'
    rw [hd]
    exact hK _ _ (hk.out _ hf)⟩
/-- Guards. -/
theorem wl_guard_take {d : Option Nat} {op : Op} {ty : TypeId} {pos : String} {af : Array Edge} {j dj : Nat} {b : Bool}
    (hj : (ops[j]?).bind (·.dst) = some dj) (hv : ρ dj = .bool b) (k : WL P N ops Q (⟨d, op, ty, pos, af, none⟩ :: rest) ρ w) :
    WL P N ops Q (⟨d, op, ty, pos, af, some (j, b)⟩ :: rest) ρ w :=
  ⟨fun a hf => by
    have h1 : Region.wanted ⟨d, op, ty, pos, af, some (j, b)⟩ (yielded ops a.tmps) = true := by
      have h2 := hf.at_ dj
      rw [hv, Array.getD_eq_getD_getElem?] at h2
      cases h3 : a.tmps[dj]? with
      | none => rw [h3] at h2; cases h2
      | some x =>
        rw [h3] at h2
        simp only [Option.getD_some] at h2
        subst h2
        simp [Region.wanted, yielded, hj, h3]
    have h2 := k.out a hf
    unfold wpList at h2 ⊢
    rw [if_pos h1]
    rw [if_pos (by simp [Region.wanted])] at h2
    exact h2⟩
theorem wl_guard_skip {d : Nat} {op : Op} {ty : TypeId} {pos : String} {af : Array Edge} {j dj : Nat} {b c : Bool} (hN : d < N)
    (hj : (ops[j]?).bind (·.dst) = some dj) (hv : ρ dj = .bool c) (hb : c ≠ b) (k : WL P N ops Q rest (upd ρ d undef) w) :
    WL P N ops Q (⟨some d, op, ty, pos, af, some (j, b)⟩ :: rest) ρ w :=
  ⟨fun a hf => by
    have h1 : Region.wanted ⟨some d, op, ty, pos, af, some (j, b)⟩ (yielded ops a.tmps) = false := by
      have h2 := hf.at_ dj
      rw [hv, Array.getD_eq_getD_getElem?] at h2
      cases h3 : a.tmps[dj]? with
      | none => rw [h3] at h2; cases h2
      | some x =>
        rw [h3] at h2
        simp only [Option.getD_some] at h2
        subst h2
        simp [Region.wanted, yielded, hj, h3, hb]
    unfold wpList
    rw [h1]
    exact k.out _ (hf.put hN undef)⟩
/-- not this bool. -/
def nb (v : Value) (b : Bool) : Bool := match v with | .bool c => c != b | _ => true
theorem wl_guard_skipV {d : Nat} {op : Op} {ty : TypeId} {pos : String} {af : Array Edge} {j dj : Nat} {b : Bool} (hN : d < N)
    (hj : (ops[j]?).bind (·.dst) = some dj) (hb : nb (ρ dj) b = true) (k : WL P N ops Q rest (upd ρ d undef) w) :
    WL P N ops Q (⟨some d, op, ty, pos, af, some (j, b)⟩ :: rest) ρ w := by
  cases hv : ρ dj with
  | bool c =>
    rw [hv] at hb
    exact wl_guard_skip hN hj hv (by simpa [nb] using hb) k
  | _ =>
    refine ⟨fun a hf => ?_⟩
    have h1 : Region.wanted ⟨some d, op, ty, pos, af, some (j, b)⟩ (yielded ops a.tmps) = false := by
      have h2 := hf.at_ dj
      rw [hv, Array.getD_eq_getD_getElem?] at h2
      cases h3 : a.tmps[dj]? with
      | none => simp [Region.wanted, yielded, hj, h3]
      | some x =>
        rw [h3] at h2
        simp only [Option.getD_some] at h2
        subst h2
        simp [Region.wanted, yielded, hj, h3]
    unfold wpList
    rw [h1]
    exact k.out _ (hf.put hN undef)
theorem wl_guard_skip0 {op : Op} {ty : TypeId} {pos : String} {af : Array Edge} {j dj : Nat} {b c : Bool}
    (hj : (ops[j]?).bind (·.dst) = some dj) (hv : ρ dj = .bool c) (hb : c ≠ b) (k : WL P N ops Q rest ρ w) :
    WL P N ops Q (⟨none, op, ty, pos, af, some (j, b)⟩ :: rest) ρ w :=
  ⟨fun a hf => by
    have h1 : Region.wanted ⟨none, op, ty, pos, af, some (j, b)⟩ (yielded ops a.tmps) = false := by
      have h2 := hf.at_ dj
      rw [hv, Array.getD_eq_getD_getElem?] at h2
      cases h3 : a.tmps[dj]? with
      | none => rw [h3] at h2; cases h2
      | some x =>
        rw [h3] at h2
        simp only [Option.getD_some] at h2
        subst h2
        simp [Region.wanted, yielded, hj, h3, hb]
    unfold wpList
    rw [h1]
    exact k.out _ hf⟩
end

/-! The runs of single operations: 'X w o v': in the world w the operation yields v and leaves the world. -/
section
variable {P : Program} {ρ : Rf} {w : World} {d : Option Nat} {ty : TypeId} {pos : String} {af : Array Edge} {g : Option (Nat × Bool)}
theorem x_move {x : Operand} {v : Value} (hx : ev ρ x = v) : (execOp (ev ρ) ⟨d, .move x, ty, pos, af, g⟩).run P w = .ok (.value v) w := by simp [execOp, hx]
theorem x_assign {x : Operand} {v : Value} (hx : ev ρ x = v) : (execOp (ev ρ) ⟨d, .assign x, ty, pos, af, g⟩).run P w = .ok (.value v) w := by simp [execOp, hx]
theorem x_pick_t {c a b : Operand} {v : Value} (hc : ev ρ c = .bool true) (hx : ev ρ a = v) : (execOp (ev ρ) ⟨d, .pick c a b, ty, pos, af, g⟩).run P w = .ok (.value v) w := by simp [execOp, asBool, hc, hx]
theorem x_pick_f {c a b : Operand} {v : Value} (hc : ev ρ c = .bool false) (hx : ev ρ b = v) : (execOp (ev ρ) ⟨d, .pick c a b, ty, pos, af, g⟩).run P w = .ok (.value v) w := by simp [execOp, asBool, hc, hx]
section ints
variable {t u : TypeId} {x y : Operand} {k : IntKind} {a b : Int}
theorem x_add (hx : ev ρ x = .int k a) (hy : ev ρ y = .int k b) : (execOp (ev ρ) ⟨d, .binOp .add t x y u, ty, pos, af, g⟩).run P w = .ok (.value (.int k (k.wrap (a + b)))) w := by
  simp [execOp, hx, hy, eqGuard, binOp, Op.intArith]
theorem x_sub (hx : ev ρ x = .int k a) (hy : ev ρ y = .int k b) : (execOp (ev ρ) ⟨d, .binOp .sub t x y u, ty, pos, af, g⟩).run P w = .ok (.value (.int k (k.wrap (a - b)))) w := by
  simp [execOp, hx, hy, eqGuard, binOp, Op.intArith]
theorem x_mul (hx : ev ρ x = .int k a) (hy : ev ρ y = .int k b) : (execOp (ev ρ) ⟨d, .binOp .mul t x y u, ty, pos, af, g⟩).run P w = .ok (.value (.int k (k.wrap (a * b)))) w := by
  simp [execOp, hx, hy, eqGuard, binOp, Op.intArith]
theorem x_quo (hx : ev ρ x = .int k a) (hy : ev ρ y = .int k b) (hb : b ≠ 0) : (execOp (ev ρ) ⟨d, .binOp .quo t x y u, ty, pos, af, g⟩).run P w = .ok (.value (.int k (k.wrap (a.tdiv b)))) w := by
  simp [execOp, hx, hy, eqGuard, binOp, Op.intDiv, hb]
theorem x_rem (hx : ev ρ x = .int k a) (hy : ev ρ y = .int k b) (hb : b ≠ 0) : (execOp (ev ρ) ⟨d, .binOp .rem t x y u, ty, pos, af, g⟩).run P w = .ok (.value (.int k (a.tmod b))) w := by
  simp [execOp, hx, hy, eqGuard, binOp, Op.intDiv, hb]
theorem x_and (hx : ev ρ x = .int k a) (hy : ev ρ y = .int k b) : (execOp (ev ρ) ⟨d, .binOp .and t x y u, ty, pos, af, g⟩).run P w = .ok (.value (.int k (k.wrap (BitVec.ofInt k.bits a &&& BitVec.ofInt k.bits b).toNat))) w := by
  simp [execOp, hx, hy, eqGuard, binOp, Op.intBits]
theorem x_or (hx : ev ρ x = .int k a) (hy : ev ρ y = .int k b) : (execOp (ev ρ) ⟨d, .binOp .or t x y u, ty, pos, af, g⟩).run P w = .ok (.value (.int k (k.wrap (BitVec.ofInt k.bits a ||| BitVec.ofInt k.bits b).toNat))) w := by
  simp [execOp, hx, hy, eqGuard, binOp, Op.intBits]
theorem x_xor (hx : ev ρ x = .int k a) (hy : ev ρ y = .int k b) : (execOp (ev ρ) ⟨d, .binOp .xor t x y u, ty, pos, af, g⟩).run P w = .ok (.value (.int k (k.wrap (BitVec.ofInt k.bits a ^^^ BitVec.ofInt k.bits b).toNat))) w := by
  simp [execOp, hx, hy, eqGuard, binOp, Op.intBits]
theorem x_andNot (hx : ev ρ x = .int k a) (hy : ev ρ y = .int k b) : (execOp (ev ρ) ⟨d, .binOp .andNot t x y u, ty, pos, af, g⟩).run P w = .ok (.value (.int k (k.wrap (BitVec.ofInt k.bits a &&& ~~~BitVec.ofInt k.bits b).toNat))) w := by
  simp [execOp, hx, hy, eqGuard, binOp, Op.intBits]
theorem x_shl {k' : IntKind} (hx : ev ρ x = .int k a) (hy : ev ρ y = .int k' b) (hb : 0 ≤ b) : (execOp (ev ρ) ⟨d, .binOp .shl t x y u, ty, pos, af, g⟩).run P w = .ok (.value (.int k (k.wrap (a * 2 ^ (min b.toNat k.bits))))) w := by
  simp [execOp, hx, hy, eqGuard, binOp, Op.shift, show ¬ b < 0 by omega]
theorem x_shr {k' : IntKind} (hx : ev ρ x = .int k a) (hy : ev ρ y = .int k' b) (hb : 0 ≤ b) : (execOp (ev ρ) ⟨d, .binOp .shr t x y u, ty, pos, af, g⟩).run P w = .ok (.value (.int k (a.fdiv (2 ^ (min b.toNat k.bits))))) w := by
  simp [execOp, hx, hy, eqGuard, binOp, Op.shift, show ¬ b < 0 by omega]
theorem eqGuard_int {op : BinOp} : (eqGuard op t x y (.int k a) (.int k b)).run P w = .ok () w := by
  unfold eqGuard; cases op <;> simp
theorem x_cmp {op : BinOp} {r : Bool} (hx : ev ρ x = .int k a) (hy : ev ρ y = .int k b) (hop : (Op.intCmp op a b).run P w = .ok (.bool r) w) (hc : op = .eql ∨ op = .neq ∨ op = .lss ∨ op = .leq ∨ op = .gtr ∨ op = .geq) :
    (execOp (ev ρ) ⟨d, .binOp op t x y u, ty, pos, af, g⟩).run P w = .ok (.value (.bool r)) w := by
  rcases hc with h | h | h | h | h | h <;> subst h <;> simp [execOp, hx, hy, eqGuard_int, binOp, hop]
theorem x_lss_t (hx : ev ρ x = .int k a) (hy : ev ρ y = .int k b) (h : a < b) : (execOp (ev ρ) ⟨d, .binOp .lss t x y u, ty, pos, af, g⟩).run P w = .ok (.value (.bool true)) w :=
  x_cmp hx hy (by simp [Op.intCmp, h]) (by simp)
theorem x_lss_f (hx : ev ρ x = .int k a) (hy : ev ρ y = .int k b) (h : ¬ a < b) : (execOp (ev ρ) ⟨d, .binOp .lss t x y u, ty, pos, af, g⟩).run P w = .ok (.value (.bool false)) w :=
  x_cmp hx hy (by simp [Op.intCmp]; omega) (by simp)
theorem x_leq_t (hx : ev ρ x = .int k a) (hy : ev ρ y = .int k b) (h : a ≤ b) : (execOp (ev ρ) ⟨d, .binOp .leq t x y u, ty, pos, af, g⟩).run P w = .ok (.value (.bool true)) w :=
  x_cmp hx hy (by simp [Op.intCmp, h]) (by simp)
theorem x_leq_f (hx : ev ρ x = .int k a) (hy : ev ρ y = .int k b) (h : ¬ a ≤ b) : (execOp (ev ρ) ⟨d, .binOp .leq t x y u, ty, pos, af, g⟩).run P w = .ok (.value (.bool false)) w :=
  x_cmp hx hy (by simp [Op.intCmp]; omega) (by simp)
theorem x_gtr_t (hx : ev ρ x = .int k a) (hy : ev ρ y = .int k b) (h : b < a) : (execOp (ev ρ) ⟨d, .binOp .gtr t x y u, ty, pos, af, g⟩).run P w = .ok (.value (.bool true)) w :=
  x_cmp hx hy (by simp [Op.intCmp, h]) (by simp)
theorem x_gtr_f (hx : ev ρ x = .int k a) (hy : ev ρ y = .int k b) (h : ¬ b < a) : (execOp (ev ρ) ⟨d, .binOp .gtr t x y u, ty, pos, af, g⟩).run P w = .ok (.value (.bool false)) w :=
  x_cmp hx hy (by simp [Op.intCmp]; omega) (by simp)
theorem x_geq_t (hx : ev ρ x = .int k a) (hy : ev ρ y = .int k b) (h : b ≤ a) : (execOp (ev ρ) ⟨d, .binOp .geq t x y u, ty, pos, af, g⟩).run P w = .ok (.value (.bool true)) w :=
  x_cmp hx hy (by simp [Op.intCmp, h]) (by simp)
theorem x_geq_f (hx : ev ρ x = .int k a) (hy : ev ρ y = .int k b) (h : ¬ b ≤ a) : (execOp (ev ρ) ⟨d, .binOp .geq t x y u, ty, pos, af, g⟩).run P w = .ok (.value (.bool false)) w :=
  x_cmp hx hy (by simp [Op.intCmp]; omega) (by simp)
theorem x_eql_t (hx : ev ρ x = .int k a) (hy : ev ρ y = .int k b) (h : a = b) : (execOp (ev ρ) ⟨d, .binOp .eql t x y u, ty, pos, af, g⟩).run P w = .ok (.value (.bool true)) w :=
  x_cmp hx hy (by simp [Op.intCmp, h]) (by simp)
theorem x_eql_f (hx : ev ρ x = .int k a) (hy : ev ρ y = .int k b) (h : a ≠ b) : (execOp (ev ρ) ⟨d, .binOp .eql t x y u, ty, pos, af, g⟩).run P w = .ok (.value (.bool false)) w :=
  x_cmp hx hy (by simp [Op.intCmp, h]) (by simp)
theorem x_neq_t (hx : ev ρ x = .int k a) (hy : ev ρ y = .int k b) (h : a ≠ b) : (execOp (ev ρ) ⟨d, .binOp .neq t x y u, ty, pos, af, g⟩).run P w = .ok (.value (.bool true)) w :=
  x_cmp hx hy (by simp [Op.intCmp, h]) (by simp)
theorem x_neq_f (hx : ev ρ x = .int k a) (hy : ev ρ y = .int k b) (h : a = b) : (execOp (ev ρ) ⟨d, .binOp .neq t x y u, ty, pos, af, g⟩).run P w = .ok (.value (.bool false)) w :=
  x_cmp hx hy (by simp [Op.intCmp, h]) (by simp)
/-- The comparison kept as a truth value. -/
theorem x_eql_v (hx : ev ρ x = .int k a) (hy : ev ρ y = .int k b) : (execOp (ev ρ) ⟨d, .binOp .eql t x y u, ty, pos, af, g⟩).run P w = .ok (.value (.bool (decide (a = b)))) w :=
  x_cmp hx hy (by simp [Op.intCmp]; rw [Bool.eq_iff_iff]; simp) (by simp)
theorem x_neg (hx : ev ρ x = .int k a) : (execOp (ev ρ) ⟨d, .unOp .neg t x, ty, pos, af, g⟩).run P w = .ok (.value (.int k (k.wrap (-a)))) w := by
  simp [execOp, hx, Op.unary, Op.intArith]
theorem x_compl (hx : ev ρ x = .int k a) : (execOp (ev ρ) ⟨d, .unOp .xor t x, ty, pos, af, g⟩).run P w = .ok (.value (.int k (k.wrap (BitVec.ofInt k.bits (if k.signed then -1 else k.max) ^^^ BitVec.ofInt k.bits a).toNat))) w := by
  simp [execOp, hx, Op.unary, Op.intBits]
theorem wrap_i64 {n : Int} (h1 : -9223372036854775808 ≤ n) (h2 : n ≤ 9223372036854775807) : IntKind.i64.wrap n = n := IntWalk.i64_in n ⟨h1, h2⟩
theorem x_addi (hx : ev ρ x = .int .i64 a) (hy : ev ρ y = .int .i64 b) (h1 : -9223372036854775808 ≤ a + b) (h2 : a + b ≤ 9223372036854775807) : (execOp (ev ρ) ⟨d, .binOp .add t x y u, ty, pos, af, g⟩).run P w = .ok (.value (.int .i64 (a + b))) w := by
  rw [x_add hx hy, wrap_i64 h1 h2]
theorem x_subi (hx : ev ρ x = .int .i64 a) (hy : ev ρ y = .int .i64 b) (h1 : -9223372036854775808 ≤ a - b) (h2 : a - b ≤ 9223372036854775807) : (execOp (ev ρ) ⟨d, .binOp .sub t x y u, ty, pos, af, g⟩).run P w = .ok (.value (.int .i64 (a - b))) w := by
  rw [x_sub hx hy, wrap_i64 h1 h2]
theorem x_muli (hx : ev ρ x = .int .i64 a) (hy : ev ρ y = .int .i64 b) (h1 : -9223372036854775808 ≤ a * b) (h2 : a * b ≤ 9223372036854775807) : (execOp (ev ρ) ⟨d, .binOp .mul t x y u, ty, pos, af, g⟩).run P w = .ok (.value (.int .i64 (a * b))) w := by
  rw [x_mul hx hy, wrap_i64 h1 h2]
theorem x_negi (hx : ev ρ x = .int .i64 a) (h1 : -9223372036854775808 ≤ -a) (h2 : -a ≤ 9223372036854775807) : (execOp (ev ρ) ⟨d, .unOp .neg t x, ty, pos, af, g⟩).run P w = .ok (.value (.int .i64 (-a))) w := by
  rw [x_neg hx, wrap_i64 h1 h2]
theorem x_quoi (hx : ev ρ x = .int .i64 a) (hy : ev ρ y = .int .i64 b) (ha : 0 ≤ a) (hb : 0 < b) (h2 : a ≤ 9223372036854775807) : (execOp (ev ρ) ⟨d, .binOp .quo t x y u, ty, pos, af, g⟩).run P w = .ok (.value (.int .i64 (a / b))) w := by
  have h3 : a / b ≤ a := Int.ediv_le_self b ha
  have h4 : 0 ≤ a / b := Int.ediv_nonneg ha (by omega)
  rw [x_quo hx hy (by omega), Int.tdiv_eq_ediv_of_nonneg ha, wrap_i64 (by omega) (by omega)]
theorem x_remi (hx : ev ρ x = .int .i64 a) (hy : ev ρ y = .int .i64 b) (ha : 0 ≤ a) (hb : 0 < b) : (execOp (ev ρ) ⟨d, .binOp .rem t x y u, ty, pos, af, g⟩).run P w = .ok (.value (.int .i64 (a % b))) w := by
  rw [x_rem hx hy (by omega), Int.tmod_eq_emod_of_nonneg ha]
end ints
theorem x_not {t : TypeId} {x : Operand} {b : Bool} (hx : ev ρ x = .bool b) : (execOp (ev ρ) ⟨d, .unOp .not t x, ty, pos, af, g⟩).run P w = .ok (.value (.bool !b)) w := by
  simp [execOp, hx, Op.unary]
section bools
variable {t u : TypeId} {x y : Operand} {a b : Bool}
theorem equal_bool_d (n : Nat) (ht : P.underlying t = some .bool) : (Op.equalIn (n + 1) t (.bool a) (.bool b)).run P w = .ok (a == b) w := by
  simp [Op.equalIn, run_underlying ht]
theorem equal_bool (ht : P.underlying t = some .bool) : (Op.equal t (.bool a) (.bool b)).run P w = .ok (a == b) w := equal_bool_d 9999 ht
theorem binOp_eql_bool (ht : P.underlying t = some .bool) : (binOp .eql t (.bool a) (.bool b)).run P w = .ok (.bool (a == b)) w := by
  simp only [binOp]
  simp [equal_bool ht]
theorem binOp_neq_bool (ht : P.underlying t = some .bool) : (binOp .neq t (.bool a) (.bool b)).run P w = .ok (.bool (a != b)) w := by
  simp only [binOp]
  simp [equal_bool ht, bne]
theorem x_eql_bool (ht : P.underlying t = some .bool) (hx : ev ρ x = .bool a) (hy : ev ρ y = .bool b) : (execOp (ev ρ) ⟨d, .binOp .eql t x y u, ty, pos, af, g⟩).run P w = .ok (.value (.bool (a == b))) w := by
  simp only [execOp, hx, hy, eqGuard]
  simp [binOp_eql_bool ht]
theorem x_neq_bool (ht : P.underlying t = some .bool) (hx : ev ρ x = .bool a) (hy : ev ρ y = .bool b) : (execOp (ev ρ) ⟨d, .binOp .neq t x y u, ty, pos, af, g⟩).run P w = .ok (.value (.bool (a != b))) w := by
  simp only [execOp, hx, hy, eqGuard]
  simp [binOp_neq_bool ht]
end bools
section strs
variable {t u : TypeId} {x y : Operand} {a b : ByteArray}
theorem eqGuard_str {op : BinOp} : (eqGuard op t x y (.string a) (.string b)).run P w = .ok () w := by
  unfold eqGuard; cases op <;> simp
theorem x_str {op : BinOp} {r : Value} (hx : ev ρ x = .string a) (hy : ev ρ y = .string b) (hs : op ≠ .shl ∧ op ≠ .shr) (hop : (Op.stringOp op a b).run P w = .ok r w) :
    (execOp (ev ρ) ⟨d, .binOp op t x y u, ty, pos, af, g⟩).run P w = .ok (.value r) w := by
  cases op <;> simp_all [execOp, eqGuard_str, binOp]
theorem x_eql_str (hx : ev ρ x = .string a) (hy : ev ρ y = .string b) : (execOp (ev ρ) ⟨d, .binOp .eql t x y u, ty, pos, af, g⟩).run P w = .ok (.value (.bool (a.toList == b.toList))) w :=
  x_str hx hy (by simp) (by simp [Op.stringOp])
theorem x_neq_str (hx : ev ρ x = .string a) (hy : ev ρ y = .string b) : (execOp (ev ρ) ⟨d, .binOp .neq t x y u, ty, pos, af, g⟩).run P w = .ok (.value (.bool !(a.toList == b.toList))) w :=
  x_str hx hy (by simp) (by simp [Op.stringOp])
theorem beqL {a b : ByteArray} : (a.toList == b.toList) = decide (a = b) := by
  have key : ∀ s : ByteArray, s.toList = s.data.toList := fun s => by
    unfold ByteArray.toList
    have : ∀ (n i : Nat) (r : List UInt8), s.size - i = n → ByteArray.toList.loop s i r = r.reverse ++ s.data.toList.drop i := by
      intro n
      induction n with
      | zero =>
        intro i r h
        rw [ByteArray.toList.loop, if_neg (by omega), List.drop_of_length_le (by rw [Array.length_toList]; show s.size ≤ i; omega)]
        simp
      | succ n ih =>
        intro i r h
        have hi : i < s.size := by omega
        rw [ByteArray.toList.loop, if_pos hi, ih (i + 1) _ (by omega)]
        have hi2 : i < s.data.toList.length := by rw [Array.length_toList]; exact hi
        rw [List.drop_eq_getElem_cons hi2]
        have : s.get! i = s.data.toList[i] := by
          show s.data[i]! = _
          rw [getElem!_pos s.data i (by simpa using hi2)]
          simp
        simp [this]
    simpa using this (s.size - 0) 0 [] rfl
  rw [Bool.eq_iff_iff, beq_iff_eq, decide_eq_true_eq, key, key]
  constructor
  · intro h; cases a; cases b; congr 1; exact Array.ext' h
  · intro h; rw [h]
theorem x_eql_str_t (hx : ev ρ x = .string a) (hy : ev ρ y = .string b) (h : a = b) : (execOp (ev ρ) ⟨d, .binOp .eql t x y u, ty, pos, af, g⟩).run P w = .ok (.value (.bool true)) w := by
  rw [x_eql_str hx hy, beqL]; simp [h]
theorem x_eql_str_f (hx : ev ρ x = .string a) (hy : ev ρ y = .string b) (h : ¬ a = b) : (execOp (ev ρ) ⟨d, .binOp .eql t x y u, ty, pos, af, g⟩).run P w = .ok (.value (.bool false)) w := by
  rw [x_eql_str hx hy, beqL]; simp [h]
theorem x_neq_str_t (hx : ev ρ x = .string a) (hy : ev ρ y = .string b) (h : ¬ a = b) : (execOp (ev ρ) ⟨d, .binOp .neq t x y u, ty, pos, af, g⟩).run P w = .ok (.value (.bool true)) w := by
  rw [x_neq_str hx hy, beqL]; simp [h]
theorem x_neq_str_f (hx : ev ρ x = .string a) (hy : ev ρ y = .string b) (h : a = b) : (execOp (ev ρ) ⟨d, .binOp .neq t x y u, ty, pos, af, g⟩).run P w = .ok (.value (.bool false)) w := by
  rw [x_neq_str hx hy, beqL]; simp [h]
theorem x_lss_str (hx : ev ρ x = .string a) (hy : ev ρ y = .string b) : (execOp (ev ρ) ⟨d, .binOp .lss t x y u, ty, pos, af, g⟩).run P w = .ok (.value (.bool (Op.bytesLess a.toList b.toList))) w :=
  x_str hx hy (by simp) (by simp [Op.stringOp])
theorem x_leq_str (hx : ev ρ x = .string a) (hy : ev ρ y = .string b) : (execOp (ev ρ) ⟨d, .binOp .leq t x y u, ty, pos, af, g⟩).run P w = .ok (.value (.bool (Op.bytesLess a.toList b.toList || a.toList == b.toList))) w :=
  x_str hx hy (by simp) (by simp [Op.stringOp])
theorem x_gtr_str (hx : ev ρ x = .string a) (hy : ev ρ y = .string b) : (execOp (ev ρ) ⟨d, .binOp .gtr t x y u, ty, pos, af, g⟩).run P w = .ok (.value (.bool !(Op.bytesLess a.toList b.toList || a.toList == b.toList))) w :=
  x_str hx hy (by simp) (by simp [Op.stringOp])
theorem x_geq_str (hx : ev ρ x = .string a) (hy : ev ρ y = .string b) : (execOp (ev ρ) ⟨d, .binOp .geq t x y u, ty, pos, af, g⟩).run P w = .ok (.value (.bool !(Op.bytesLess a.toList b.toList))) w :=
  x_str hx hy (by simp) (by simp [Op.stringOp])
theorem x_cat (hx : ev ρ x = .string a) (hy : ev ρ y = .string b) (h : a.size + b.size ≤ 9223372036854775807) : (execOp (ev ρ) ⟨d, .binOp .add t x y u, ty, pos, af, g⟩).run P w = .ok (.value (.string (a ++ b))) w :=
  x_str hx hy (by simp) (by
    have : ¬ ((a.size + b.size : Nat) : Int) > IntKind.i64.max := by
      have : IntKind.i64.max = 9223372036854775807 := by decide
      omega
    simp only [Op.stringOp, if_neg this]
    simp)
end strs
theorem x_conv_int {s t : TypeId} {x : Operand} {k k' : IntKind} {a : Int} {sd : TypeDesc} (hs : P.underlying s = some sd) (ht : P.underlying t = some (.int k)) (hx : ev ρ x = .int k' a) :
    (execOp (ev ρ) ⟨d, .convert s t x, ty, pos, af, g⟩).run P w = .ok (.value (.int k (k.wrap a))) w := by
  simp [execOp, hx, convert, run_underlying hs, run_underlying ht, Conv.intToInt]
theorem x_conv_i64 {s t : TypeId} {x : Operand} {k' : IntKind} {a : Int} {sd : TypeDesc} (hs : P.underlying s = some sd) (ht : P.underlying t = some (.int .i64)) (hx : ev ρ x = .int k' a) (h1 : -9223372036854775808 ≤ a) (h2 : a ≤ 9223372036854775807) :
    (execOp (ev ρ) ⟨d, .convert s t x, ty, pos, af, g⟩).run P w = .ok (.value (.int .i64 a)) w := by
  rw [x_conv_int hs ht hx, wrap_i64 h1 h2]
theorem x_conv_str {s t : TypeId} {x : Operand} {a : ByteArray} (hs : P.underlying s = some .string) (ht : P.underlying t = some .string) (hx : ev ρ x = .string a) :
    (execOp (ev ρ) ⟨d, .convert s t x, ty, pos, af, g⟩).run P w = .ok (.value (.string a)) w := by
  simp [execOp, hx, convert, run_underlying hs, run_underlying ht]
theorem x_extract {x : Operand} {i : Nat} {vs : List Value} {v : Value} (hx : ev ρ x = .tuple vs.toArray) (hv : vs[i]? = some v) :
    (execOp (ev ρ) ⟨d, .extract x i, ty, pos, af, g⟩).run P w = .ok (.value v) w := by
  simp [execOp, hx, Instr.extract, hv]
/-- arguments of a call. -/
def evs (ρ : Rf) : List Operand → List Value
  | [] => []
  | x :: l => ev ρ x :: evs ρ l
theorem evs_arr {ρ : Rf} (args : Array Operand) {vs : List Value} (h : evs ρ args.toList = vs) : args.map (ev ρ) = vs.toArray := by
  have h1 : ∀ l : List Operand, l.map (ev ρ) = evs ρ l := by
    intro l
    induction l with
    | nil => rfl
    | cons a l ih => simp only [List.map_cons, ih]; rfl
  subst h
  rw [← h1]
  apply Array.ext'
  simp
theorem x_makeFunc {fn : Fn} {first captured : Array Operand} {fs cs : List Value} (hf : evs ρ first.toList = fs) (hc : evs ρ captured.toList = cs) :
    (execOp (ev ρ) ⟨d, .makeFunc fn first captured, ty, pos, af, g⟩).run P w = .ok (.value (.func fn fs.toArray cs.toArray)) w := by
  simp [execOp, evs_arr _ hf, evs_arr _ hc, Instr.makeFunc]
theorem v_int {i : Nat} {k : IntKind} {n : Int} (h : ρ i = .int k n) : ρ i = .int k n := h
theorem v_bool {i : Nat} {b : Bool} (h : ρ i = .bool b) : ρ i = .bool b := h
theorem v_str {i : Nat} {s : ByteArray} (h : ρ i = .string s) : ρ i = .string s := h
theorem v_sl {i : Nat} {A : Option Addr} {n c : Nat} (h : ρ i = .slice A n c) : ρ i = .slice A n c := h
theorem v_agg {i : Nat} {l : List Value} (h : ρ i = .agg l.toArray) : ρ i = .agg l.toArray := h
/-- values in their own form. -/
theorem ev_int {x : Operand} {k : IntKind} {n : Int} (h : ev ρ x = .int k n) : ev ρ x = .int k n := h
theorem ev_bool {x : Operand} {b : Bool} (h : ev ρ x = .bool b) : ev ρ x = .bool b := h
theorem ev_str {x : Operand} {s : ByteArray} (h : ev ρ x = .string s) : ev ρ x = .string s := h
theorem ev_sl {x : Operand} {A : Option Addr} {n c : Nat} (h : ev ρ x = .slice A n c) : ev ρ x = .slice A n c := h
theorem ev_ptr {x : Operand} {a : Addr} (h : ev ρ x = .pointer (some a)) : ev ρ x = .pointer (some a) := h
theorem ev_pnil {x : Operand} (h : ev ρ x = .pointer none) : ev ρ x = .pointer none := h
theorem ev_agg {x : Operand} {l : List Value} (h : ev ρ x = .agg l.toArray) : ev ρ x = .agg l.toArray := h
theorem ev_tup {x : Operand} {l : List Value} (h : ev ρ x = .tuple l.toArray) : ev ρ x = .tuple l.toArray := h
theorem ev_func {x : Operand} {f : Fn} {a b : List Value} (h : ev ρ x = .func f a.toArray b.toArray) : ev ρ x = .func f a.toArray b.toArray := h
theorem ev_nilf {x : Operand} (h : ev ρ x = .nilFunc) : ev ρ x = .nilFunc := h
theorem x_len_str {x : Operand} {t : TypeId} {s : ByteArray} (ht : P.underlying t = some .string) (hx : ev ρ x = .string s) :
    (execOp (ev ρ) ⟨d, .call ⟨.builtin .len, #[x], #[t]⟩, ty, pos, af, g⟩).run P w = .ok (.value (.int .i64 s.size)) w := by
  simp [execOp, resolve, invoke, builtin, Builtin.len_, hx, run_underlying ht, goInt]
theorem x_len_sl {x : Operand} {t e : TypeId} {A : Option Addr} {n c : Nat} (ht : P.underlying t = some (.slice e)) (hx : ev ρ x = .slice A n c) :
    (execOp (ev ρ) ⟨d, .call ⟨.builtin .len, #[x], #[t]⟩, ty, pos, af, g⟩).run P w = .ok (.value (.int .i64 n)) w := by
  simp [execOp, resolve, invoke, builtin, Builtin.len_, hx, run_underlying ht, goInt]
theorem x_min {x y : Operand} {ts : Array TypeId} {k : IntKind} {a b : Int} (hx : ev ρ x = .int k a) (hy : ev ρ y = .int k b) :
    (execOp (ev ρ) ⟨d, .call ⟨.builtin .min, #[x, y], ts⟩, ty, pos, af, g⟩).run P w = .ok (.value (.int k (if b < a then b else a))) w := by
  simp [execOp, resolve, invoke, builtin, Builtin.min_, Builtin.min2, hx, hy, List.foldlM]
theorem x_max {x y : Operand} {ts : Array TypeId} {k : IntKind} {a b : Int} (hx : ev ρ x = .int k a) (hy : ev ρ y = .int k b) :
    (execOp (ev ρ) ⟨d, .call ⟨.builtin .max, #[x, y], ts⟩, ty, pos, af, g⟩).run P w = .ok (.value (.int k (if b > a then b else a))) w := by
  simp [execOp, resolve, invoke, builtin, Builtin.max_, Builtin.max2, hx, hy, List.foldlM]
theorem x_index_str {t : TypeId} {x i : Operand} {s : ByteArray} {n : Int} {k : IntKind} {c : UInt8} (ht : P.underlying t = some .string) (hx : ev ρ x = .string s) (hi : ev ρ i = .int k n)
    (h0 : 0 ≤ n) (hc : s.data.toList[n.toNat]? = some c) : (execOp (ev ρ) ⟨d, .index t x i, ty, pos, af, g⟩).run P w = .ok (.value (.int .u8 c.toNat)) w := by
  have hs : s[n.toNat]? = some c := by
    rw [← hc]
    obtain ⟨h1, h2⟩ := List.getElem?_eq_some_iff.1 hc
    have h3 : n.toNat < s.size := by simpa using h1
    rw [getElem?_pos s n.toNat h3, getElem?_pos s.data.toList n.toNat h1]
    rfl
  simp [execOp, hx, hi, Instr.index, asIntOf, run_underlying ht, h0, hs]
theorem x_slice_str {t : TypeId} {x : Operand} {lo hi : Option Operand} {s : ByteArray} {l h : Nat} (ht : P.underlying t = some .string) (hx : ev ρ x = .string s)
    (hlo : match lo with | none => l = 0 | some o => ∃ (k : IntKind) (n : Int), ev ρ o = .int k n ∧ n = l) (hhi : match hi with | none => h = s.size | some o => ∃ (k : IntKind) (n : Int), ev ρ o = .int k n ∧ n = h)
    (h1 : l ≤ h) (h2 : h ≤ s.size) : (execOp (ev ρ) ⟨d, .slice t x lo hi none, ty, pos, af, g⟩).run P w = .ok (.value (.string (s.extract l h))) w := by
  have e1 : (l : Int) ≤ h := by omega
  have e2 : (h : Int) ≤ s.size := by omega
  cases lo <;> cases hi <;> simp only [] at hlo hhi
  · subst hlo; subst hhi
    simp [execOp, hx, Instr.sliceAt, Instr.slice, run_underlying ht, Instr.sliceBounds]
  · obtain ⟨k2, n2, hv2, rfl⟩ := hhi
    subst hlo
    simp [execOp, hx, Instr.sliceAt, Instr.slice, run_underlying ht, Instr.sliceBounds, Instr.sliceBound, asIntOf, hv2, h2]
  · obtain ⟨k2, n2, hv2, rfl⟩ := hlo
    subst hhi
    simp [execOp, hx, Instr.sliceAt, Instr.slice, run_underlying ht, Instr.sliceBounds, Instr.sliceBound, asIntOf, hv2, h1]
  · obtain ⟨k2, n2, hv2, rfl⟩ := hhi
    obtain ⟨k3, n3, hv3, rfl⟩ := hlo
    simp [execOp, hx, Instr.sliceAt, Instr.slice, run_underlying ht, Instr.sliceBounds, Instr.sliceBound, asIntOf, hv2, hv3, h1, h2]
theorem x_slice_sl {t e : TypeId} {x : Operand} {lo hi : Option Operand} {A : Option Addr} {n c l h sz : Nat} (ht : P.underlying t = some (.slice e)) (hsz : (P.info? e).map (·.size) = some sz) (hx : ev ρ x = .slice A n c)
    (hlo : match lo with | none => l = 0 | some o => ∃ (k : IntKind) (n : Int), ev ρ o = .int k n ∧ n = l) (hhi : match hi with | none => h = n | some o => ∃ (k : IntKind) (n : Int), ev ρ o = .int k n ∧ n = h)
    (h1 : l ≤ h) (h2 : h ≤ c) : (execOp (ev ρ) ⟨d, .slice t x lo hi none, ty, pos, af, g⟩).run P w = .ok (.value (.slice (if c = l then A else A.map (·.add (l * sz))) (h - l) (c - l))) w := by
  obtain ⟨i, hi1, hi2⟩ := Option.map_eq_some_iff.1 hsz
  have e1 : (l : Int) ≤ h := by omega
  have e2 : (h : Int) ≤ c := by omega
  cases lo <;> cases hi <;> simp only [] at hlo hhi
  · subst hlo; subst hhi
    simp [execOp, hx, Instr.sliceAt, Instr.slice, run_underlying ht, Instr.sliceBounds, sizeOf, typeInfo, hi1]
  · obtain ⟨k2, n2, hv2, rfl⟩ := hhi
    subst hlo
    simp [execOp, hx, Instr.sliceAt, Instr.slice, run_underlying ht, Instr.sliceBounds, Instr.sliceBound, asIntOf, hv2, h2, sizeOf, typeInfo, hi1]
  · obtain ⟨k2, n2, hv2, rfl⟩ := hlo
    subst hhi
    simp [execOp, hx, Instr.sliceAt, Instr.slice, run_underlying ht, Instr.sliceBounds, Instr.sliceBound, asIntOf, hv2, h1, sizeOf, typeInfo, hi1, hi2]
  · obtain ⟨k2, n2, hv2, rfl⟩ := hhi
    obtain ⟨k3, n3, hv3, rfl⟩ := hlo
    simp [execOp, hx, Instr.sliceAt, Instr.slice, run_underlying ht, Instr.sliceBounds, Instr.sliceBound, asIntOf, hv2, hv3, h1, h2, sizeOf, typeInfo, hi1, hi2]
theorem x_indexAddr {t e : TypeId} {x i : Operand} {ad : Addr} {n c sz : Nat} {k : IntKind} {m : Int} (ht : P.underlying t = some (.slice e)) (hsz : (P.info? e).map (·.size) = some sz) (hx : ev ρ x = .slice (some ad) n c) (hi : ev ρ i = .int k m)
    (h0 : 0 ≤ m) (h1 : m < n) : (execOp (ev ρ) ⟨d, .indexAddr t x i, ty, pos, af, g⟩).run P w = .ok (.value (.pointer (some (ad.add (m.toNat * sz))))) w := by
  obtain ⟨i, hi1, hi2⟩ := Option.map_eq_some_iff.1 hsz
  simp [execOp, hx, hi, Instr.indexAt, asIntOf, run_underlying ht, sizeOf, typeInfo, hi1, hi2, h0, h1]
/-- the element's place in a row of one's own. -/
theorem x_indexRow {t e : TypeId} {x i : Operand} {b n c sz k : Nat} {kk : IntKind} {m : Int} (ht : P.underlying t = some (.slice e)) (hsz : (P.info? e).map (·.size) = some sz) (hx : ev ρ x = .slice (some ⟨b, 0, none⟩) n c) (hi : ev ρ i = .int kk m)
    (hm : m = (k : Int)) (h1 : k < n) : (execOp (ev ρ) ⟨d, .indexAddr t x i, ty, pos, af, g⟩).run P w = .ok (.value (.pointer (some ⟨b, k * sz, none⟩))) w := by
  have h := x_indexAddr (P := P) (w := w) (d := d) (ty := ty) (pos := pos) (af := af) (g := g) ht hsz hx hi (by omega) (by omega)
  rw [h, hm]
  have : (⟨b, 0, none⟩ : Addr).add (((k : Int)).toNat * sz) = ⟨b, k * sz, none⟩ := by
    unfold Addr.add
    split
    · rename_i h0
      rw [Int.toNat_natCast] at h0
      rw [h0]
    · rw [Int.toNat_natCast]; simp
  rw [this]
theorem x_call {x : Operand} {args : Array Operand} {ts : Array TypeId} {f : FuncId} {fn : Func} {first cap : Array Value} {vs : Array Value} (hf : P.funcs[f]? = some fn) (hb : fn.body.isNone = false) (hn : (fn.name == "runtime.NumGoroutine") = false)
    (hx : ev ρ x = .func (.func f) first cap) (ha : args.map (ev ρ) = vs) : (execOp (ev ρ) ⟨d, .call ⟨.value x, args, ts⟩, ty, pos, af, g⟩).run P w = .ok (.enter f (first ++ vs ++ cap)) w := by
  have h1 : ¬ fn.name = "runtime.NumGoroutine" := by simpa using hn
  have h2 : ¬ fn.body = none := by intro h; simp [h] at hb
  simp [execOp, resolve, Deferred.ofValue, hx, ha, invoke, callFunc, program, Sem.run, hf, h1, h2]
end
end Go.Proofs.YthmmofllajkejaaGreatDoor
