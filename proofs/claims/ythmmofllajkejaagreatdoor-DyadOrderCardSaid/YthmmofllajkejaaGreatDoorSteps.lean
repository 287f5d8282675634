/- The calculus' rules on a region's list, one for each kind of operation (printed by wip/gen/steps.py out of the rules x_..). Plain lemmas, no program in sight. -/
import Derived.Test.YthmmofllajkejaaGreatDoorOpsU
namespace Go.Proofs.YthmmofllajkejaaGreatDoor
open Go.RowKit
section
variable {P : Program} {N : Nat} {ops : Array Oper} {Q : Kq} {ρ : Rf} {w w0 : World} {rest : List Oper} {H : List HE} {d : Nat} {ty : TypeId} {pos : String} {af : Array Edge}

theorem s_move {x : Operand} {v : Value} (hx : ev ρ x = v) (hN : d < N) (kk : WL P N ops Q rest (upd ρ d v) w) :
    WL P N ops Q (⟨some d, .move x, ty, pos, af, none⟩ :: rest) ρ w := wl_val rfl rfl hN (x_move hx) kk

theorem s_assign {x : Operand} {v : Value} (hx : ev ρ x = v) (hN : d < N) (kk : WL P N ops Q rest (upd ρ d v) w) :
    WL P N ops Q (⟨some d, .assign x, ty, pos, af, none⟩ :: rest) ρ w := wl_val rfl rfl hN (x_assign hx) kk

theorem s_pick_t {c a b : Operand} {v : Value} (hc : ev ρ c = .bool true) (hx : ev ρ a = v) (hN : d < N) (kk : WL P N ops Q rest (upd ρ d v) w) :
    WL P N ops Q (⟨some d, .pick c a b, ty, pos, af, none⟩ :: rest) ρ w := wl_val rfl rfl hN (x_pick_t hc hx) kk

theorem s_pick_f {c a b : Operand} {v : Value} (hc : ev ρ c = .bool false) (hx : ev ρ b = v) (hN : d < N) (kk : WL P N ops Q rest (upd ρ d v) w) :
    WL P N ops Q (⟨some d, .pick c a b, ty, pos, af, none⟩ :: rest) ρ w := wl_val rfl rfl hN (x_pick_f hc hx) kk

section
variable {t u : TypeId} {x y : Operand} {k : IntKind} {a b : Int}

theorem s_add (hx : ev ρ x = .int k a) (hy : ev ρ y = .int k b) (hN : d < N) (kk : WL P N ops Q rest (upd ρ d (.int k (k.wrap (a + b)))) w) :
    WL P N ops Q (⟨some d, .binOp .add t x y u, ty, pos, af, none⟩ :: rest) ρ w := wl_val rfl rfl hN (x_add hx hy) kk

theorem s_sub (hx : ev ρ x = .int k a) (hy : ev ρ y = .int k b) (hN : d < N) (kk : WL P N ops Q rest (upd ρ d (.int k (k.wrap (a - b)))) w) :
    WL P N ops Q (⟨some d, .binOp .sub t x y u, ty, pos, af, none⟩ :: rest) ρ w := wl_val rfl rfl hN (x_sub hx hy) kk

theorem s_mul (hx : ev ρ x = .int k a) (hy : ev ρ y = .int k b) (hN : d < N) (kk : WL P N ops Q rest (upd ρ d (.int k (k.wrap (a * b)))) w) :
    WL P N ops Q (⟨some d, .binOp .mul t x y u, ty, pos, af, none⟩ :: rest) ρ w := wl_val rfl rfl hN (x_mul hx hy) kk

theorem s_quo (hx : ev ρ x = .int k a) (hy : ev ρ y = .int k b) (hb : b ≠ 0) (hN : d < N) (kk : WL P N ops Q rest (upd ρ d (.int k (k.wrap (a.tdiv b)))) w) :
    WL P N ops Q (⟨some d, .binOp .quo t x y u, ty, pos, af, none⟩ :: rest) ρ w := wl_val rfl rfl hN (x_quo hx hy hb) kk

theorem s_rem (hx : ev ρ x = .int k a) (hy : ev ρ y = .int k b) (hb : b ≠ 0) (hN : d < N) (kk : WL P N ops Q rest (upd ρ d (.int k (a.tmod b))) w) :
    WL P N ops Q (⟨some d, .binOp .rem t x y u, ty, pos, af, none⟩ :: rest) ρ w := wl_val rfl rfl hN (x_rem hx hy hb) kk

theorem s_and (hx : ev ρ x = .int k a) (hy : ev ρ y = .int k b) (hN : d < N) (kk : WL P N ops Q rest (upd ρ d (.int k (k.wrap (BitVec.ofInt k.bits a &&& BitVec.ofInt k.bits b).toNat))) w) :
    WL P N ops Q (⟨some d, .binOp .and t x y u, ty, pos, af, none⟩ :: rest) ρ w := wl_val rfl rfl hN (x_and hx hy) kk

theorem s_or (hx : ev ρ x = .int k a) (hy : ev ρ y = .int k b) (hN : d < N) (kk : WL P N ops Q rest (upd ρ d (.int k (k.wrap (BitVec.ofInt k.bits a ||| BitVec.ofInt k.bits b).toNat))) w) :
    WL P N ops Q (⟨some d, .binOp .or t x y u, ty, pos, af, none⟩ :: rest) ρ w := wl_val rfl rfl hN (x_or hx hy) kk

theorem s_xor (hx : ev ρ x = .int k a) (hy : ev ρ y = .int k b) (hN : d < N) (kk : WL P N ops Q rest (upd ρ d (.int k (k.wrap (BitVec.ofInt k.bits a ^^^ BitVec.ofInt k.bits b).toNat))) w) :
    WL P N ops Q (⟨some d, .binOp .xor t x y u, ty, pos, af, none⟩ :: rest) ρ w := wl_val rfl rfl hN (x_xor hx hy) kk

theorem s_andNot (hx : ev ρ x = .int k a) (hy : ev ρ y = .int k b) (hN : d < N) (kk : WL P N ops Q rest (upd ρ d (.int k (k.wrap (BitVec.ofInt k.bits a &&& ~~~BitVec.ofInt k.bits b).toNat))) w) :
    WL P N ops Q (⟨some d, .binOp .andNot t x y u, ty, pos, af, none⟩ :: rest) ρ w := wl_val rfl rfl hN (x_andNot hx hy) kk

theorem s_shl {k' : IntKind} (hx : ev ρ x = .int k a) (hy : ev ρ y = .int k' b) (hb : 0 ≤ b) (hN : d < N) (kk : WL P N ops Q rest (upd ρ d (.int k (k.wrap (a * 2 ^ (min b.toNat k.bits))))) w) :
    WL P N ops Q (⟨some d, .binOp .shl t x y u, ty, pos, af, none⟩ :: rest) ρ w := wl_val rfl rfl hN (x_shl hx hy hb) kk

theorem s_shr {k' : IntKind} (hx : ev ρ x = .int k a) (hy : ev ρ y = .int k' b) (hb : 0 ≤ b) (hN : d < N) (kk : WL P N ops Q rest (upd ρ d (.int k (a.fdiv (2 ^ (min b.toNat k.bits))))) w) :
    WL P N ops Q (⟨some d, .binOp .shr t x y u, ty, pos, af, none⟩ :: rest) ρ w := wl_val rfl rfl hN (x_shr hx hy hb) kk

theorem s_lss_t (hx : ev ρ x = .int k a) (hy : ev ρ y = .int k b) (h : a < b) (hN : d < N) (kk : WL P N ops Q rest (upd ρ d (.bool true)) w) :
    WL P N ops Q (⟨some d, .binOp .lss t x y u, ty, pos, af, none⟩ :: rest) ρ w := wl_val rfl rfl hN (x_lss_t hx hy h) kk

theorem s_lss_f (hx : ev ρ x = .int k a) (hy : ev ρ y = .int k b) (h : ¬ a < b) (hN : d < N) (kk : WL P N ops Q rest (upd ρ d (.bool false)) w) :
    WL P N ops Q (⟨some d, .binOp .lss t x y u, ty, pos, af, none⟩ :: rest) ρ w := wl_val rfl rfl hN (x_lss_f hx hy h) kk

theorem s_leq_t (hx : ev ρ x = .int k a) (hy : ev ρ y = .int k b) (h : a ≤ b) (hN : d < N) (kk : WL P N ops Q rest (upd ρ d (.bool true)) w) :
    WL P N ops Q (⟨some d, .binOp .leq t x y u, ty, pos, af, none⟩ :: rest) ρ w := wl_val rfl rfl hN (x_leq_t hx hy h) kk

theorem s_leq_f (hx : ev ρ x = .int k a) (hy : ev ρ y = .int k b) (h : ¬ a ≤ b) (hN : d < N) (kk : WL P N ops Q rest (upd ρ d (.bool false)) w) :
    WL P N ops Q (⟨some d, .binOp .leq t x y u, ty, pos, af, none⟩ :: rest) ρ w := wl_val rfl rfl hN (x_leq_f hx hy h) kk

theorem s_gtr_t (hx : ev ρ x = .int k a) (hy : ev ρ y = .int k b) (h : b < a) (hN : d < N) (kk : WL P N ops Q rest (upd ρ d (.bool true)) w) :
    WL P N ops Q (⟨some d, .binOp .gtr t x y u, ty, pos, af, none⟩ :: rest) ρ w := wl_val rfl rfl hN (x_gtr_t hx hy h) kk

theorem s_gtr_f (hx : ev ρ x = .int k a) (hy : ev ρ y = .int k b) (h : ¬ b < a) (hN : d < N) (kk : WL P N ops Q rest (upd ρ d (.bool false)) w) :
    WL P N ops Q (⟨some d, .binOp .gtr t x y u, ty, pos, af, none⟩ :: rest) ρ w := wl_val rfl rfl hN (x_gtr_f hx hy h) kk

theorem s_geq_t (hx : ev ρ x = .int k a) (hy : ev ρ y = .int k b) (h : b ≤ a) (hN : d < N) (kk : WL P N ops Q rest (upd ρ d (.bool true)) w) :
    WL P N ops Q (⟨some d, .binOp .geq t x y u, ty, pos, af, none⟩ :: rest) ρ w := wl_val rfl rfl hN (x_geq_t hx hy h) kk

theorem s_geq_f (hx : ev ρ x = .int k a) (hy : ev ρ y = .int k b) (h : ¬ b ≤ a) (hN : d < N) (kk : WL P N ops Q rest (upd ρ d (.bool false)) w) :
    WL P N ops Q (⟨some d, .binOp .geq t x y u, ty, pos, af, none⟩ :: rest) ρ w := wl_val rfl rfl hN (x_geq_f hx hy h) kk

theorem s_eql_t (hx : ev ρ x = .int k a) (hy : ev ρ y = .int k b) (h : a = b) (hN : d < N) (kk : WL P N ops Q rest (upd ρ d (.bool true)) w) :
    WL P N ops Q (⟨some d, .binOp .eql t x y u, ty, pos, af, none⟩ :: rest) ρ w := wl_val rfl rfl hN (x_eql_t hx hy h) kk

theorem s_eql_f (hx : ev ρ x = .int k a) (hy : ev ρ y = .int k b) (h : a ≠ b) (hN : d < N) (kk : WL P N ops Q rest (upd ρ d (.bool false)) w) :
    WL P N ops Q (⟨some d, .binOp .eql t x y u, ty, pos, af, none⟩ :: rest) ρ w := wl_val rfl rfl hN (x_eql_f hx hy h) kk

theorem s_neq_t (hx : ev ρ x = .int k a) (hy : ev ρ y = .int k b) (h : a ≠ b) (hN : d < N) (kk : WL P N ops Q rest (upd ρ d (.bool true)) w) :
    WL P N ops Q (⟨some d, .binOp .neq t x y u, ty, pos, af, none⟩ :: rest) ρ w := wl_val rfl rfl hN (x_neq_t hx hy h) kk

theorem s_neq_f (hx : ev ρ x = .int k a) (hy : ev ρ y = .int k b) (h : a = b) (hN : d < N) (kk : WL P N ops Q rest (upd ρ d (.bool false)) w) :
    WL P N ops Q (⟨some d, .binOp .neq t x y u, ty, pos, af, none⟩ :: rest) ρ w := wl_val rfl rfl hN (x_neq_f hx hy h) kk

theorem s_eql_v (hx : ev ρ x = .int k a) (hy : ev ρ y = .int k b) (hN : d < N) (kk : WL P N ops Q rest (upd ρ d (.bool (decide (a = b)))) w) :
    WL P N ops Q (⟨some d, .binOp .eql t x y u, ty, pos, af, none⟩ :: rest) ρ w := wl_val rfl rfl hN (x_eql_v hx hy) kk

theorem s_neg (hx : ev ρ x = .int k a) (hN : d < N) (kk : WL P N ops Q rest (upd ρ d (.int k (k.wrap (-a)))) w) :
    WL P N ops Q (⟨some d, .unOp .neg t x, ty, pos, af, none⟩ :: rest) ρ w := wl_val rfl rfl hN (x_neg hx) kk

theorem s_compl (hx : ev ρ x = .int k a) (hN : d < N) (kk : WL P N ops Q rest (upd ρ d (.int k (k.wrap (BitVec.ofInt k.bits (if k.signed then -1 else k.max) ^^^ BitVec.ofInt k.bits a).toNat))) w) :
    WL P N ops Q (⟨some d, .unOp .xor t x, ty, pos, af, none⟩ :: rest) ρ w := wl_val rfl rfl hN (x_compl hx) kk

theorem s_addi (hx : ev ρ x = .int .i64 a) (hy : ev ρ y = .int .i64 b) (h1 : -9223372036854775808 ≤ a + b) (h2 : a + b ≤ 9223372036854775807) (hN : d < N) (kk : WL P N ops Q rest (upd ρ d (.int .i64 (a + b))) w) :
    WL P N ops Q (⟨some d, .binOp .add t x y u, ty, pos, af, none⟩ :: rest) ρ w := wl_val rfl rfl hN (x_addi hx hy h1 h2) kk

theorem s_subi (hx : ev ρ x = .int .i64 a) (hy : ev ρ y = .int .i64 b) (h1 : -9223372036854775808 ≤ a - b) (h2 : a - b ≤ 9223372036854775807) (hN : d < N) (kk : WL P N ops Q rest (upd ρ d (.int .i64 (a - b))) w) :
    WL P N ops Q (⟨some d, .binOp .sub t x y u, ty, pos, af, none⟩ :: rest) ρ w := wl_val rfl rfl hN (x_subi hx hy h1 h2) kk

theorem s_muli (hx : ev ρ x = .int .i64 a) (hy : ev ρ y = .int .i64 b) (h1 : -9223372036854775808 ≤ a * b) (h2 : a * b ≤ 9223372036854775807) (hN : d < N) (kk : WL P N ops Q rest (upd ρ d (.int .i64 (a * b))) w) :
    WL P N ops Q (⟨some d, .binOp .mul t x y u, ty, pos, af, none⟩ :: rest) ρ w := wl_val rfl rfl hN (x_muli hx hy h1 h2) kk

theorem s_negi (hx : ev ρ x = .int .i64 a) (h1 : -9223372036854775808 ≤ -a) (h2 : -a ≤ 9223372036854775807) (hN : d < N) (kk : WL P N ops Q rest (upd ρ d (.int .i64 (-a))) w) :
    WL P N ops Q (⟨some d, .unOp .neg t x, ty, pos, af, none⟩ :: rest) ρ w := wl_val rfl rfl hN (x_negi hx h1 h2) kk

theorem s_quoi (hx : ev ρ x = .int .i64 a) (hy : ev ρ y = .int .i64 b) (ha : 0 ≤ a) (hb : 0 < b) (h2 : a ≤ 9223372036854775807) (hN : d < N) (kk : WL P N ops Q rest (upd ρ d (.int .i64 (a / b))) w) :
    WL P N ops Q (⟨some d, .binOp .quo t x y u, ty, pos, af, none⟩ :: rest) ρ w := wl_val rfl rfl hN (x_quoi hx hy ha hb h2) kk

theorem s_remi (hx : ev ρ x = .int .i64 a) (hy : ev ρ y = .int .i64 b) (ha : 0 ≤ a) (hb : 0 < b) (hN : d < N) (kk : WL P N ops Q rest (upd ρ d (.int .i64 (a % b))) w) :
    WL P N ops Q (⟨some d, .binOp .rem t x y u, ty, pos, af, none⟩ :: rest) ρ w := wl_val rfl rfl hN (x_remi hx hy ha hb) kk

end

theorem s_not {t : TypeId} {x : Operand} {b : Bool} (hx : ev ρ x = .bool b) (hN : d < N) (kk : WL P N ops Q rest (upd ρ d (.bool !b)) w) :
    WL P N ops Q (⟨some d, .unOp .not t x, ty, pos, af, none⟩ :: rest) ρ w := wl_val rfl rfl hN (x_not hx) kk

section
variable {t u : TypeId} {x y : Operand} {a b : Bool}

theorem s_eql_bool (ht : P.underlying t = some .bool) (hx : ev ρ x = .bool a) (hy : ev ρ y = .bool b) (hN : d < N) (kk : WL P N ops Q rest (upd ρ d (.bool (a == b))) w) :
    WL P N ops Q (⟨some d, .binOp .eql t x y u, ty, pos, af, none⟩ :: rest) ρ w := wl_val rfl rfl hN (x_eql_bool ht hx hy) kk

theorem s_neq_bool (ht : P.underlying t = some .bool) (hx : ev ρ x = .bool a) (hy : ev ρ y = .bool b) (hN : d < N) (kk : WL P N ops Q rest (upd ρ d (.bool (a != b))) w) :
    WL P N ops Q (⟨some d, .binOp .neq t x y u, ty, pos, af, none⟩ :: rest) ρ w := wl_val rfl rfl hN (x_neq_bool ht hx hy) kk

end

section
variable {t u : TypeId} {x y : Operand} {a b : ByteArray}

theorem s_eql_str (hx : ev ρ x = .string a) (hy : ev ρ y = .string b) (hN : d < N) (kk : WL P N ops Q rest (upd ρ d (.bool (a.toList == b.toList))) w) :
    WL P N ops Q (⟨some d, .binOp .eql t x y u, ty, pos, af, none⟩ :: rest) ρ w := wl_val rfl rfl hN (x_eql_str hx hy) kk

theorem s_neq_str (hx : ev ρ x = .string a) (hy : ev ρ y = .string b) (hN : d < N) (kk : WL P N ops Q rest (upd ρ d (.bool !(a.toList == b.toList))) w) :
    WL P N ops Q (⟨some d, .binOp .neq t x y u, ty, pos, af, none⟩ :: rest) ρ w := wl_val rfl rfl hN (x_neq_str hx hy) kk

theorem s_eql_str_t (hx : ev ρ x = .string a) (hy : ev ρ y = .string b) (h : a = b) (hN : d < N) (kk : WL P N ops Q rest (upd ρ d (.bool true)) w) :
    WL P N ops Q (⟨some d, .binOp .eql t x y u, ty, pos, af, none⟩ :: rest) ρ w := wl_val rfl rfl hN (x_eql_str_t hx hy h) kk

theorem s_eql_str_f (hx : ev ρ x = .string a) (hy : ev ρ y = .string b) (h : ¬ a = b) (hN : d < N) (kk : WL P N ops Q rest (upd ρ d (.bool false)) w) :
    WL P N ops Q (⟨some d, .binOp .eql t x y u, ty, pos, af, none⟩ :: rest) ρ w := wl_val rfl rfl hN (x_eql_str_f hx hy h) kk

theorem s_neq_str_t (hx : ev ρ x = .string a) (hy : ev ρ y = .string b) (h : ¬ a = b) (hN : d < N) (kk : WL P N ops Q rest (upd ρ d (.bool true)) w) :
    WL P N ops Q (⟨some d, .binOp .neq t x y u, ty, pos, af, none⟩ :: rest) ρ w := wl_val rfl rfl hN (x_neq_str_t hx hy h) kk

theorem s_neq_str_f (hx : ev ρ x = .string a) (hy : ev ρ y = .string b) (h : a = b) (hN : d < N) (kk : WL P N ops Q rest (upd ρ d (.bool false)) w) :
    WL P N ops Q (⟨some d, .binOp .neq t x y u, ty, pos, af, none⟩ :: rest) ρ w := wl_val rfl rfl hN (x_neq_str_f hx hy h) kk

theorem s_lss_str (hx : ev ρ x = .string a) (hy : ev ρ y = .string b) (hN : d < N) (kk : WL P N ops Q rest (upd ρ d (.bool (Op.bytesLess a.toList b.toList))) w) :
    WL P N ops Q (⟨some d, .binOp .lss t x y u, ty, pos, af, none⟩ :: rest) ρ w := wl_val rfl rfl hN (x_lss_str hx hy) kk

theorem s_leq_str (hx : ev ρ x = .string a) (hy : ev ρ y = .string b) (hN : d < N) (kk : WL P N ops Q rest (upd ρ d (.bool (Op.bytesLess a.toList b.toList || a.toList == b.toList))) w) :
    WL P N ops Q (⟨some d, .binOp .leq t x y u, ty, pos, af, none⟩ :: rest) ρ w := wl_val rfl rfl hN (x_leq_str hx hy) kk

theorem s_gtr_str (hx : ev ρ x = .string a) (hy : ev ρ y = .string b) (hN : d < N) (kk : WL P N ops Q rest (upd ρ d (.bool !(Op.bytesLess a.toList b.toList || a.toList == b.toList))) w) :
    WL P N ops Q (⟨some d, .binOp .gtr t x y u, ty, pos, af, none⟩ :: rest) ρ w := wl_val rfl rfl hN (x_gtr_str hx hy) kk

theorem s_geq_str (hx : ev ρ x = .string a) (hy : ev ρ y = .string b) (hN : d < N) (kk : WL P N ops Q rest (upd ρ d (.bool !(Op.bytesLess a.toList b.toList))) w) :
    WL P N ops Q (⟨some d, .binOp .geq t x y u, ty, pos, af, none⟩ :: rest) ρ w := wl_val rfl rfl hN (x_geq_str hx hy) kk

theorem s_cat (hx : ev ρ x = .string a) (hy : ev ρ y = .string b) (h : a.size + b.size ≤ 9223372036854775807) (hN : d < N) (kk : WL P N ops Q rest (upd ρ d (.string (a ++ b))) w) :
    WL P N ops Q (⟨some d, .binOp .add t x y u, ty, pos, af, none⟩ :: rest) ρ w := wl_val rfl rfl hN (x_cat hx hy h) kk

end

theorem s_conv_int {s t : TypeId} {x : Operand} {k k' : IntKind} {a : Int} {sd : TypeDesc} (hs : P.underlying s = some sd) (ht : P.underlying t = some (.int k)) (hx : ev ρ x = .int k' a) (hN : d < N) (kk : WL P N ops Q rest (upd ρ d (.int k (k.wrap a))) w) :
    WL P N ops Q (⟨some d, .convert s t x, ty, pos, af, none⟩ :: rest) ρ w := wl_val rfl rfl hN (x_conv_int hs ht hx) kk

theorem s_conv_i64 {s t : TypeId} {x : Operand} {k' : IntKind} {a : Int} {sd : TypeDesc} (hs : P.underlying s = some sd) (ht : P.underlying t = some (.int .i64)) (hx : ev ρ x = .int k' a) (h1 : -9223372036854775808 ≤ a) (h2 : a ≤ 9223372036854775807) (hN : d < N) (kk : WL P N ops Q rest (upd ρ d (.int .i64 a)) w) :
    WL P N ops Q (⟨some d, .convert s t x, ty, pos, af, none⟩ :: rest) ρ w := wl_val rfl rfl hN (x_conv_i64 hs ht hx h1 h2) kk

theorem s_conv_str {s t : TypeId} {x : Operand} {a : ByteArray} (hs : P.underlying s = some .string) (ht : P.underlying t = some .string) (hx : ev ρ x = .string a) (hN : d < N) (kk : WL P N ops Q rest (upd ρ d (.string a)) w) :
    WL P N ops Q (⟨some d, .convert s t x, ty, pos, af, none⟩ :: rest) ρ w := wl_val rfl rfl hN (x_conv_str hs ht hx) kk

theorem s_extract {x : Operand} {i : Nat} {vs : List Value} {v : Value} (hx : ev ρ x = .tuple vs.toArray) (hv : vs[i]? = some v) (hN : d < N) (kk : WL P N ops Q rest (upd ρ d v) w) :
    WL P N ops Q (⟨some d, .extract x i, ty, pos, af, none⟩ :: rest) ρ w := wl_val rfl rfl hN (x_extract hx hv) kk

theorem s_makeFunc {fn : Fn} {first captured : Array Operand} {fs cs : List Value} (hf : evs ρ first.toList = fs) (hc : evs ρ captured.toList = cs) (hN : d < N) (kk : WL P N ops Q rest (upd ρ d (.func fn fs.toArray cs.toArray)) w) :
    WL P N ops Q (⟨some d, .makeFunc fn first captured, ty, pos, af, none⟩ :: rest) ρ w := wl_val rfl rfl hN (x_makeFunc hf hc) kk

theorem s_len_str {x : Operand} {t : TypeId} {s : ByteArray} (ht : P.underlying t = some .string) (hx : ev ρ x = .string s) (hN : d < N) (kk : WL P N ops Q rest (upd ρ d (.int .i64 s.size)) w) :
    WL P N ops Q (⟨some d, .call ⟨.builtin .len, #[x], #[t]⟩, ty, pos, af, none⟩ :: rest) ρ w := wl_val rfl rfl hN (x_len_str ht hx) kk

theorem s_len_sl {x : Operand} {t e : TypeId} {A : Option Addr} {n c : Nat} (ht : P.underlying t = some (.slice e)) (hx : ev ρ x = .slice A n c) (hN : d < N) (kk : WL P N ops Q rest (upd ρ d (.int .i64 n)) w) :
    WL P N ops Q (⟨some d, .call ⟨.builtin .len, #[x], #[t]⟩, ty, pos, af, none⟩ :: rest) ρ w := wl_val rfl rfl hN (x_len_sl ht hx) kk

theorem s_min {x y : Operand} {ts : Array TypeId} {k : IntKind} {a b : Int} (hx : ev ρ x = .int k a) (hy : ev ρ y = .int k b) (hN : d < N) (kk : WL P N ops Q rest (upd ρ d (.int k (if b < a then b else a))) w) :
    WL P N ops Q (⟨some d, .call ⟨.builtin .min, #[x, y], ts⟩, ty, pos, af, none⟩ :: rest) ρ w := wl_val rfl rfl hN (x_min hx hy) kk

theorem s_max {x y : Operand} {ts : Array TypeId} {k : IntKind} {a b : Int} (hx : ev ρ x = .int k a) (hy : ev ρ y = .int k b) (hN : d < N) (kk : WL P N ops Q rest (upd ρ d (.int k (if b > a then b else a))) w) :
    WL P N ops Q (⟨some d, .call ⟨.builtin .max, #[x, y], ts⟩, ty, pos, af, none⟩ :: rest) ρ w := wl_val rfl rfl hN (x_max hx hy) kk

theorem s_index_str {t : TypeId} {x i : Operand} {s : ByteArray} {n : Int} {k : IntKind} {c : UInt8} (ht : P.underlying t = some .string) (hx : ev ρ x = .string s) (hi : ev ρ i = .int k n)
    (h0 : 0 ≤ n) (hc : s.data.toList[n.toNat]? = some c) (hN : d < N) (kk : WL P N ops Q rest (upd ρ d (.int .u8 c.toNat)) w) :
    WL P N ops Q (⟨some d, .index t x i, ty, pos, af, none⟩ :: rest) ρ w := wl_val rfl rfl hN (x_index_str ht hx hi h0 hc) kk

theorem s_slice_str {t : TypeId} {x : Operand} {lo hi : Option Operand} {s : ByteArray} {l h : Nat} (ht : P.underlying t = some .string) (hx : ev ρ x = .string s)
    (hlo : match lo with | none => l = 0 | some o => ∃ (k : IntKind) (n : Int), ev ρ o = .int k n ∧ n = l) (hhi : match hi with | none => h = s.size | some o => ∃ (k : IntKind) (n : Int), ev ρ o = .int k n ∧ n = h)
    (h1 : l ≤ h) (h2 : h ≤ s.size) (hN : d < N) (kk : WL P N ops Q rest (upd ρ d (.string (s.extract l h))) w) :
    WL P N ops Q (⟨some d, .slice t x lo hi none, ty, pos, af, none⟩ :: rest) ρ w := wl_val rfl rfl hN (x_slice_str ht hx hlo hhi h1 h2) kk

theorem s_slice_sl {t e : TypeId} {x : Operand} {lo hi : Option Operand} {A : Option Addr} {n c l h sz : Nat} (ht : P.underlying t = some (.slice e)) (hsz : (P.info? e).map (·.size) = some sz) (hx : ev ρ x = .slice A n c)
    (hlo : match lo with | none => l = 0 | some o => ∃ (k : IntKind) (n : Int), ev ρ o = .int k n ∧ n = l) (hhi : match hi with | none => h = n | some o => ∃ (k : IntKind) (n : Int), ev ρ o = .int k n ∧ n = h)
    (h1 : l ≤ h) (h2 : h ≤ c) (hN : d < N) (kk : WL P N ops Q rest (upd ρ d (.slice (if c = l then A else A.map (·.add (l * sz))) (h - l) (c - l))) w) :
    WL P N ops Q (⟨some d, .slice t x lo hi none, ty, pos, af, none⟩ :: rest) ρ w := wl_val rfl rfl hN (x_slice_sl ht hsz hx hlo hhi h1 h2) kk

theorem s_indexAddr {t e : TypeId} {x i : Operand} {ad : Addr} {n c sz : Nat} {k : IntKind} {m : Int} (ht : P.underlying t = some (.slice e)) (hsz : (P.info? e).map (·.size) = some sz) (hx : ev ρ x = .slice (some ad) n c) (hi : ev ρ i = .int k m)
    (h0 : 0 ≤ m) (h1 : m < n) (hN : d < N) (kk : WL P N ops Q rest (upd ρ d (.pointer (some (ad.add (m.toNat * sz))))) w) :
    WL P N ops Q (⟨some d, .indexAddr t x i, ty, pos, af, none⟩ :: rest) ρ w := wl_val rfl rfl hN (x_indexAddr ht hsz hx hi h0 h1) kk

theorem s_indexRow {t e : TypeId} {x i : Operand} {b n c sz k : Nat} {kk : IntKind} {m : Int} (ht : P.underlying t = some (.slice e)) (hsz : (P.info? e).map (·.size) = some sz) (hx : ev ρ x = .slice (some ⟨b, 0, none⟩) n c) (hi : ev ρ i = .int kk m)
    (hm : m = (k : Int)) (h1 : k < n) (hN : d < N) (kk : WL P N ops Q rest (upd ρ d (.pointer (some ⟨b, k * sz, none⟩))) w) :
    WL P N ops Q (⟨some d, .indexAddr t x i, ty, pos, af, none⟩ :: rest) ρ w := wl_val rfl rfl hN (x_indexRow ht hsz hx hi hm h1) kk

theorem s_load {t : TypeId} {x : Operand} {ad : Addr} {n by' : Nat} {zc vs : List Value} (ht : tinfo P t = some (n, true, by', zc)) (hx : ev ρ x = .pointer (some ad)) (hr : Rd w ad vs) (hl : vs.length = n) (hN : d < N) (kk : WL P N ops Q rest (upd ρ d (.agg vs.toArray)) w) :
    WL P N ops Q (⟨some d, .load t x, ty, pos, af, none⟩ :: rest) ρ w := wl_val rfl rfl hN (x_load ht hx hr hl) kk

theorem s_load1 {t : TypeId} {x : Operand} {ad : Addr} {n by' : Nat} {zc : List Value} {v : Value} (ht : tinfo P t = some (n, false, by', zc)) (hx : ev ρ x = .pointer (some ad)) (hc : w.cell? ad = some v) (hN : d < N) (kk : WL P N ops Q rest (upd ρ d v) w) :
    WL P N ops Q (⟨some d, .load t x, ty, pos, af, none⟩ :: rest) ρ w := wl_val rfl rfl hN (x_load1 ht hx hc) kk

theorem s_fieldAddr {s : TypeId} {x : Operand} {f b o off : Nat} {ft : TypeId} (hf : fieldOff P s f = some (off, ft)) (hx : ev ρ x = .pointer (some ⟨b, o, none⟩)) (hN : d < N) (kk : WL P N ops Q rest (upd ρ d (.pointer (some ⟨b, o + off, none⟩))) w) :
    WL P N ops Q (⟨some d, .fieldAddr s x f, ty, pos, af, none⟩ :: rest) ρ w := wl_val rfl rfl hN (x_fieldAddr hf hx) kk

theorem s_fieldAddrA {s : TypeId} {x : Operand} {f off : Nat} {ad : Addr} {ft : TypeId} (hf : fieldOff P s f = some (off, ft)) (hx : ev ρ x = .pointer (some ad)) (hN : d < N) (kk : WL P N ops Q rest (upd ρ d (.pointer (some (ad.add off)))) w) :
    WL P N ops Q (⟨some d, .fieldAddr s x f, ty, pos, af, none⟩ :: rest) ρ w := wl_val rfl rfl hN (x_fieldAddrA hf hx) kk

theorem s_field1 {s : TypeId} {x : Operand} {f off n by' : Nat} {ft : TypeId} {cs : Array Value} {v : Value} {zc : List Value} (hf : fieldOff P s f = some (off, ft)) (ht : tinfo P ft = some (n, false, by', zc)) (hx : ev ρ x = .agg cs) (hv : cs[off]? = some v) (hN : d < N) (kk : WL P N ops Q rest (upd ρ d v) w) :
    WL P N ops Q (⟨some d, .field s x f, ty, pos, af, none⟩ :: rest) ρ w := wl_val rfl rfl hN (x_field1 hf ht hx hv) kk

theorem s_field {s : TypeId} {x : Operand} {f off n by' : Nat} {ft : TypeId} {cs vs : Array Value} {zc : List Value} (hf : fieldOff P s f = some (off, ft)) (ht : tinfo P ft = some (n, true, by', zc)) (hx : ev ρ x = .agg cs) (hv : cs.extract off (off + n) = vs) (hN : d < N) (kk : WL P N ops Q rest (upd ρ d (.agg vs)) w) :
    WL P N ops Q (⟨some d, .field s x f, ty, pos, af, none⟩ :: rest) ρ w := wl_val rfl rfl hN (x_field hf ht hx hv) kk

theorem s_build {t : TypeId} {n by' : Nat} {parts : Array (Nat × Operand)} {ps : List (Nat × Value)} {zc cs : List Value} {pl : List (Nat × Nat)} (hte : tinfo P t = some (n, true, by', zc))
    (hpl : placesOf P t = some pl)
    (hp : evp ρ parts.toList = ps) (hf : fillL (pl[·]?) zc ps = some cs) (hN : d < N) (kk : WL P N ops Q rest (upd ρ d (.agg cs.toArray)) w) :
    WL P N ops Q (⟨some d, .build t parts, ty, pos, af, none⟩ :: rest) ρ w := wl_val rfl rfl hN (x_build hte hpl hp hf) kk

theorem s_bytes_str {s t e : TypeId} {x : Operand} {A : Option Addr} {n c : Nat} {l : List UInt8} (hs : P.underlying s = some (.slice e)) (he : P.underlying e = some (.int .u8)) (ht : P.underlying t = some .string)
    (hx : ev ρ x = .slice A n c) (h : Sl w A n 1 (u8s l)) (hN : d < N) (kk : WL P N ops Q rest (upd ρ d (.string ⟨l.toArray⟩)) w) :
    WL P N ops Q (⟨some d, .convert s t x, ty, pos, af, none⟩ :: rest) ρ w := wl_val rfl rfl hN (x_bytes_str hs he ht hx h) kk

section
variable {t u : TypeId} {x y : Operand} {k : IntKind} {q M : Nat} {a b : Nat}

theorem s_addu [UK k q M] (hx : ev ρ x = .int k (a : Int)) (hy : ev ρ y = .int k (b : Int)) (hN : d < N) (kk : WL P N ops Q rest (upd ρ d (.int k (((a + b) % M : Nat) : Int))) w) :
    WL P N ops Q (⟨some d, .binOp .add t x y u, ty, pos, af, none⟩ :: rest) ρ w := wl_val rfl rfl hN (x_addu hx hy) kk

theorem s_subu [UK k q M] (hx : ev ρ x = .int k (a : Int)) (hy : ev ρ y = .int k (b : Int)) (hb : b ≤ M) (hN : d < N) (kk : WL P N ops Q rest (upd ρ d (.int k (((a + M - b) % M : Nat) : Int))) w) :
    WL P N ops Q (⟨some d, .binOp .sub t x y u, ty, pos, af, none⟩ :: rest) ρ w := wl_val rfl rfl hN (x_subu hx hy hb) kk

theorem s_mulu [UK k q M] (hx : ev ρ x = .int k (a : Int)) (hy : ev ρ y = .int k (b : Int)) (hN : d < N) (kk : WL P N ops Q rest (upd ρ d (.int k (((a * b) % M : Nat) : Int))) w) :
    WL P N ops Q (⟨some d, .binOp .mul t x y u, ty, pos, af, none⟩ :: rest) ρ w := wl_val rfl rfl hN (x_mulu hx hy) kk

theorem s_quou [UK k q M] (hx : ev ρ x = .int k (a : Int)) (hy : ev ρ y = .int k (b : Int)) (hb : 0 < b) (ha : a < M) (hN : d < N) (kk : WL P N ops Q rest (upd ρ d (.int k ((a / b : Nat) : Int))) w) :
    WL P N ops Q (⟨some d, .binOp .quo t x y u, ty, pos, af, none⟩ :: rest) ρ w := wl_val rfl rfl hN (x_quou hx hy hb ha) kk

theorem s_remu (hx : ev ρ x = .int k (a : Int)) (hy : ev ρ y = .int k (b : Int)) (hb : 0 < b) (hN : d < N) (kk : WL P N ops Q rest (upd ρ d (.int k ((a % b : Nat) : Int))) w) :
    WL P N ops Q (⟨some d, .binOp .rem t x y u, ty, pos, af, none⟩ :: rest) ρ w := wl_val rfl rfl hN (x_remu hx hy hb) kk

theorem s_oru [h : UK k q M] (hx : ev ρ x = .int k (a : Int)) (hy : ev ρ y = .int k (b : Int)) (ha : a < M) (hb : b < M) (hN : d < N) (kk : WL P N ops Q rest (upd ρ d (.int k ((a ||| b : Nat) : Int))) w) :
    WL P N ops Q (⟨some d, .binOp .or t x y u, ty, pos, af, none⟩ :: rest) ρ w := wl_val rfl rfl hN (x_oru hx hy ha hb) kk

theorem s_andu [h : UK k q M] (hx : ev ρ x = .int k (a : Int)) (hy : ev ρ y = .int k (b : Int)) (ha : a < M) (hb : b < M) (hN : d < N) (kk : WL P N ops Q rest (upd ρ d (.int k ((a &&& b : Nat) : Int))) w) :
    WL P N ops Q (⟨some d, .binOp .and t x y u, ty, pos, af, none⟩ :: rest) ρ w := wl_val rfl rfl hN (x_andu hx hy ha hb) kk

theorem s_shlu [h : UK k q M] {k' : IntKind} {s : Int} (hx : ev ρ x = .int k (a : Int)) (hy : ev ρ y = .int k' s) (hs : 0 ≤ s ∧ s ≤ q) (hN : d < N) (kk : WL P N ops Q rest (upd ρ d (.int k (((a * 2 ^ s.toNat) % M : Nat) : Int))) w) :
    WL P N ops Q (⟨some d, .binOp .shl t x y u, ty, pos, af, none⟩ :: rest) ρ w := wl_val rfl rfl hN (x_shlu hx hy hs) kk

theorem s_shru [h : UK k q M] {k' : IntKind} {s : Int} (hx : ev ρ x = .int k (a : Int)) (hy : ev ρ y = .int k' s) (hs : 0 ≤ s ∧ s ≤ q) (hN : d < N) (kk : WL P N ops Q rest (upd ρ d (.int k ((a / 2 ^ s.toNat : Nat) : Int))) w) :
    WL P N ops Q (⟨some d, .binOp .shr t x y u, ty, pos, af, none⟩ :: rest) ρ w := wl_val rfl rfl hN (x_shru hx hy hs) kk

theorem s_shluc [UK k q M] {k' : IntKind} {s m : Nat} (hx : ev ρ x = .int k (a : Int)) (hy : ev ρ y = .int k' (s : Int)) (hs : s ≤ q) (hm : 2 ^ s = m) (hN : d < N) (kk : WL P N ops Q rest (upd ρ d (.int k (((a * m) % M : Nat) : Int))) w) :
    WL P N ops Q (⟨some d, .binOp .shl t x y u, ty, pos, af, none⟩ :: rest) ρ w := wl_val rfl rfl hN (x_shluc hx hy hs hm) kk

theorem s_shruc [UK k q M] {k' : IntKind} {s m : Nat} (hx : ev ρ x = .int k (a : Int)) (hy : ev ρ y = .int k' (s : Int)) (hs : s ≤ q) (hm : 2 ^ s = m) (hN : d < N) (kk : WL P N ops Q rest (upd ρ d (.int k ((a / m : Nat) : Int))) w) :
    WL P N ops Q (⟨some d, .binOp .shr t x y u, ty, pos, af, none⟩ :: rest) ρ w := wl_val rfl rfl hN (x_shruc hx hy hs hm) kk

theorem s_negu [h : UK k q M] (hx : ev ρ x = .int k (a : Int)) (ha : a ≤ M) (hN : d < N) (kk : WL P N ops Q rest (upd ρ d (.int k (((M - a) % M : Nat) : Int))) w) :
    WL P N ops Q (⟨some d, .unOp .neg t x, ty, pos, af, none⟩ :: rest) ρ w := wl_val rfl rfl hN (x_negu hx ha) kk

theorem s_convu [UK k q M] {s t : TypeId} {k' : IntKind} {sd : TypeDesc} (hs : P.underlying s = some sd) (ht : P.underlying t = some (.int k)) (hx : ev ρ x = .int k' (a : Int)) (hN : d < N) (kk : WL P N ops Q rest (upd ρ d (.int k ((a % M : Nat) : Int))) w) :
    WL P N ops Q (⟨some d, .convert s t x, ty, pos, af, none⟩ :: rest) ρ w := wl_val rfl rfl hN (x_convu hs ht hx) kk

theorem s_convu_lt [UK k q M] {s t : TypeId} {k' : IntKind} {sd : TypeDesc} (hs : P.underlying s = some sd) (ht : P.underlying t = some (.int k)) (hx : ev ρ x = .int k' (a : Int)) (ha : a < M) (hN : d < N) (kk : WL P N ops Q rest (upd ρ d (.int k (a : Int))) w) :
    WL P N ops Q (⟨some d, .convert s t x, ty, pos, af, none⟩ :: rest) ρ w := wl_val rfl rfl hN (x_convu_lt hs ht hx ha) kk

end

section
variable {t u : TypeId} {x y : Operand} {k : IntKind} {a b : Int}

theorem s_lss_v (hx : ev ρ x = .int k a) (hy : ev ρ y = .int k b) (hN : d < N) (kk : WL P N ops Q rest (upd ρ d (.bool (decide (a < b)))) w) :
    WL P N ops Q (⟨some d, .binOp .lss t x y u, ty, pos, af, none⟩ :: rest) ρ w := wl_val rfl rfl hN (x_lss_v hx hy) kk

theorem s_leq_v (hx : ev ρ x = .int k a) (hy : ev ρ y = .int k b) (hN : d < N) (kk : WL P N ops Q rest (upd ρ d (.bool (decide (a ≤ b)))) w) :
    WL P N ops Q (⟨some d, .binOp .leq t x y u, ty, pos, af, none⟩ :: rest) ρ w := wl_val rfl rfl hN (x_leq_v hx hy) kk

theorem s_gtr_v (hx : ev ρ x = .int k a) (hy : ev ρ y = .int k b) (hN : d < N) (kk : WL P N ops Q rest (upd ρ d (.bool (decide (b < a)))) w) :
    WL P N ops Q (⟨some d, .binOp .gtr t x y u, ty, pos, af, none⟩ :: rest) ρ w := wl_val rfl rfl hN (x_gtr_v hx hy) kk

theorem s_geq_v (hx : ev ρ x = .int k a) (hy : ev ρ y = .int k b) (hN : d < N) (kk : WL P N ops Q rest (upd ρ d (.bool (decide (b ≤ a)))) w) :
    WL P N ops Q (⟨some d, .binOp .geq t x y u, ty, pos, af, none⟩ :: rest) ρ w := wl_val rfl rfl hN (x_geq_v hx hy) kk

theorem s_neq_v (hx : ev ρ x = .int k a) (hy : ev ρ y = .int k b) (hN : d < N) (kk : WL P N ops Q rest (upd ρ d (.bool (decide (a ≠ b)))) w) :
    WL P N ops Q (⟨some d, .binOp .neq t x y u, ty, pos, af, none⟩ :: rest) ρ w := wl_val rfl rfl hN (x_neq_v hx hy) kk

end

section
variable {t u : TypeId} {x y : Operand} {a b : Bool}

theorem s_eqb_t (ht : P.underlying t = some .bool) (hx : ev ρ x = .bool a) (hy : ev ρ y = .bool b) (h : a = b) (hN : d < N) (kk : WL P N ops Q rest (upd ρ d (.bool true)) w) :
    WL P N ops Q (⟨some d, .binOp .eql t x y u, ty, pos, af, none⟩ :: rest) ρ w := wl_val rfl rfl hN (x_eqb_t ht hx hy h) kk

theorem s_eqb_f (ht : P.underlying t = some .bool) (hx : ev ρ x = .bool a) (hy : ev ρ y = .bool b) (h : ¬ a = b) (hN : d < N) (kk : WL P N ops Q rest (upd ρ d (.bool false)) w) :
    WL P N ops Q (⟨some d, .binOp .eql t x y u, ty, pos, af, none⟩ :: rest) ρ w := wl_val rfl rfl hN (x_eqb_f ht hx hy h) kk

theorem s_neb_t (ht : P.underlying t = some .bool) (hx : ev ρ x = .bool a) (hy : ev ρ y = .bool b) (h : ¬ a = b) (hN : d < N) (kk : WL P N ops Q rest (upd ρ d (.bool true)) w) :
    WL P N ops Q (⟨some d, .binOp .neq t x y u, ty, pos, af, none⟩ :: rest) ρ w := wl_val rfl rfl hN (x_neb_t ht hx hy h) kk

theorem s_neb_f (ht : P.underlying t = some .bool) (hx : ev ρ x = .bool a) (hy : ev ρ y = .bool b) (h : a = b) (hN : d < N) (kk : WL P N ops Q rest (upd ρ d (.bool false)) w) :
    WL P N ops Q (⟨some d, .binOp .neq t x y u, ty, pos, af, none⟩ :: rest) ρ w := wl_val rfl rfl hN (x_neb_f ht hx hy h) kk

end

theorem s_indexSl {t e : TypeId} {x i : Operand} {ad : Addr} {n c sz k : Nat} {kk : IntKind} {m : Int} (ht : P.underlying t = some (.slice e)) (hsz : (P.info? e).map (·.size) = some sz) (hx : ev ρ x = .slice (some ad) n c) (hi : ev ρ i = .int kk m)
    (hm : m = (k : Int)) (h1 : k < n) (hN : d < N) (kk : WL P N ops Q rest (upd ρ d (.pointer (some (ad.add (k * sz))))) w) :
    WL P N ops Q (⟨some d, .indexAddr t x i, ty, pos, af, none⟩ :: rest) ρ w := wl_val rfl rfl hN (x_indexSl ht hsz hx hi hm h1) kk

theorem s_indexOff {t e : TypeId} {x i : Operand} {b o n c sz k : Nat} {kk : IntKind} {m : Int} (ht : P.underlying t = some (.slice e)) (hsz : (P.info? e).map (·.size) = some sz) (hx : ev ρ x = .slice (some ⟨b, o, none⟩) n c) (hi : ev ρ i = .int kk m)
    (hm : m = (k : Int)) (h1 : k < n) (hN : d < N) (kk : WL P N ops Q rest (upd ρ d (.pointer (some ⟨b, o + k * sz, none⟩))) w) :
    WL P N ops Q (⟨some d, .indexAddr t x i, ty, pos, af, none⟩ :: rest) ρ w := wl_val rfl rfl hN (x_indexOff ht hsz hx hi hm h1) kk

theorem s_indexArr {t e : TypeId} {x i : Operand} {ad : Addr} {n sz k : Nat} {kk : IntKind} {m : Int} (ht : P.underlying t = some (.array n e)) (hsz : (P.info? e).map (·.size) = some sz) (hx : ev ρ x = .pointer (some ad)) (hi : ev ρ i = .int kk m)
    (hm : m = (k : Int)) (h1 : k < n) (hN : d < N) (kk : WL P N ops Q rest (upd ρ d (.pointer (some (ad.add (k * sz))))) w) :
    WL P N ops Q (⟨some d, .indexAddr t x i, ty, pos, af, none⟩ :: rest) ρ w := wl_val rfl rfl hN (x_indexArr ht hsz hx hi hm h1) kk

theorem s_cutEnd {t e : TypeId} {x hi : Operand} {A : Option Addr} {n c h sz : Nat} {k : IntKind} {m : Int} (ht : P.underlying t = some (.slice e)) (hsz : (P.info? e).map (·.size) = some sz) (hx : ev ρ x = .slice A n c) (hhi : ev ρ hi = .int k m)
    (hm : m = (h : Int)) (h2 : h ≤ c) (hN : d < N) (kk : WL P N ops Q rest (upd ρ d (.slice A h c)) w) :
    WL P N ops Q (⟨some d, .slice t x none (some hi) none, ty, pos, af, none⟩ :: rest) ρ w := wl_val rfl rfl hN (x_cutEnd ht hsz hx hhi hm h2) kk

theorem s_cutBegin {t e : TypeId} {x lo : Operand} {b o n c l sz : Nat} {k : IntKind} {m : Int} (ht : P.underlying t = some (.slice e)) (hsz : (P.info? e).map (·.size) = some sz) (hx : ev ρ x = .slice (some ⟨b, o, none⟩) n c) (hlo : ev ρ lo = .int k m)
    (hm : m = (l : Int)) (h1 : l ≤ n) (h2 : n ≤ c) (h3 : l < c) (hN : d < N) (kk : WL P N ops Q rest (upd ρ d (.slice (some ⟨b, o + l * sz, none⟩) (n - l) (c - l))) w) :
    WL P N ops Q (⟨some d, .slice t x (some lo) none none, ty, pos, af, none⟩ :: rest) ρ w := wl_val rfl rfl hN (x_cutBegin ht hsz hx hlo hm h1 h2 h3) kk

theorem s_cutBeginA {t e : TypeId} {x lo : Operand} {ad : Addr} {n c l sz : Nat} {k : IntKind} {m : Int} (ht : P.underlying t = some (.slice e)) (hsz : (P.info? e).map (·.size) = some sz) (hx : ev ρ x = .slice (some ad) n c) (hlo : ev ρ lo = .int k m)
    (hm : m = (l : Int)) (h1 : l ≤ n) (h2 : n ≤ c) (h3 : l < c) (hN : d < N) (kk : WL P N ops Q rest (upd ρ d (.slice (some (ad.add (l * sz))) (n - l) (c - l))) w) :
    WL P N ops Q (⟨some d, .slice t x (some lo) none none, ty, pos, af, none⟩ :: rest) ρ w := wl_val rfl rfl hN (x_cutBeginA ht hsz hx hlo hm h1 h2 h3) kk

theorem evs_nil : evs ρ [] = [] := rfl
theorem evs_cons {x : Operand} {l : List Operand} {v : Value} {r : List Value} (hx : ev ρ x = v) (h : evs ρ l = r) : evs ρ (x :: l) = v :: r := by simp only [evs, hx, h]
theorem evp_nil : evp ρ [] = [] := rfl
theorem evp_cons {i : Nat} {x : Operand} {l : List (Nat × Operand)} {v : Value} {r : List (Nat × Value)} (hx : ev ρ x = v) (h : evp ρ l = r) : evp ρ ((i, x) :: l) = (i, v) :: r := by simp only [evp, hx, h]
/-- The function f of the program has a body and is not of the model's own. -/
def isFn (P : Program) (f : FuncId) : Bool := match P.funcs[f]? with | some fn => !fn.body.isNone && !(fn.name == "runtime.NumGoroutine") | none => false
theorem isFn_spec {P : Program} {f : FuncId} (h : isFn P f = true) : ∃ fn, P.funcs[f]? = some fn ∧ fn.body.isNone = false ∧ (fn.name == "runtime.NumGoroutine") = false := by
  unfold isFn at h
  split at h
  · rename_i fn hf
    simp only [Bool.and_eq_true, Bool.not_eq_true'] at h
    exact ⟨fn, hf, h.1, h.2⟩
  · cases h
theorem run_callf {dd : Option Nat} {g : Option (Nat × Bool)} {f : FuncId} {args : Array Operand} {ts : Array TypeId} {vs : List Value} (hf : isFn P f = true) (ha : evs ρ args.toList = vs) :
    (execOp (ev ρ) ⟨dd, .call ⟨.value (.func f), args, ts⟩, ty, pos, af, g⟩).run P w = .ok (.enter f vs.toArray) w := by
  obtain ⟨fn, h1, h2, h3⟩ := isFn_spec hf
  have := x_call (P := P) (w := w) (d := dd) (ty := ty) (pos := pos) (af := af) (g := g) (ts := ts) h1 h2 h3 (show ev ρ (.func f) = .func (.func f) #[] #[] from rfl) (evs_arr args ha)
  simpa using this
theorem run_callv {dd : Option Nat} {g : Option (Nat × Bool)} {x : Operand} {f : FuncId} {args : Array Operand} {ts : Array TypeId} {first cap vs : List Value} (hf : isFn P f = true) (hx : ev ρ x = .func (.func f) first.toArray cap.toArray) (ha : first ++ (evs ρ args.toList ++ cap) = vs) :
    (execOp (ev ρ) ⟨dd, .call ⟨.value x, args, ts⟩, ty, pos, af, g⟩).run P w = .ok (.enter f vs.toArray) w := by
  obtain ⟨fn, h1, h2, h3⟩ := isFn_spec hf
  have := x_call (P := P) (w := w) (d := dd) (ty := ty) (pos := pos) (af := af) (g := g) (ts := ts) h1 h2 h3 hx (evs_arr args rfl)
  subst ha
  simpa using this
theorem s_callf {f : FuncId} {args : Array Operand} {ts : Array TypeId} {vs : List Value} {R : Ending → World → Prop} (hc : Calls P f vs.toArray w R) (hf : isFn P f = true) (ha : evs ρ args.toList = vs) (hN : d < N)
    (kk : ∀ e w', R e w' → ∃ v, e = .returned v ∧ WL P N ops Q rest (upd ρ d v) w') : WL P N ops Q (⟨some d, .call ⟨.value (.func f), args, ts⟩, ty, pos, af, none⟩ :: rest) ρ w :=
  wl_enter rfl rfl hN (run_callf hf ha) hc kk
theorem s_callf0 {f : FuncId} {args : Array Operand} {ts : Array TypeId} {vs : List Value} {R : Ending → World → Prop} (hc : Calls P f vs.toArray w R) (hf : isFn P f = true) (ha : evs ρ args.toList = vs)
    (kk : ∀ e w', R e w' → ∃ v, e = .returned v ∧ WL P N ops Q rest ρ w') : WL P N ops Q (⟨none, .call ⟨.value (.func f), args, ts⟩, ty, pos, af, none⟩ :: rest) ρ w :=
  wl_enter0 rfl rfl (run_callf hf ha) hc kk
theorem s_callv {x : Operand} {f : FuncId} {args : Array Operand} {ts : Array TypeId} {first cap vs : List Value} {R : Ending → World → Prop} (hc : Calls P f vs.toArray w R) (hf : isFn P f = true) (hx : ev ρ x = .func (.func f) first.toArray cap.toArray) (ha : first ++ (evs ρ args.toList ++ cap) = vs) (hN : d < N)
    (kk : ∀ e w', R e w' → ∃ v, e = .returned v ∧ WL P N ops Q rest (upd ρ d v) w') : WL P N ops Q (⟨some d, .call ⟨.value x, args, ts⟩, ty, pos, af, none⟩ :: rest) ρ w :=
  wl_enter rfl rfl hN (run_callv hf hx ha) hc kk
end
end Go.Proofs.YthmmofllajkejaaGreatDoor
