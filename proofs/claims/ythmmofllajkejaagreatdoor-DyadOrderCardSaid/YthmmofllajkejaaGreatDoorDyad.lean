/- The walks through the program's dyadic numbers (dyad). -/
import Derived.Test.YthmmofllajkejaaGreatDoorDy
namespace Go.Proofs.YthmmofllajkejaaGreatDoor
open Go.RowKit
-- umode
theorem part1 {P : Program} {t : TypeId} {n by' : Nat} {zc : List Value} {cs : Array Value} {off : Nat} {v : Value} (ht : tinfo P t = some (n, false, by', zc)) (hv : cs[off]? = some v) (w : World) : (part t cs off).run P w = .ok v w := by
  simp [part, run_isAgg' ht, hv]
theorem partN {P : Program} {t : TypeId} {n by' : Nat} {zc : List Value} {cs vs : Array Value} {off : Nat} (ht : tinfo P t = some (n, true, by', zc)) (hv : cs.extract off (off + n) = vs) (w : World) : (part t cs off).run P w = .ok (.agg vs) w := by
  simp [part, run_isAgg' ht, run_sizeOf' ht, hv]
theorem eq_b (n : Nat) (a b : Bool) (w : World) : (Op.equalIn (n + 1) 4 (.bool a) (.bool b)).run Tryz.prog w = .ok (a == b) w := by
  simp [Op.equalIn, run_underlying Tryz.underlying4]
theorem eq_s (n : Nat) (a b : ByteArray) (w : World) : (Op.equalIn (n + 1) 9 (.string a) (.string b)).run Tryz.prog w = .ok (a == b) w := by
  simp [Op.equalIn, run_underlying Tryz.underlying9]
theorem eq_i (n : Nat) (a b : Int) (w : World) : (Op.equalIn (n + 1) 3 (.int .i64 a) (.int .i64 b)).run Tryz.prog w = .ok (a == b) w := by
  simp [Op.equalIn, run_underlying Tryz.underlying3]
theorem eq_int (n : Nat) (s s' : Bool) (a a' : ByteArray) (w : World) : (Op.equalIn (n + 2) 23 (.agg #[.bool s, .string a]) (.agg #[.bool s', .string a'])).run Tryz.prog w = .ok (s == s' && a == a') w := by
  have h1 := fun (x : Bool) (y : ByteArray) => part1 (P := Tryz.prog) (cs := #[.bool x, .string y]) (off := 0) ti4 rfl
  have h2 := fun (x : Bool) (y : ByteArray) => part1 (P := Tryz.prog) (cs := #[.bool x, .string y]) (off := 1) ti9 rfl
  rw [Op.equalIn]
  simp [run_underlying Tryz.underlying23, h1, h2, eq_b, eq_s]
  cases h : s == s' <;> cases h' : a == a' <;> simp_all
theorem eq_num (n : Nat) (s s' : Bool) (a a' : ByteArray) (e e' : Int) (w : World) : (Op.equalIn (n + 3) 25 (.agg #[.bool s, .string a, .int .i64 e]) (.agg #[.bool s', .string a', .int .i64 e'])).run Tryz.prog w = .ok ((s == s' && a == a') && e == e') w := by
  have h1 := fun (x : Bool) (y : ByteArray) (z : Int) => partN (P := Tryz.prog) (cs := #[.bool x, .string y, .int .i64 z]) (vs := #[.bool x, .string y]) (off := 0) ti23 rfl
  have h2 := fun (x : Bool) (y : ByteArray) (z : Int) => part1 (P := Tryz.prog) (cs := #[.bool x, .string y, .int .i64 z]) (off := 2) ti3 rfl
  rw [Op.equalIn]
  simp [run_underlying Tryz.underlying25, h1, h2, eq_int, eq_i]
  cases h : s == s' <;> cases h' : a == a' <;> cases h2 : e == e' <;> simp_all
section
variable {ρ : Rf} {w : World} {d : Option Nat} {ty u : TypeId} {pos : String} {af : Array Edge} {g : Option (Nat × Bool)} {x y : Operand} {s s' : Bool} {a a' : ByteArray} {e e' : Int}
theorem beq_ba {a b : ByteArray} : (a == b) = true ↔ a = b := by
  have : (a == b) = (a.data == b.data) := rfl
  rw [this, beq_iff_eq]
  exact ⟨fun h => by cases a; cases b; simp_all, fun h => by rw [h]⟩
theorem eqb_num : ((s == s' && a == a') && e == e') = true ↔ NR.mk s a e = NR.mk s' a' e' := by
  rw [Bool.and_eq_true, Bool.and_eq_true, beq_iff_eq, beq_ba, beq_iff_eq, NR.mk.injEq, and_assoc]
theorem x_eqN {r : Bool} (hx : ev ρ x = .agg #[.bool s, .string a, .int .i64 e]) (hy : ev ρ y = .agg #[.bool s', .string a', .int .i64 e']) (hr : ((s == s' && a == a') && e == e') = r) :
    (execOp (ev ρ) ⟨d, .binOp .eql 25 x y u, ty, pos, af, g⟩).run Tryz.prog w = .ok (.value (.bool r)) w := by
  have h1 : (Op.equal 25 (.agg #[.bool s, .string a, .int .i64 e]) (.agg #[.bool s', .string a', .int .i64 e'])).run Tryz.prog w = .ok r w := by rw [← hr]; exact eq_num 9997 s s' a a' e e' w
  simp only [execOp, hx, hy]
  simp [eqGuard, binOp, h1]
theorem x_neN {r : Bool} (hx : ev ρ x = .agg #[.bool s, .string a, .int .i64 e]) (hy : ev ρ y = .agg #[.bool s', .string a', .int .i64 e']) (hr : ((s == s' && a == a') && e == e') = r) :
    (execOp (ev ρ) ⟨d, .binOp .neq 25 x y u, ty, pos, af, g⟩).run Tryz.prog w = .ok (.value (.bool !r)) w := by
  have h1 : (Op.equal 25 (.agg #[.bool s, .string a, .int .i64 e]) (.agg #[.bool s', .string a', .int .i64 e'])).run Tryz.prog w = .ok r w := by rw [← hr]; exact eq_num 9997 s s' a a' e e' w
  simp only [execOp, hx, hy]
  simp [eqGuard, binOp, h1]
theorem x_eqN_t (hx : ev ρ x = .agg #[.bool s, .string a, .int .i64 e]) (hy : ev ρ y = .agg #[.bool s', .string a', .int .i64 e']) (h : NR.mk s a e = NR.mk s' a' e') :
    (execOp (ev ρ) ⟨d, .binOp .eql 25 x y u, ty, pos, af, g⟩).run Tryz.prog w = .ok (.value (.bool true)) w := x_eqN hx hy (eqb_num.2 h)
theorem x_eqN_f (hx : ev ρ x = .agg #[.bool s, .string a, .int .i64 e]) (hy : ev ρ y = .agg #[.bool s', .string a', .int .i64 e']) (h : ¬ NR.mk s a e = NR.mk s' a' e') :
    (execOp (ev ρ) ⟨d, .binOp .eql 25 x y u, ty, pos, af, g⟩).run Tryz.prog w = .ok (.value (.bool false)) w := x_eqN hx hy (by rw [Bool.eq_false_iff]; exact fun h1 => h (eqb_num.1 h1))
theorem x_neN_f (hx : ev ρ x = .agg #[.bool s, .string a, .int .i64 e]) (hy : ev ρ y = .agg #[.bool s', .string a', .int .i64 e']) (h : NR.mk s a e = NR.mk s' a' e') :
    (execOp (ev ρ) ⟨d, .binOp .neq 25 x y u, ty, pos, af, g⟩).run Tryz.prog w = .ok (.value (.bool false)) w := x_neN hx hy (eqb_num.2 h)
theorem x_neN_t (hx : ev ρ x = .agg #[.bool s, .string a, .int .i64 e]) (hy : ev ρ y = .agg #[.bool s', .string a', .int .i64 e']) (h : ¬ NR.mk s a e = NR.mk s' a' e') :
    (execOp (ev ρ) ⟨d, .binOp .neq 25 x y u, ty, pos, af, g⟩).run Tryz.prog w = .ok (.value (.bool true)) w := x_neN hx hy (r := false) (by rw [Bool.eq_false_iff]; exact fun h1 => h (eqb_num.1 h1))
end
section
variable {N : Nat} {ops : Array Oper} {Q : Kq} {ρ : Rf} {w : World} {rest : List Oper} {d : Nat} {ty u : TypeId} {pos : String} {af : Array Edge} {x y : Operand} {s s' : Bool} {a a' : ByteArray} {e e' : Int}
theorem s_eqN_t (hx : ev ρ x = .agg #[.bool s, .string a, .int .i64 e]) (hy : ev ρ y = .agg #[.bool s', .string a', .int .i64 e']) (h : NR.mk s a e = NR.mk s' a' e') (hN : d < N) (kk : WL Tryz.prog N ops Q rest (upd ρ d (.bool true)) w) :
    WL Tryz.prog N ops Q (⟨some d, .binOp .eql 25 x y u, ty, pos, af, none⟩ :: rest) ρ w := wl_val rfl rfl hN (x_eqN_t hx hy h) kk
theorem s_eqN_f (hx : ev ρ x = .agg #[.bool s, .string a, .int .i64 e]) (hy : ev ρ y = .agg #[.bool s', .string a', .int .i64 e']) (h : ¬ NR.mk s a e = NR.mk s' a' e') (hN : d < N) (kk : WL Tryz.prog N ops Q rest (upd ρ d (.bool false)) w) :
    WL Tryz.prog N ops Q (⟨some d, .binOp .eql 25 x y u, ty, pos, af, none⟩ :: rest) ρ w := wl_val rfl rfl hN (x_eqN_f hx hy h) kk
theorem s_neN_t (hx : ev ρ x = .agg #[.bool s, .string a, .int .i64 e]) (hy : ev ρ y = .agg #[.bool s', .string a', .int .i64 e']) (h : ¬ NR.mk s a e = NR.mk s' a' e') (hN : d < N) (kk : WL Tryz.prog N ops Q rest (upd ρ d (.bool true)) w) :
    WL Tryz.prog N ops Q (⟨some d, .binOp .neq 25 x y u, ty, pos, af, none⟩ :: rest) ρ w := wl_val rfl rfl hN (x_neN_t hx hy h) kk
theorem s_neN_f (hx : ev ρ x = .agg #[.bool s, .string a, .int .i64 e]) (hy : ev ρ y = .agg #[.bool s', .string a', .int .i64 e']) (h : NR.mk s a e = NR.mk s' a' e') (hN : d < N) (kk : WL Tryz.prog N ops Q rest (upd ρ d (.bool false)) w) :
    WL Tryz.prog N ops Q (⟨some d, .binOp .neq 25 x y u, ty, pos, af, none⟩ :: rest) ρ w := wl_val rfl rfl hN (x_neN_f hx hy h) kk
end
theorem wShift_calls (s : Bool) (a : ByteArray) (n : Int) (w : World) (hT : Tab w) (ha : a.size ≤ 100000000) (h1 : -1000000000 ≤ n) (h2 : n ≤ 1000000000) :
    Calls Tryz.prog 110 #[.agg #[.bool s, .string a], .int .i64 n] w fun e w' => e = .returned (.agg #[.bool (iN (shI (iv s a) n)), .string (iM (shI (iv s a) n))]) ∧ Below w.heap.size w w' := by
  unfold shI
  by_cases h : 0 ≤ n
  · rw [if_pos h]
    obtain ⟨m, rfl⟩ := Int.eq_ofNat_of_zero_le h
    rw [Int.toNat_natCast]
    exact wShl_calls s a m w ha (by omega)
  · rw [if_neg h]
    obtain ⟨m, hm⟩ := Int.eq_ofNat_of_zero_le (show 0 ≤ -n by omega)
    rw [hm, Int.toNat_natCast, show n = -(m : Int) by omega]
    exact wShr_calls s a m w hT ha (by omega) (by omega)
theorem dMake_calls (s : Bool) (a : ByteArray) (e : Int) (w : World) (hT : Tab w) (ha : a.size ≤ 100000000) (h1 : -1000000000000 ≤ e) (h2 : e ≤ 1000000000000) :
    Calls Tryz.prog 54 #[.agg #[.bool s, .string a], .int .i64 e] w fun r w' => r = .returned (.agg #[.bool (nR (Dyadic.ofIntWithPrec (iv s a) (-e))).neg, .string (nR (Dyadic.ofIntWithPrec (iv s a) (-e))).mag, .int .i64 (nR (Dyadic.ofIntWithPrec (iv s a) (-e))).e]) ∧ Below w.heap.size w w' := by
  have hh := Hp.start w
  by_cases h0 : iv s a = 0
  · rw [h0, owp_zero, nR_zero]
    refine calls_vc (N := 21) (l := [.agg #[.bool s, .string a], .int .i64 e]) Tryz.func54 rfl rfl (by simp) ?_
    refine wc_seq ?_
    refine wc_region ?_
    refine wl_box hh (cs := [_, _]) rfl rfl (by decide) ?_
    intro b2 w2 hh
    refine wl_alloc hh TIs.out (by decide) ?_
    intro b4 w4 hh
    refine wl_end ?_
    refine wc_seq ?_
    refine wc_seq ?_
    refine wc_region ?_
    refine s_load (vs := [_, _]) TIs.out rfl (hh.rd_blk_at (i := 1) (n := 2) rfl rfl) rfl (by decide) ?_
    -- at some 7 := Op.call { callee := Callee.value (Operand.func 68), args := #[Operand.tmp 6], argTypes := 
    refine s_callf (wsign_calls s a _) FnIs.out rfl (by decide) ?_
    rintro e_ w7 ⟨rfl, hb_⟩
    refine ⟨_, rfl, ?_⟩
    replace hh := hh.ext hb_
    rw [h0]
    first | refine s_eql_t rfl rfl (by omega) (by decide) ?_ | refine s_eql_f rfl rfl (by omega) (by decide) ?_ | refine s_eql_v rfl rfl (by decide) ?_
    refine wl_end ?_
    refine wc_cond_t rfl ?_
    refine wc_seq ?_
    refine wc_region ?_
    refine s_build (cs := [_, _, _]) TIs.out PIs.out rfl rfl (by decide) ?_
    refine wl_store hh (i := 0) (vs := [_, _, _]) rfl rfl rfl rfl TIs.out rfl (by simp) rfl ?_
    intro ws hh
    replace hh : Hp _ (.blk _ _ [_, _, _] _ :: _) _ := hh
    refine wl_end ?_
    refine wc_ret ?_
    refine k_ret ?_
    -- at ('end', 'ret')
    refine retc1 (by first | exact .inr rfl | exact .inl rfl) rfl (r_cell rfl (lv_agg (vs := [_, _, _]) TIs.out (hh.rd_blk_at (i := 0) (n := 3) rfl rfl) rfl) r_nil) ?_
    exact ⟨rfl, hh.below⟩
  · have hs : (iv s a).sign ≠ 0 := by rw [ne_eq, Int.sign_eq_zero_iff_zero]; exact h0
    rw [make_spec h0]
    have hz : bN a ≠ 0 := fun h => h0 ((iv_zero s a).2 h)
    have htz : tz (bN a) < 8 * a.size + 1 := by
      have := bN_lt a
      rw [show (256 : Nat) = 2 ^ 8 from rfl, ← Nat.pow_mul] at this
      have := tz_lt hz this
      omega
    have hsh : shI (iv s a) (-(tz (bN a) : Int)) = iv s a / 2 ^ tz (bN a) := by
      unfold shI
      split
      · have : tz (bN a) = 0 := by omega
        rw [this]; simp
      · rw [Int.neg_neg, Int.toNat_natCast]
    refine calls_vc (N := 21) (l := [.agg #[.bool s, .string a], .int .i64 e]) Tryz.func54 rfl rfl (by simp) ?_
    refine wc_seq ?_
    refine wc_region ?_
    refine wl_box hh (cs := [_, _]) rfl rfl (by decide) ?_
    intro b2 w2 hh
    refine wl_alloc hh TIs.out (by decide) ?_
    intro b4 w4 hh
    refine wl_end ?_
    refine wc_seq ?_
    refine wc_seq ?_
    refine wc_region ?_
    refine s_load (vs := [_, _]) TIs.out rfl (hh.rd_blk_at (i := 1) (n := 2) rfl rfl) rfl (by decide) ?_
    -- at some 7 := Op.call { callee := Callee.value (Operand.func 68), args := #[Operand.tmp 6], argTypes := 
    refine s_callf (wsign_calls s a _) FnIs.out rfl (by decide) ?_
    rintro e_ w7 ⟨rfl, hb_⟩
    refine ⟨_, rfl, ?_⟩
    replace hh := hh.ext hb_
    first | refine s_eql_t rfl rfl (by omega) (by decide) ?_ | refine s_eql_f rfl rfl (by omega) (by decide) ?_ | refine s_eql_v rfl rfl (by decide) ?_
    refine wl_end ?_
    refine wc_cond_f rfl ?_
    refine wc_skip ?_
    refine k_then ?_
    refine wc_seq ?_
    refine wc_region ?_
    refine s_fieldAddr (off := 1) FIs.out rfl (by decide) ?_
    refine s_load1 TIs.out rfl (hh.cell_blk (i := 1) rfl rfl) (by decide) ?_
    -- at some 12 := Op.call { callee := Callee.value (Operand.func 109), args := #[Operand.tmp 11], argTypes :
    refine s_callf (natZeros_calls a _ (by omega) (hT.hp hh)) FnIs.out rfl (by decide) ?_
    rintro e_ w12 ⟨rfl, hb_⟩
    refine ⟨_, rfl, ?_⟩
    replace hh := hh.ext hb_
    refine s_assign (ev_int rfl) (by decide) ?_
    refine wl_end ?_
    refine wc_seq ?_
    refine wc_region ?_
    refine s_load (vs := [_, _]) TIs.out rfl (hh.rd_blk_at (i := 1) (n := 2) rfl rfl) rfl (by decide) ?_
    refine s_move (ev_int rfl) (by decide) ?_
    refine s_negi rfl (by omega) (by omega) (by decide) ?_
    -- at some 16 := Op.call { callee := Callee.value (Operand.func 110), args := #[Operand.tmp 13, Operand.tmp
    refine s_callf (wShift_calls s a (-(tz (bN a) : Int)) _ (hT.hp hh) ha (by omega) (by omega)) FnIs.out rfl (by decide) ?_
    rintro e_ w16 ⟨rfl, hb_⟩
    refine ⟨_, rfl, ?_⟩
    replace hh := hh.ext hb_
    rw [hsh]
    refine s_move (ev_int rfl) (by decide) ?_
    refine s_move (ev_int rfl) (by decide) ?_
    refine s_addi rfl rfl (by omega) (by omega) (by decide) ?_
    refine s_build (cs := [_, _, _]) TIs.out PIs.out rfl rfl (by decide) ?_
    refine wl_store hh (i := 0) (vs := [_, _, _]) rfl rfl rfl rfl TIs.out rfl (by simp) rfl ?_
    intro ws hh
    replace hh : Hp _ (.blk _ _ [_, _, _] _ :: _) _ := hh
    refine wl_end ?_
    refine wc_ret ?_
    -- at ('end', 'ret')
    refine retc1 (by first | exact .inr rfl | exact .inl rfl) rfl (r_cell rfl (lv_agg (vs := [_, _, _]) TIs.out (hh.rd_blk_at (i := 0) (n := 3) rfl rfl) rfl) r_nil) ?_
    exact ⟨rfl, hh.below⟩
/-- Within the bounds in which nothing overflows. -/
def NR.ok (a : NR) : Prop := a.mag.size ≤ 1000000 ∧ -10000000 ≤ a.e ∧ a.e ≤ 10000000
theorem Sz.ok {k : Nat} {x : Dyadic} (h : Sz k x) (hk : k ≤ 3999990) : (nR x).ok := by
  have := h.nr
  refine ⟨by omega, by omega, by omega⟩
theorem dOf_calls (n : Int) (w : World) (hT : Tab w) (h1 : -9223372036854775808 ≤ n) (h2 : n ≤ 9223372036854775807) :
    Calls Tryz.prog 52 #[.int .i64 n] w fun r w' => r = .returned (.agg #[.bool (nR (n : Dyadic)).neg, .string (nR (n : Dyadic)).mag, .int .i64 (nR (n : Dyadic)).e]) ∧ Below w.heap.size w w' := by
  have hh := Hp.start w
  have hsz : (iM n).size ≤ 100000000 := by
    rw [iM_size]
    have : blen n.natAbs ≤ 64 := blen_le (by omega)
    omega
  have hc : ∀ w1, Tab w1 → Calls Tryz.prog 54 #[.agg #[.bool (iN n), .string (iM n)], .int .i64 0] w1 fun r w' => r = .returned (.agg #[.bool (nR (n : Dyadic)).neg, .string (nR (n : Dyadic)).mag, .int .i64 (nR (n : Dyadic)).e]) ∧ Below w1.heap.size w1 w' := fun w1 hT1 => by
    have := dMake_calls (iN n) (iM n) 0 w1 hT1 hsz (by omega) (by omega)
    rw [iv_of] at this
    exact this
  refine calls_vc (N := 6) (l := [.int .i64 n]) Tryz.func52 rfl rfl (by simp) ?_
  refine wc_seq ?_
  refine wc_region ?_
  refine wl_alloc hh TIs.out (by decide) ?_
  intro b2 w2 hh
  refine wl_end ?_
  refine wc_seq ?_
  refine wc_region ?_
  refine s_move (ev_int rfl) (by decide) ?_
  -- at some 4 := Op.call { callee := Callee.value (Operand.func 107), args := #[Operand.tmp 3], argTypes :=
  refine s_callf (wOf_calls n _ h1 h2) FnIs.out rfl (by decide) ?_
  rintro e_ w4 ⟨rfl, hb_⟩
  refine ⟨_, rfl, ?_⟩
  replace hh := hh.ext hb_
  -- at some 5 := Op.call { callee := Callee.value (Operand.func 54), args := #[Operand.tmp 4, Operand.const
  refine s_callf (hc _ (hT.hp hh)) FnIs.out rfl (by decide) ?_
  rintro e_ w5 ⟨rfl, hb_⟩
  refine ⟨_, rfl, ?_⟩
  replace hh := hh.ext hb_
  refine wl_store hh (i := 0) (vs := [_, _, _]) rfl rfl rfl rfl TIs.out rfl (by simp) rfl ?_
  intro ws hh
  replace hh : Hp _ (.blk _ _ [_, _, _] _ :: _) _ := hh
  refine wl_end ?_
  refine wc_ret ?_
  -- at ('end', 'ret')
  refine retc1 (by first | exact .inr rfl | exact .inl rfl) rfl (r_cell rfl (lv_agg (vs := [_, _, _]) TIs.out (hh.rd_blk_at (i := 0) (n := 3) rfl rfl) rfl) r_nil) ?_
  exact ⟨rfl, hh.below⟩
theorem dForm_calls (a : NR) (w : World) (hT : Tab w) (ha : a.mag.size ≤ 100000000) (h1 : -1000000000000 ≤ a.e) (h2 : a.e ≤ 1000000000000) :
    Calls Tryz.prog 20 #[.agg #[.bool a.neg, .string a.mag, .int .i64 a.e]] w fun r w' => r = .returned (.agg #[.bool (nR a.d).neg, .string (nR a.d).mag, .int .i64 (nR a.d).e]) ∧ Below w.heap.size w w' := by
  have hh := Hp.start w
  refine calls_vc (N := 8) (l := [.agg #[.bool a.neg, .string a.mag, .int .i64 a.e]]) Tryz.func20 rfl rfl (by simp) ?_
  refine wc_seq ?_
  refine wc_region ?_
  refine wl_box hh (cs := [_, _, _]) rfl rfl (by decide) ?_
  intro b1 w1 hh
  refine wl_alloc hh TIs.out (by decide) ?_
  intro b2 w2 hh
  refine wl_end ?_
  refine wc_seq ?_
  refine wc_region ?_
  refine s_fieldAddr (off := 0) FIs.out rfl (by decide) ?_
  refine s_load (vs := [_, _]) TIs.out rfl (hh.rd_blk_at (i := 1) (n := 2) rfl rfl) rfl (by decide) ?_
  refine s_fieldAddr (off := 2) FIs.out rfl (by decide) ?_
  refine s_load1 TIs.out rfl (hh.cell_blk (i := 1) rfl rfl) (by decide) ?_
  -- at some 7 := Op.call { callee := Callee.value (Operand.func 54), args := #[Operand.tmp 4, Operand.tmp 6
  refine s_callf (dMake_calls a.neg a.mag a.e _ (hT.hp hh) ha h1 h2) FnIs.out rfl (by decide) ?_
  rintro e_ w7 ⟨rfl, hb_⟩
  refine ⟨_, rfl, ?_⟩
  replace hh := hh.ext hb_
  refine wl_store hh (i := 0) (vs := [_, _, _]) rfl rfl rfl rfl TIs.out rfl (by simp) rfl ?_
  intro ws hh
  replace hh : Hp _ (.blk _ _ [_, _, _] _ :: _) _ := hh
  refine wl_end ?_
  refine wc_ret ?_
  -- at ('end', 'ret')
  refine retc1 (by first | exact .inr rfl | exact .inl rfl) rfl (r_cell rfl (lv_agg (vs := [_, _, _]) TIs.out (hh.rd_blk_at (i := 0) (n := 3) rfl rfl) rfl) r_nil) ?_
  exact ⟨rfl, hh.below⟩
theorem dSign_calls (a : NR) (w : World) :
    Calls Tryz.prog 19 #[.agg #[.bool a.neg, .string a.mag, .int .i64 a.e]] w fun r w' => r = .returned (.int .i64 a.i.sign) ∧ Below w.heap.size w w' := by
  have hh := Hp.start w
  refine calls_vc (N := 6) (l := [.agg #[.bool a.neg, .string a.mag, .int .i64 a.e]]) Tryz.func19 rfl rfl (by simp) ?_
  refine wc_seq ?_
  refine wc_region ?_
  refine wl_box hh (cs := [_, _, _]) rfl rfl (by decide) ?_
  intro b1 w1 hh
  refine s_assign (ev_int rfl) (by decide) ?_
  refine wl_end ?_
  refine wc_seq ?_
  refine wc_region ?_
  refine s_fieldAddr (off := 0) FIs.out rfl (by decide) ?_
  refine s_load (vs := [_, _]) TIs.out rfl (hh.rd_blk_at (i := 0) (n := 2) rfl rfl) rfl (by decide) ?_
  -- at some 5 := Op.call { callee := Callee.value (Operand.func 68), args := #[Operand.tmp 4], argTypes := 
  refine s_callf (wsign_calls a.neg a.mag _) FnIs.out rfl (by decide) ?_
  rintro e_ w5 ⟨rfl, hb_⟩
  refine ⟨_, rfl, ?_⟩
  replace hh := hh.ext hb_
  refine s_assign (ev_int rfl) (by decide) ?_
  refine wl_end ?_
  refine wc_ret ?_
  -- at ('end', 'ret')
  refine ret1 (by first | exact .inr rfl | exact .inl rfl) rfl (v_int rfl) ?_
  exact ⟨rfl, hh.below⟩
theorem dNeg_calls (a : NR) (w : World) (hT : Tab w) (ha : a.mag.size ≤ 100000000) (h1 : -1000000000000 ≤ a.e) (h2 : a.e ≤ 1000000000000) :
    Calls Tryz.prog 69 #[.agg #[.bool a.neg, .string a.mag, .int .i64 a.e]] w fun r w' => r = .returned (.agg #[.bool (nR (-a.d)).neg, .string (nR (-a.d)).mag, .int .i64 (nR (-a.d)).e]) ∧ Below w.heap.size w w' := by
  have hh := Hp.start w
  have hc : ∀ w1, Tab w1 → Calls Tryz.prog 54 #[.agg #[.bool (iN (-(iv a.neg a.mag))), .string (iM (-(iv a.neg a.mag)))], .int .i64 a.e] w1 fun r w' => r = .returned (.agg #[.bool (nR (-a.d)).neg, .string (nR (-a.d)).mag, .int .i64 (nR (-a.d)).e]) ∧ Below w1.heap.size w1 w' := fun w1 hT1 => by
    have hs := iM_neg_size a.neg a.mag
    have := dMake_calls (iN (-(iv a.neg a.mag))) (iM (-(iv a.neg a.mag))) a.e w1 hT1 (by omega) h1 h2
    rw [iv_of, ← owp_neg] at this
    exact this
  refine calls_vc (N := 9) (l := [.agg #[.bool a.neg, .string a.mag, .int .i64 a.e]]) Tryz.func69 rfl rfl (by simp) ?_
  refine wc_seq ?_
  refine wc_region ?_
  refine wl_box hh (cs := [_, _, _]) rfl rfl (by decide) ?_
  intro b1 w1 hh
  refine wl_alloc hh TIs.out (by decide) ?_
  intro b2 w2 hh
  refine wl_end ?_
  refine wc_seq ?_
  -- at the drawn region 1
  refine wc_drawn 5 [[(1, none)], [(3, some 0)], [(4, some 1)], [(1, none)], [(6, some 3)]] [(4, 7), (3, 6), (2, 5), (1, 4), (0, 3)] hh mixed (by kernel_rfl) ?_
  refine dx_val (i := 0) (fun ρ1 w1 hj hR => x_fieldAddr (off := 0) FIs.out (show ρ1 1 = Value.pointer _ from hR.1)) ?_
  refine dx_val (i := 1) (fun ρ1 w1 hj hR => x_load (vs := [_, _]) TIs.out (show ρ1 3 = Value.pointer _ from hR.1) (hj.hp.rd_blk_at (i := 1) (n := 2) rfl rfl) rfl) ?_
  refine dx_call (i := 2) (fun ρ1 w1 hj hR => run_callf FnIs.out (evs_cons (show ρ1 4 = Value.agg (List.toArray _) from hR.1) evs_nil)) (fun w1 hj => wneg_calls a.neg a.mag _) ?_
  refine dx_val (i := 3) (fun ρ1 w1 hj hR => x_fieldAddr (off := 2) FIs.out (show ρ1 1 = Value.pointer _ from hR.1)) ?_
  refine dx_val (i := 4) (fun ρ1 w1 hj hR => x_load1 TIs.out (show ρ1 6 = Value.pointer _ from hR.1) (hj.hp.cell_blk (i := 1) rfl rfl)) ?_
  refine dx_nil ?_
  intro f W hJ hV
  have hb_1 := hJ.bl
  obtain ⟨v7, v6, v5, v4, v3, _⟩ := hV
  simp only [updL]
  have e3 : f 0 = _ := v3
  rw [e3]
  have e4 : f 1 = _ := v4
  rw [e4]
  have e5 : f 2 = _ := v5
  rw [e5]
  have e6 : f 3 = _ := v6
  rw [e6]
  have e7 : f 4 = _ := v7
  rw [e7]
  replace hh := hJ.hp
  clear e3 e4 e5 e6 e7 hJ
  -- at some 8 := Op.call { callee := Callee.value (Operand.func 54), args := #[Operand.tmp 5, Operand.tmp 7
  refine s_callf (hc _ (hT.hp hh)) FnIs.out rfl (by decide) ?_
  rintro e_ w8 ⟨rfl, hb_⟩
  refine ⟨_, rfl, ?_⟩
  replace hh := hh.ext hb_
  refine wl_store hh (i := 0) (vs := [_, _, _]) rfl rfl rfl rfl TIs.out rfl (by simp) rfl ?_
  intro ws hh
  replace hh : Hp _ (.blk _ _ [_, _, _] _ :: _) _ := hh
  refine wl_end ?_
  refine wc_ret ?_
  -- at ('end', 'ret')
  refine retc1 (by first | exact .inr rfl | exact .inl rfl) rfl (r_cell rfl (lv_agg (vs := [_, _, _]) TIs.out (hh.rd_blk_at (i := 0) (n := 3) rfl rfl) rfl) r_nil) ?_
  exact ⟨rfl, hh.below⟩
theorem don_calls (s : Int) (a : NR) (w : World) (hT : Tab w) (ha : a.mag.size ≤ 100000000) (h1 : -1000000000 ≤ a.e - s) (h2 : a.e - s ≤ 1000000000) :
    Calls Tryz.prog 113 #[.int .i64 s, .agg #[.bool a.neg, .string a.mag, .int .i64 a.e]] w fun r w' => r = .returned (.agg #[.bool (iN (shI a.i (a.e - s))), .string (iM (shI a.i (a.e - s)))]) ∧ Below w.heap.size w w' := by
  have hh := Hp.start w
  refine calls_vc (N := 12) (l := [.int .i64 s, .agg #[.bool a.neg, .string a.mag, .int .i64 a.e]]) Tryz.func113 rfl rfl (by simp) ?_
  refine wc_seq ?_
  refine wc_region ?_
  refine wl_box hh (cs := [_, _, _]) rfl rfl (by decide) ?_
  intro b3 w3 hh
  refine wl_alloc hh TIs.out (by decide) ?_
  intro b4 w4 hh
  refine wl_end ?_
  refine wc_seq ?_
  refine wc_region ?_
  refine s_fieldAddr (off := 0) FIs.out rfl (by decide) ?_
  refine s_load (vs := [_, _]) TIs.out rfl (hh.rd_blk_at (i := 1) (n := 2) rfl rfl) rfl (by decide) ?_
  refine s_fieldAddr (off := 2) FIs.out rfl (by decide) ?_
  refine s_load1 TIs.out rfl (hh.cell_blk (i := 1) rfl rfl) (by decide) ?_
  refine s_move (ev_int rfl) (by decide) ?_
  refine s_subi rfl rfl (by omega) (by omega) (by decide) ?_
  -- at some 11 := Op.call { callee := Callee.value (Operand.func 110), args := #[Operand.tmp 6, Operand.tmp 
  refine s_callf (wShift_calls a.neg a.mag (a.e - s) _ (hT.hp hh) ha h1 h2) FnIs.out rfl (by decide) ?_
  rintro e_ w11 ⟨rfl, hb_⟩
  refine ⟨_, rfl, ?_⟩
  replace hh := hh.ext hb_
  refine wl_store hh (i := 0) (vs := [_, _]) rfl rfl rfl rfl TIs.out rfl (by simp) rfl ?_
  intro ws hh
  replace hh : Hp _ (.blk _ _ [_, _] _ :: _) _ := hh
  refine wl_end ?_
  refine wc_ret ?_
  -- at ('end', 'ret')
  refine retc1 (by first | exact .inr rfl | exact .inl rfl) rfl (r_cell rfl (lv_agg (vs := [_, _]) TIs.out (hh.rd_blk_at (i := 0) (n := 2) rfl rfl) rfl) r_nil) ?_
  exact ⟨rfl, hh.below⟩
theorem nR_i_shift (x : Dyadic) (p : Int) : shI (nR x).i ((nR x).e - -p) = intAt x p := by
  cases x with
  | zero => exact shI_zero _
  | ofOdd n k h =>
    simp only [nR, NR.i, iv_of, intAt]
    congr 1
    omega
theorem nR_zero_iff (x : Dyadic) : nR x = ⟨false, ByteArray.mk #[], 0⟩ ↔ x = 0 := by rw [← nR_zero, nR_inj]
theorem raw_form {a : NR} (h : a.ok) : Sz 18000000 a.d ∧ (nR a.d).mag.size ≤ 1000000 ∧ -18000000 ≤ (nR a.d).e ∧ (nR a.d).e ≤ 18000000 := by
  obtain ⟨h1, h2, h3⟩ := h
  refine ⟨Sz.raw (m := 8000000) (E := 10000000) (by omega) (by omega) (by omega), ?_⟩
  by_cases h0 : iv a.neg a.mag = 0
  · rw [NR.d, NR.i, h0, owp_zero, nR_zero]
    exact ⟨Nat.zero_le _, by simp, by simp⟩
  · rw [NR.d, NR.i, make_spec h0]
    have hz : bN a.mag ≠ 0 := fun h => h0 ((iv_zero a.neg a.mag).2 h)
    have htz : tz (bN a.mag) < 8 * a.mag.size + 1 := by
      have := bN_lt a.mag
      rw [show (256 : Nat) = 2 ^ 8 from rfl, ← Nat.pow_mul] at this
      have := tz_lt hz this
      omega
    have hb : blen (iv a.neg a.mag / 2 ^ tz (bN a.mag)).natAbs ≤ 8 * a.mag.size := by
      apply blen_le
      refine Nat.lt_of_le_of_lt (Int.natAbs_ediv_le_natAbs _ _) ?_
      rw [iv_abs]
      exact Nat.lt_of_lt_of_le (lt_blen _) (Nat.pow_le_pow_right (by omega) (bN_blen _))
    simp only
    rw [iM_size]
    refine ⟨by omega, by omega, by omega⟩
theorem dlevel_calls (a b : NR) (w : World) (hT : Tab w) (ha : a.ok) (hb : b.ok) :
    Calls Tryz.prog 61 #[.agg #[.bool a.neg, .string a.mag, .int .i64 a.e], .agg #[.bool b.neg, .string b.mag, .int .i64 b.e]] w fun r w' => r = .returned (.agg #[.int .i64 (-(lvlP a.d b.d)), .bool (iN (intAt a.d (lvlP a.d b.d))), .string (iM (intAt a.d (lvlP a.d b.d))), .bool (iN (intAt b.d (lvlP a.d b.d))), .string (iM (intAt b.d (lvlP a.d b.d)))]) ∧ Below w.heap.size w w' := by
  have hh := Hp.start w
  obtain ⟨ha1, ha2, ha3⟩ := ha
  obtain ⟨hb1, hb2, hb3⟩ := hb
  obtain ⟨_, fa1, fa2, fa3⟩ := raw_form (a := a) ⟨ha1, ha2, ha3⟩
  obtain ⟨_, fb1, fb2, fb3⟩ := raw_form (a := b) ⟨hb1, hb2, hb3⟩
  have hP := lvlP_bd a.d b.d 18000000 (by omega) (by omega)
  have hcx := fun w1 hT1 => don_calls (-(lvlP a.d b.d)) (nR a.d) w1 hT1 (by omega) (by omega) (by omega)
  have hcy := fun w1 hT1 => don_calls (-(lvlP a.d b.d)) (nR b.d) w1 hT1 (by omega) (by omega) (by omega)
  rw [nR_i_shift] at hcx hcy
  by_cases h0 : a.d = 0
  · have h0' := (nR_zero_iff a.d).2 h0
    have hs : (nR b.d).e = -(lvlP a.d b.d) := by
      rw [h0]
      cases b.d with
      | zero => rfl
      | ofOdd n k h => rfl
    refine calls_vc (N := 41) (l := [.agg #[.bool a.neg, .string a.mag, .int .i64 a.e], .agg #[.bool b.neg, .string b.mag, .int .i64 b.e]]) Tryz.func61 rfl rfl (by simp) ?_
    refine wc_seq ?_
    refine wc_region ?_
    refine wl_box hh (cs := [_, _, _]) rfl rfl (by decide) ?_
    intro b2 w2 hh
    refine wl_box hh (cs := [_, _, _]) rfl rfl (by decide) ?_
    intro b3 w3 hh
    refine wl_alloc hh TIs.out (by decide) ?_
    intro b4 w4 hh
    refine wl_end ?_
    refine wc_seq ?_
    -- at the drawn region 1
    refine wc_drawn 3 [[(2, none)], [(7, some 0)], [(3, none)]] [(2, 9), (1, 8), (0, 7)] hh mixed (by kernel_rfl) ?_
    refine dx_val (i := 0) (fun ρ1 w1 hj hR => x_load (vs := [_, _, _]) TIs.out (show ρ1 2 = Value.pointer _ from hR.1) (hj.hp.rd_blk_at (i := 2) (n := 3) rfl rfl) rfl) ?_
    refine dx_call (i := 1) (fun ρ1 w1 hj hR => run_callf FnIs.out (evs_cons (show ρ1 7 = Value.agg (List.toArray _) from hR.1) evs_nil)) (fun w1 hj => dForm_calls a _ (hT.hp hj.hp) (by omega) (by omega) (by omega)) ?_
    refine dx_val (i := 2) (fun ρ1 w1 hj hR => x_load (vs := [_, _, _]) TIs.out (show ρ1 3 = Value.pointer _ from hR.1) (hj.hp.rd_blk_at (i := 1) (n := 3) rfl rfl) rfl) ?_
    refine dx_nil ?_
    intro f W hJ hV
    have hb_1 := hJ.bl
    obtain ⟨v9, v8, v7, _⟩ := hV
    simp only [updL]
    have e7 : f 0 = _ := v7
    rw [e7]
    have e8 : f 1 = _ := v8
    rw [e8]
    have e9 : f 2 = _ := v9
    rw [e9]
    replace hh := hJ.hp
    clear e7 e8 e9 hJ
    -- at some 10 := Op.call { callee := Callee.value (Operand.func 20), args := #[Operand.tmp 9], argTypes := 
    refine s_callf (dForm_calls b _ (hT.hp hh) (by omega) (by omega) (by omega)) FnIs.out rfl (by decide) ?_
    rintro e_ w10 ⟨rfl, hb_⟩
    refine ⟨_, rfl, ?_⟩
    replace hh := hh.ext hb_
    refine wl_store hh (i := 2) (vs := [_, _, _]) rfl rfl rfl rfl TIs.out rfl (by simp) rfl ?_
    intro ws hh
    replace hh : Hp _ (_ :: _ :: .blk _ _ [_, _, _] _ :: _) _ := hh
    refine wl_store hh (i := 1) (vs := [_, _, _]) rfl rfl rfl rfl TIs.out rfl (by simp) rfl ?_
    intro ws hh
    replace hh : Hp _ (_ :: .blk _ _ [_, _, _] _ :: _) _ := hh
    refine wl_end ?_
    refine wc_seq ?_
    refine wc_region ?_
    refine s_fieldAddr (off := 2) FIs.out rfl (by decide) ?_
    refine s_load1 TIs.out rfl (hh.cell_blk (i := 2) rfl rfl) (by decide) ?_
    refine s_fieldAddr (off := 2) FIs.out rfl (by decide) ?_
    refine s_load1 TIs.out rfl (hh.cell_blk (i := 1) rfl rfl) (by decide) ?_
    refine s_min rfl rfl (by decide) ?_
    refine s_assign (ev_int rfl) (by decide) ?_
    refine wl_end ?_
    refine wc_seq ?_
    refine wc_block ?_
    refine wc_seq ?_
    refine wc_region ?_
    refine s_load (vs := [_, _, _]) TIs.out rfl (hh.rd_blk_at (i := 2) (n := 3) rfl rfl) rfl (by decide) ?_
    refine s_build (cs := [_, _, _]) TIs.out PIs.out rfl rfl (by decide) ?_
    first | refine s_eqN_t rfl rfl (by first | assumption | rfl) (by decide) ?_ | refine s_eqN_f rfl rfl (by assumption) (by decide) ?_
    refine s_assign (ev_bool rfl) (by decide) ?_
    refine wl_end ?_
    refine wc_cond_t rfl ?_
    refine wc_region ?_
    refine s_fieldAddr (off := 2) FIs.out rfl (by decide) ?_
    refine s_load1 TIs.out rfl (hh.cell_blk (i := 1) rfl rfl) (by decide) ?_
    refine s_assign (ev_int rfl) (by decide) ?_
    refine wl_nil ?_
    refine b_norm ?_
    refine k_then ?_
    refine wc_seq ?_
    refine wc_region ?_
    -- at some 28
    rw [hs]
    refine s_move (ev_int rfl) (by decide) ?_
    refine s_build (cs := [_, _, _, _, _]) TIs.out PIs.out rfl rfl (by decide) ?_
    refine wl_alloc hh TIs.out (by decide) ?_
    intro b6 w6 hh
    refine wl_store hh (i := 0) (vs := [_, _, _, _, _]) rfl rfl rfl rfl TIs.out rfl (by simp) rfl ?_
    intro ws hh
    replace hh : Hp _ (.blk _ _ [_, _, _, _, _] _ :: _) _ := hh
    refine wl_end ?_
    refine wc_seq ?_
    -- at the drawn region 8
    refine wc_drawn 9 [[(6, none)], [(30, some 0)], [(2, none)], [(31, some 1), (32, some 2)], [(6, none)], [(34, some 4)], [(3, none)], [(35, some 5), (36, some 6)], [(6, none)]] [(8, 38), (7, 37), (6, 36), (5, 35), (4, 34), (3, 33), (2, 32), (1, 31), (0, 30)] hh mixed (by kernel_rfl) ?_
    refine dx_val (i := 0) (fun ρ1 w1 hj hR => x_fieldAddr (off := 0) FIs.out (show ρ1 6 = Value.pointer _ from hR.1)) ?_
    refine dx_val (i := 1) (fun ρ1 w1 hj hR => x_load1 TIs.out (show ρ1 30 = Value.pointer _ from hR.1) (hj.hp.cell_blk (i := 0) rfl rfl)) ?_
    refine dx_val (i := 2) (fun ρ1 w1 hj hR => x_load (vs := [_, _, _]) TIs.out (show ρ1 2 = Value.pointer _ from hR.1) (hj.hp.rd_blk_at (i := 3) (n := 3) rfl rfl) rfl) ?_
    refine dx_call (i := 3) (fun ρ1 w1 hj hR => run_callf FnIs.out (evs_cons (show ρ1 31 = Value.int _ _ from hR.1) (evs_cons (show ρ1 32 = Value.agg (List.toArray _) from hR.2.1) evs_nil))) (fun w1 hj => hcx _ (hT.hp hj.hp)) ?_
    refine dx_val (i := 4) (fun ρ1 w1 hj hR => x_fieldAddr (off := 0) FIs.out (show ρ1 6 = Value.pointer _ from hR.1)) ?_
    refine dx_val (i := 5) (fun ρ1 w1 hj hR => x_load1 TIs.out (show ρ1 34 = Value.pointer _ from hR.1) (hj.hp.cell_blk (i := 0) rfl rfl)) ?_
    refine dx_val (i := 6) (fun ρ1 w1 hj hR => x_load (vs := [_, _, _]) TIs.out (show ρ1 3 = Value.pointer _ from hR.1) (hj.hp.rd_blk_at (i := 2) (n := 3) rfl rfl) rfl) ?_
    refine dx_call (i := 7) (fun ρ1 w1 hj hR => run_callf FnIs.out (evs_cons (show ρ1 35 = Value.int _ _ from hR.1) (evs_cons (show ρ1 36 = Value.agg (List.toArray _) from hR.2.1) evs_nil))) (fun w1 hj => hcy _ (hT.hp hj.hp)) ?_
    refine dx_val (i := 8) (fun ρ1 w1 hj hR => x_fieldAddr (off := 1) FIs.out (show ρ1 6 = Value.pointer _ from hR.1)) ?_
    refine dx_nil ?_
    intro f W hJ hV
    have hb_8 := hJ.bl
    obtain ⟨v38, v37, v36, v35, v34, v33, v32, v31, v30, _⟩ := hV
    simp only [updL]
    have e30 : f 0 = _ := v30
    rw [e30]
    have e31 : f 1 = _ := v31
    rw [e31]
    have e32 : f 2 = _ := v32
    rw [e32]
    have e33 : f 3 = _ := v33
    rw [e33]
    have e34 : f 4 = _ := v34
    rw [e34]
    have e35 : f 5 = _ := v35
    rw [e35]
    have e36 : f 6 = _ := v36
    rw [e36]
    have e37 : f 7 = _ := v37
    rw [e37]
    have e38 : f 8 = _ := v38
    rw [e38]
    replace hh := hJ.hp
    clear e30 e31 e32 e33 e34 e35 e36 e37 e38 hJ
    refine wl_store hh (i := 0) (vs := [_, _]) rfl rfl rfl rfl TIs.out rfl (by simp) rfl ?_
    intro ws hh
    replace hh : Hp _ (.blk _ _ [_, _, _, _, _] _ :: _) _ := hh
    refine s_fieldAddr (off := 3) FIs.out rfl (by decide) ?_
    refine wl_store hh (i := 0) (vs := [_, _]) rfl rfl rfl rfl TIs.out rfl (by simp) rfl ?_
    intro ws hh
    replace hh : Hp _ (.blk _ _ [_, _, _, _, _] _ :: _) _ := hh
    refine wl_end ?_
    refine wc_seq ?_
    refine wc_region ?_
    refine s_load (vs := [_, _, _, _, _]) TIs.out rfl (hh.rd_blk_at (i := 0) (n := 5) rfl rfl) rfl (by decide) ?_
    refine wl_store hh (i := 1) (vs := [_, _, _, _, _]) rfl rfl rfl rfl TIs.out rfl (by simp) rfl ?_
    intro ws hh
    replace hh : Hp _ (_ :: .blk _ _ [_, _, _, _, _] _ :: _) _ := hh
    refine wl_end ?_
    refine wc_ret ?_
    -- at ('end', 'ret')
    refine retc1 (by first | exact .inr rfl | exact .inl rfl) rfl (r_cell rfl (lv_agg (vs := [_, _, _, _, _]) TIs.out (hh.rd_blk_at (i := 1) (n := 5) rfl rfl) rfl) r_nil) ?_
    exact ⟨rfl, hh.below⟩
  · have h0' : ¬ nR a.d = ⟨false, ByteArray.mk #[], 0⟩ := fun h => h0 ((nR_zero_iff _).1 h)
    by_cases h1 : b.d = 0
    · have h1' := (nR_zero_iff b.d).2 h1
      have hs : (nR a.d).e = -(lvlP a.d b.d) := by
        rw [h1]
        cases a.d with
        | zero => rfl
        | ofOdd n k h => rfl
      refine calls_vc (N := 41) (l := [.agg #[.bool a.neg, .string a.mag, .int .i64 a.e], .agg #[.bool b.neg, .string b.mag, .int .i64 b.e]]) Tryz.func61 rfl rfl (by simp) ?_
      refine wc_seq ?_
      refine wc_region ?_
      refine wl_box hh (cs := [_, _, _]) rfl rfl (by decide) ?_
      intro b2 w2 hh
      refine wl_box hh (cs := [_, _, _]) rfl rfl (by decide) ?_
      intro b3 w3 hh
      refine wl_alloc hh TIs.out (by decide) ?_
      intro b4 w4 hh
      refine wl_end ?_
      refine wc_seq ?_
      -- at the drawn region 1
      refine wc_drawn 3 [[(2, none)], [(7, some 0)], [(3, none)]] [(2, 9), (1, 8), (0, 7)] hh mixed (by kernel_rfl) ?_
      refine dx_val (i := 0) (fun ρ1 w1 hj hR => x_load (vs := [_, _, _]) TIs.out (show ρ1 2 = Value.pointer _ from hR.1) (hj.hp.rd_blk_at (i := 2) (n := 3) rfl rfl) rfl) ?_
      refine dx_call (i := 1) (fun ρ1 w1 hj hR => run_callf FnIs.out (evs_cons (show ρ1 7 = Value.agg (List.toArray _) from hR.1) evs_nil)) (fun w1 hj => dForm_calls a _ (hT.hp hj.hp) (by omega) (by omega) (by omega)) ?_
      refine dx_val (i := 2) (fun ρ1 w1 hj hR => x_load (vs := [_, _, _]) TIs.out (show ρ1 3 = Value.pointer _ from hR.1) (hj.hp.rd_blk_at (i := 1) (n := 3) rfl rfl) rfl) ?_
      refine dx_nil ?_
      intro f W hJ hV
      have hb_1 := hJ.bl
      obtain ⟨v9, v8, v7, _⟩ := hV
      simp only [updL]
      have e7 : f 0 = _ := v7
      rw [e7]
      have e8 : f 1 = _ := v8
      rw [e8]
      have e9 : f 2 = _ := v9
      rw [e9]
      replace hh := hJ.hp
      clear e7 e8 e9 hJ
      -- at some 10 := Op.call { callee := Callee.value (Operand.func 20), args := #[Operand.tmp 9], argTypes := 
      refine s_callf (dForm_calls b _ (hT.hp hh) (by omega) (by omega) (by omega)) FnIs.out rfl (by decide) ?_
      rintro e_ w10 ⟨rfl, hb_⟩
      refine ⟨_, rfl, ?_⟩
      replace hh := hh.ext hb_
      refine wl_store hh (i := 2) (vs := [_, _, _]) rfl rfl rfl rfl TIs.out rfl (by simp) rfl ?_
      intro ws hh
      replace hh : Hp _ (_ :: _ :: .blk _ _ [_, _, _] _ :: _) _ := hh
      refine wl_store hh (i := 1) (vs := [_, _, _]) rfl rfl rfl rfl TIs.out rfl (by simp) rfl ?_
      intro ws hh
      replace hh : Hp _ (_ :: .blk _ _ [_, _, _] _ :: _) _ := hh
      refine wl_end ?_
      refine wc_seq ?_
      refine wc_region ?_
      refine s_fieldAddr (off := 2) FIs.out rfl (by decide) ?_
      refine s_load1 TIs.out rfl (hh.cell_blk (i := 2) rfl rfl) (by decide) ?_
      refine s_fieldAddr (off := 2) FIs.out rfl (by decide) ?_
      refine s_load1 TIs.out rfl (hh.cell_blk (i := 1) rfl rfl) (by decide) ?_
      refine s_min rfl rfl (by decide) ?_
      refine s_assign (ev_int rfl) (by decide) ?_
      refine wl_end ?_
      refine wc_seq ?_
      refine wc_block ?_
      refine wc_seq ?_
      refine wc_region ?_
      refine s_load (vs := [_, _, _]) TIs.out rfl (hh.rd_blk_at (i := 2) (n := 3) rfl rfl) rfl (by decide) ?_
      refine s_build (cs := [_, _, _]) TIs.out PIs.out rfl rfl (by decide) ?_
      first | refine s_eqN_t rfl rfl (by first | assumption | rfl) (by decide) ?_ | refine s_eqN_f rfl rfl (by assumption) (by decide) ?_
      refine s_assign (ev_bool rfl) (by decide) ?_
      refine wl_end ?_
      refine wc_cond_f rfl ?_
      refine wc_seq ?_
      refine wc_region ?_
      refine s_load (vs := [_, _, _]) TIs.out rfl (hh.rd_blk_at (i := 1) (n := 3) rfl rfl) rfl (by decide) ?_
      refine s_build (cs := [_, _, _]) TIs.out PIs.out rfl rfl (by decide) ?_
      first | refine s_eqN_t rfl rfl (by first | assumption | rfl) (by decide) ?_ | refine s_eqN_f rfl rfl (by assumption) (by decide) ?_
      refine s_assign (ev_bool rfl) (by decide) ?_
      refine wl_end ?_
      refine wc_cond_t rfl ?_
      refine wc_region ?_
      refine s_fieldAddr (off := 2) FIs.out rfl (by decide) ?_
      refine s_load1 TIs.out rfl (hh.cell_blk (i := 2) rfl rfl) (by decide) ?_
      refine s_assign (ev_int rfl) (by decide) ?_
      refine wl_nil ?_
      refine b_norm ?_
      refine k_then ?_
      refine wc_seq ?_
      refine wc_region ?_
      -- at some 28
      rw [hs]
      refine s_move (ev_int rfl) (by decide) ?_
      refine s_build (cs := [_, _, _, _, _]) TIs.out PIs.out rfl rfl (by decide) ?_
      refine wl_alloc hh TIs.out (by decide) ?_
      intro b6 w6 hh
      refine wl_store hh (i := 0) (vs := [_, _, _, _, _]) rfl rfl rfl rfl TIs.out rfl (by simp) rfl ?_
      intro ws hh
      replace hh : Hp _ (.blk _ _ [_, _, _, _, _] _ :: _) _ := hh
      refine wl_end ?_
      refine wc_seq ?_
      -- at the drawn region 8
      refine wc_drawn 9 [[(6, none)], [(30, some 0)], [(2, none)], [(31, some 1), (32, some 2)], [(6, none)], [(34, some 4)], [(3, none)], [(35, some 5), (36, some 6)], [(6, none)]] [(8, 38), (7, 37), (6, 36), (5, 35), (4, 34), (3, 33), (2, 32), (1, 31), (0, 30)] hh mixed (by kernel_rfl) ?_
      refine dx_val (i := 0) (fun ρ1 w1 hj hR => x_fieldAddr (off := 0) FIs.out (show ρ1 6 = Value.pointer _ from hR.1)) ?_
      refine dx_val (i := 1) (fun ρ1 w1 hj hR => x_load1 TIs.out (show ρ1 30 = Value.pointer _ from hR.1) (hj.hp.cell_blk (i := 0) rfl rfl)) ?_
      refine dx_val (i := 2) (fun ρ1 w1 hj hR => x_load (vs := [_, _, _]) TIs.out (show ρ1 2 = Value.pointer _ from hR.1) (hj.hp.rd_blk_at (i := 3) (n := 3) rfl rfl) rfl) ?_
      refine dx_call (i := 3) (fun ρ1 w1 hj hR => run_callf FnIs.out (evs_cons (show ρ1 31 = Value.int _ _ from hR.1) (evs_cons (show ρ1 32 = Value.agg (List.toArray _) from hR.2.1) evs_nil))) (fun w1 hj => hcx _ (hT.hp hj.hp)) ?_
      refine dx_val (i := 4) (fun ρ1 w1 hj hR => x_fieldAddr (off := 0) FIs.out (show ρ1 6 = Value.pointer _ from hR.1)) ?_
      refine dx_val (i := 5) (fun ρ1 w1 hj hR => x_load1 TIs.out (show ρ1 34 = Value.pointer _ from hR.1) (hj.hp.cell_blk (i := 0) rfl rfl)) ?_
      refine dx_val (i := 6) (fun ρ1 w1 hj hR => x_load (vs := [_, _, _]) TIs.out (show ρ1 3 = Value.pointer _ from hR.1) (hj.hp.rd_blk_at (i := 2) (n := 3) rfl rfl) rfl) ?_
      refine dx_call (i := 7) (fun ρ1 w1 hj hR => run_callf FnIs.out (evs_cons (show ρ1 35 = Value.int _ _ from hR.1) (evs_cons (show ρ1 36 = Value.agg (List.toArray _) from hR.2.1) evs_nil))) (fun w1 hj => hcy _ (hT.hp hj.hp)) ?_
      refine dx_val (i := 8) (fun ρ1 w1 hj hR => x_fieldAddr (off := 1) FIs.out (show ρ1 6 = Value.pointer _ from hR.1)) ?_
      refine dx_nil ?_
      intro f W hJ hV
      have hb_8 := hJ.bl
      obtain ⟨v38, v37, v36, v35, v34, v33, v32, v31, v30, _⟩ := hV
      simp only [updL]
      have e30 : f 0 = _ := v30
      rw [e30]
      have e31 : f 1 = _ := v31
      rw [e31]
      have e32 : f 2 = _ := v32
      rw [e32]
      have e33 : f 3 = _ := v33
      rw [e33]
      have e34 : f 4 = _ := v34
      rw [e34]
      have e35 : f 5 = _ := v35
      rw [e35]
      have e36 : f 6 = _ := v36
      rw [e36]
      have e37 : f 7 = _ := v37
      rw [e37]
      have e38 : f 8 = _ := v38
      rw [e38]
      replace hh := hJ.hp
      clear e30 e31 e32 e33 e34 e35 e36 e37 e38 hJ
      refine wl_store hh (i := 0) (vs := [_, _]) rfl rfl rfl rfl TIs.out rfl (by simp) rfl ?_
      intro ws hh
      replace hh : Hp _ (.blk _ _ [_, _, _, _, _] _ :: _) _ := hh
      refine s_fieldAddr (off := 3) FIs.out rfl (by decide) ?_
      refine wl_store hh (i := 0) (vs := [_, _]) rfl rfl rfl rfl TIs.out rfl (by simp) rfl ?_
      intro ws hh
      replace hh : Hp _ (.blk _ _ [_, _, _, _, _] _ :: _) _ := hh
      refine wl_end ?_
      refine wc_seq ?_
      refine wc_region ?_
      refine s_load (vs := [_, _, _, _, _]) TIs.out rfl (hh.rd_blk_at (i := 0) (n := 5) rfl rfl) rfl (by decide) ?_
      refine wl_store hh (i := 1) (vs := [_, _, _, _, _]) rfl rfl rfl rfl TIs.out rfl (by simp) rfl ?_
      intro ws hh
      replace hh : Hp _ (_ :: .blk _ _ [_, _, _, _, _] _ :: _) _ := hh
      refine wl_end ?_
      refine wc_ret ?_
      -- at ('end', 'ret')
      refine retc1 (by first | exact .inr rfl | exact .inl rfl) rfl (r_cell rfl (lv_agg (vs := [_, _, _, _, _]) TIs.out (hh.rd_blk_at (i := 1) (n := 5) rfl rfl) rfl) r_nil) ?_
      exact ⟨rfl, hh.below⟩
    · have h1' : ¬ nR b.d = ⟨false, ByteArray.mk #[], 0⟩ := fun h => h1 ((nR_zero_iff _).1 h)
      have hs : (if (nR b.d).e < (nR a.d).e then (nR b.d).e else (nR a.d).e) = -(lvlP a.d b.d) := by
        revert h0 h1
        cases a.d with
        | zero => intro h; exact absurd rfl h
        | ofOdd n k h =>
          cases b.d with
          | zero => intro _ h; exact absurd rfl h
          | ofOdd m l g =>
            intro _ _
            simp only [nR, lvlP]
            omega
      refine calls_vc (N := 41) (l := [.agg #[.bool a.neg, .string a.mag, .int .i64 a.e], .agg #[.bool b.neg, .string b.mag, .int .i64 b.e]]) Tryz.func61 rfl rfl (by simp) ?_
      refine wc_seq ?_
      refine wc_region ?_
      refine wl_box hh (cs := [_, _, _]) rfl rfl (by decide) ?_
      intro b2 w2 hh
      refine wl_box hh (cs := [_, _, _]) rfl rfl (by decide) ?_
      intro b3 w3 hh
      refine wl_alloc hh TIs.out (by decide) ?_
      intro b4 w4 hh
      refine wl_end ?_
      refine wc_seq ?_
      -- at the drawn region 1
      refine wc_drawn 3 [[(2, none)], [(7, some 0)], [(3, none)]] [(2, 9), (1, 8), (0, 7)] hh mixed (by kernel_rfl) ?_
      refine dx_val (i := 0) (fun ρ1 w1 hj hR => x_load (vs := [_, _, _]) TIs.out (show ρ1 2 = Value.pointer _ from hR.1) (hj.hp.rd_blk_at (i := 2) (n := 3) rfl rfl) rfl) ?_
      refine dx_call (i := 1) (fun ρ1 w1 hj hR => run_callf FnIs.out (evs_cons (show ρ1 7 = Value.agg (List.toArray _) from hR.1) evs_nil)) (fun w1 hj => dForm_calls a _ (hT.hp hj.hp) (by omega) (by omega) (by omega)) ?_
      refine dx_val (i := 2) (fun ρ1 w1 hj hR => x_load (vs := [_, _, _]) TIs.out (show ρ1 3 = Value.pointer _ from hR.1) (hj.hp.rd_blk_at (i := 1) (n := 3) rfl rfl) rfl) ?_
      refine dx_nil ?_
      intro f W hJ hV
      have hb_1 := hJ.bl
      obtain ⟨v9, v8, v7, _⟩ := hV
      simp only [updL]
      have e7 : f 0 = _ := v7
      rw [e7]
      have e8 : f 1 = _ := v8
      rw [e8]
      have e9 : f 2 = _ := v9
      rw [e9]
      replace hh := hJ.hp
      clear e7 e8 e9 hJ
      -- at some 10 := Op.call { callee := Callee.value (Operand.func 20), args := #[Operand.tmp 9], argTypes := 
      refine s_callf (dForm_calls b _ (hT.hp hh) (by omega) (by omega) (by omega)) FnIs.out rfl (by decide) ?_
      rintro e_ w10 ⟨rfl, hb_⟩
      refine ⟨_, rfl, ?_⟩
      replace hh := hh.ext hb_
      refine wl_store hh (i := 2) (vs := [_, _, _]) rfl rfl rfl rfl TIs.out rfl (by simp) rfl ?_
      intro ws hh
      replace hh : Hp _ (_ :: _ :: .blk _ _ [_, _, _] _ :: _) _ := hh
      refine wl_store hh (i := 1) (vs := [_, _, _]) rfl rfl rfl rfl TIs.out rfl (by simp) rfl ?_
      intro ws hh
      replace hh : Hp _ (_ :: .blk _ _ [_, _, _] _ :: _) _ := hh
      refine wl_end ?_
      refine wc_seq ?_
      refine wc_region ?_
      refine s_fieldAddr (off := 2) FIs.out rfl (by decide) ?_
      refine s_load1 TIs.out rfl (hh.cell_blk (i := 2) rfl rfl) (by decide) ?_
      refine s_fieldAddr (off := 2) FIs.out rfl (by decide) ?_
      refine s_load1 TIs.out rfl (hh.cell_blk (i := 1) rfl rfl) (by decide) ?_
      refine s_min rfl rfl (by decide) ?_
      refine s_assign (ev_int rfl) (by decide) ?_
      refine wl_end ?_
      refine wc_seq ?_
      refine wc_block ?_
      refine wc_seq ?_
      refine wc_region ?_
      refine s_load (vs := [_, _, _]) TIs.out rfl (hh.rd_blk_at (i := 2) (n := 3) rfl rfl) rfl (by decide) ?_
      refine s_build (cs := [_, _, _]) TIs.out PIs.out rfl rfl (by decide) ?_
      first | refine s_eqN_t rfl rfl (by first | assumption | rfl) (by decide) ?_ | refine s_eqN_f rfl rfl (by assumption) (by decide) ?_
      refine s_assign (ev_bool rfl) (by decide) ?_
      refine wl_end ?_
      refine wc_cond_f rfl ?_
      refine wc_seq ?_
      refine wc_region ?_
      refine s_load (vs := [_, _, _]) TIs.out rfl (hh.rd_blk_at (i := 1) (n := 3) rfl rfl) rfl (by decide) ?_
      refine s_build (cs := [_, _, _]) TIs.out PIs.out rfl rfl (by decide) ?_
      first | refine s_eqN_t rfl rfl (by first | assumption | rfl) (by decide) ?_ | refine s_eqN_f rfl rfl (by assumption) (by decide) ?_
      refine s_assign (ev_bool rfl) (by decide) ?_
      refine wl_end ?_
      refine wc_cond_f rfl ?_
      refine wc_skip ?_
      refine b_norm ?_
      refine k_then ?_
      refine wc_seq ?_
      refine wc_region ?_
      -- at some 28
      rw [hs]
      refine s_move (ev_int rfl) (by decide) ?_
      refine s_build (cs := [_, _, _, _, _]) TIs.out PIs.out rfl rfl (by decide) ?_
      refine wl_alloc hh TIs.out (by decide) ?_
      intro b6 w6 hh
      refine wl_store hh (i := 0) (vs := [_, _, _, _, _]) rfl rfl rfl rfl TIs.out rfl (by simp) rfl ?_
      intro ws hh
      replace hh : Hp _ (.blk _ _ [_, _, _, _, _] _ :: _) _ := hh
      refine wl_end ?_
      refine wc_seq ?_
      -- at the drawn region 8
      refine wc_drawn 9 [[(6, none)], [(30, some 0)], [(2, none)], [(31, some 1), (32, some 2)], [(6, none)], [(34, some 4)], [(3, none)], [(35, some 5), (36, some 6)], [(6, none)]] [(8, 38), (7, 37), (6, 36), (5, 35), (4, 34), (3, 33), (2, 32), (1, 31), (0, 30)] hh mixed (by kernel_rfl) ?_
      refine dx_val (i := 0) (fun ρ1 w1 hj hR => x_fieldAddr (off := 0) FIs.out (show ρ1 6 = Value.pointer _ from hR.1)) ?_
      refine dx_val (i := 1) (fun ρ1 w1 hj hR => x_load1 TIs.out (show ρ1 30 = Value.pointer _ from hR.1) (hj.hp.cell_blk (i := 0) rfl rfl)) ?_
      refine dx_val (i := 2) (fun ρ1 w1 hj hR => x_load (vs := [_, _, _]) TIs.out (show ρ1 2 = Value.pointer _ from hR.1) (hj.hp.rd_blk_at (i := 3) (n := 3) rfl rfl) rfl) ?_
      refine dx_call (i := 3) (fun ρ1 w1 hj hR => run_callf FnIs.out (evs_cons (show ρ1 31 = Value.int _ _ from hR.1) (evs_cons (show ρ1 32 = Value.agg (List.toArray _) from hR.2.1) evs_nil))) (fun w1 hj => hcx _ (hT.hp hj.hp)) ?_
      refine dx_val (i := 4) (fun ρ1 w1 hj hR => x_fieldAddr (off := 0) FIs.out (show ρ1 6 = Value.pointer _ from hR.1)) ?_
      refine dx_val (i := 5) (fun ρ1 w1 hj hR => x_load1 TIs.out (show ρ1 34 = Value.pointer _ from hR.1) (hj.hp.cell_blk (i := 0) rfl rfl)) ?_
      refine dx_val (i := 6) (fun ρ1 w1 hj hR => x_load (vs := [_, _, _]) TIs.out (show ρ1 3 = Value.pointer _ from hR.1) (hj.hp.rd_blk_at (i := 2) (n := 3) rfl rfl) rfl) ?_
      refine dx_call (i := 7) (fun ρ1 w1 hj hR => run_callf FnIs.out (evs_cons (show ρ1 35 = Value.int _ _ from hR.1) (evs_cons (show ρ1 36 = Value.agg (List.toArray _) from hR.2.1) evs_nil))) (fun w1 hj => hcy _ (hT.hp hj.hp)) ?_
      refine dx_val (i := 8) (fun ρ1 w1 hj hR => x_fieldAddr (off := 1) FIs.out (show ρ1 6 = Value.pointer _ from hR.1)) ?_
      refine dx_nil ?_
      intro f W hJ hV
      have hb_8 := hJ.bl
      obtain ⟨v38, v37, v36, v35, v34, v33, v32, v31, v30, _⟩ := hV
      simp only [updL]
      have e30 : f 0 = _ := v30
      rw [e30]
      have e31 : f 1 = _ := v31
      rw [e31]
      have e32 : f 2 = _ := v32
      rw [e32]
      have e33 : f 3 = _ := v33
      rw [e33]
      have e34 : f 4 = _ := v34
      rw [e34]
      have e35 : f 5 = _ := v35
      rw [e35]
      have e36 : f 6 = _ := v36
      rw [e36]
      have e37 : f 7 = _ := v37
      rw [e37]
      have e38 : f 8 = _ := v38
      rw [e38]
      replace hh := hJ.hp
      clear e30 e31 e32 e33 e34 e35 e36 e37 e38 hJ
      refine wl_store hh (i := 0) (vs := [_, _]) rfl rfl rfl rfl TIs.out rfl (by simp) rfl ?_
      intro ws hh
      replace hh : Hp _ (.blk _ _ [_, _, _, _, _] _ :: _) _ := hh
      refine s_fieldAddr (off := 3) FIs.out rfl (by decide) ?_
      refine wl_store hh (i := 0) (vs := [_, _]) rfl rfl rfl rfl TIs.out rfl (by simp) rfl ?_
      intro ws hh
      replace hh : Hp _ (.blk _ _ [_, _, _, _, _] _ :: _) _ := hh
      refine wl_end ?_
      refine wc_seq ?_
      refine wc_region ?_
      refine s_load (vs := [_, _, _, _, _]) TIs.out rfl (hh.rd_blk_at (i := 0) (n := 5) rfl rfl) rfl (by decide) ?_
      refine wl_store hh (i := 1) (vs := [_, _, _, _, _]) rfl rfl rfl rfl TIs.out rfl (by simp) rfl ?_
      intro ws hh
      replace hh : Hp _ (_ :: .blk _ _ [_, _, _, _, _] _ :: _) _ := hh
      refine wl_end ?_
      refine wc_ret ?_
      -- at ('end', 'ret')
      refine retc1 (by first | exact .inr rfl | exact .inl rfl) rfl (r_cell rfl (lv_agg (vs := [_, _, _, _, _]) TIs.out (hh.rd_blk_at (i := 1) (n := 5) rfl rfl) rfl) r_nil) ?_
      exact ⟨rfl, hh.below⟩
end Go.Proofs.YthmmofllajkejaaGreatDoor
