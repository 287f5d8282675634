/- Several texts in one: Dyad, DyadB, DyadC, CmpD. -/
import Derived.Test.YthmmofllajkejaaGreatDoorShD
import Derived.Test.YthmmofllajkejaaGreatDoorWhol
/- The walks through the program's dyadic numbers (dyad). -/
namespace Go.Proofs.YthmmofllajkejaaGreatDoor
open Go.RowKit
-- umode
theorem part1 {P : Program} {t : TypeId} {n by' : Nat} {zc : List Value} {cs : Array Value} {off : Nat} {v : Value} (ht : tinfo P t = some (n, false, by', zc)) (hv : cs[off]? = some v) (w : World) : (part t cs off).run P w = .ok v w := by
  simp [part, run_isAgg' ht, hv]
theorem partN {P : Program} {t : TypeId} {n by' : Nat} {zc : List Value} {cs vs : Array Value} {off : Nat} (ht : tinfo P t = some (n, true, by', zc)) (hv : cs.extract off (off + n) = vs) (w : World) : (part t cs off).run P w = .ok (.agg vs) w := by
  simp [part, run_isAgg' ht, run_sizeOf' ht, hv]
theorem eq_b (n : Nat) (a b : Bool) (w : World) : (Op.equalIn (n + 1) 4 (.bool a) (.bool b)).run Tryz.prog w = .ok (a == b) w := by
  simp [Op.equalIn, run_underlying Tryz.underlying4]
theorem eq_s (n : Nat) (a b : ByteArray) (w : World) : (Op.equalIn (n + 1) 9 (.string a) (.string b)).run Tryz.prog w = .ok (a == b) w := by
  simp [Op.equalIn, run_underlying Tryz.underlying9]
theorem eq_i (n : Nat) (a b : Int) (w : World) : (Op.equalIn (n + 1) 3 (.int .i64 a) (.int .i64 b)).run Tryz.prog w = .ok (a == b) w := by
  simp [Op.equalIn, run_underlying Tryz.underlying3]
theorem eq_int (n : Nat) (s s' : Bool) (a a' : ByteArray) (w : World) : (Op.equalIn (n + 2) 23 (.agg #[.bool s, .string a]) (.agg #[.bool s', .string a'])).run Tryz.prog w = .ok (s == s' && a == a') w := by
  have h1 := fun (x : Bool) (y : ByteArray) => part1 (P := Tryz.prog) (cs := #[.bool x, .string y]) (off := 0) (TIs.out (P := Tryz.prog) (t := 4)) rfl
  have h2 := fun (x : Bool) (y : ByteArray) => part1 (P := Tryz.prog) (cs := #[.bool x, .string y]) (off := 1) (TIs.out (P := Tryz.prog) (t := 9)) rfl
  rw [Op.equalIn]
  simp [run_underlying Tryz.underlying23, h1, h2, eq_b, eq_s]
  cases h : s == s' <;> cases h' : a == a' <;> simp_all
theorem eq_num (n : Nat) (s s' : Bool) (a a' : ByteArray) (e e' : Int) (w : World) : (Op.equalIn (n + 3) 25 (.agg #[.bool s, .string a, .int .i64 e]) (.agg #[.bool s', .string a', .int .i64 e'])).run Tryz.prog w = .ok ((s == s' && a == a') && e == e') w := by
  have h1 := fun (x : Bool) (y : ByteArray) (z : Int) => partN (P := Tryz.prog) (cs := #[.bool x, .string y, .int .i64 z]) (vs := #[.bool x, .string y]) (off := 0) (TIs.out (P := Tryz.prog) (t := 23)) rfl
  have h2 := fun (x : Bool) (y : ByteArray) (z : Int) => part1 (P := Tryz.prog) (cs := #[.bool x, .string y, .int .i64 z]) (off := 2) (TIs.out (P := Tryz.prog) (t := 3)) rfl
  rw [Op.equalIn]
  simp [run_underlying Tryz.underlying25, h1, h2, eq_int, eq_i]
  cases h : s == s' <;> cases h' : a == a' <;> cases h2 : e == e' <;> simp_all
section
variable {ρ : Rf} {w : World} {d : Option Nat} {ty u : TypeId} {pos : String} {af : Array Edge} {g : Option (Nat × Bool)} {x y : Operand} {s s' : Bool} {a a' : ByteArray} {e e' : Int}
theorem beq_ba {a b : ByteArray} : (a == b) = true ↔ a = b := by
  have : (a == b) = (a.data == b.data) := rfl
  rw [this, beq_iff_eq]
  exact ⟨fun h => by cases a; cases b; simp_all, fun h => by rw [h]⟩
theorem eqb_num : ((s == s' && a == a') && e == e') = true ↔ NR.mk s a e = NR.mk s' a' e' := by
  rw [Bool.and_eq_true, Bool.and_eq_true, beq_iff_eq, beq_ba, beq_iff_eq, NR.mk.injEq, and_assoc]
theorem x_eqN {r : Bool} (hx : ev ρ x = .agg #[.bool s, .string a, .int .i64 e]) (hy : ev ρ y = .agg #[.bool s', .string a', .int .i64 e']) (hr : ((s == s' && a == a') && e == e') = r) :
    (execOp (ev ρ) ⟨d, .binOp .eql 25 x y u, ty, pos, af, g⟩).run Tryz.prog w = .ok (.value (.bool r)) w := by
  have h1 : (Op.equal 25 (.agg #[.bool s, .string a, .int .i64 e]) (.agg #[.bool s', .string a', .int .i64 e'])).run Tryz.prog w = .ok r w := by rw [← hr]; exact eq_num 9997 s s' a a' e e' w
  simp only [execOp, hx, hy]
  simp [eqGuard, binOp, h1]
theorem x_neN {r : Bool} (hx : ev ρ x = .agg #[.bool s, .string a, .int .i64 e]) (hy : ev ρ y = .agg #[.bool s', .string a', .int .i64 e']) (hr : ((s == s' && a == a') && e == e') = r) :
    (execOp (ev ρ) ⟨d, .binOp .neq 25 x y u, ty, pos, af, g⟩).run Tryz.prog w = .ok (.value (.bool !r)) w := by
  have h1 : (Op.equal 25 (.agg #[.bool s, .string a, .int .i64 e]) (.agg #[.bool s', .string a', .int .i64 e'])).run Tryz.prog w = .ok r w := by rw [← hr]; exact eq_num 9997 s s' a a' e e' w
  simp only [execOp, hx, hy]
  simp [eqGuard, binOp, h1]
theorem x_eqN_t (hx : ev ρ x = .agg #[.bool s, .string a, .int .i64 e]) (hy : ev ρ y = .agg #[.bool s', .string a', .int .i64 e']) (h : NR.mk s a e = NR.mk s' a' e') :
    (execOp (ev ρ) ⟨d, .binOp .eql 25 x y u, ty, pos, af, g⟩).run Tryz.prog w = .ok (.value (.bool true)) w := x_eqN hx hy (eqb_num.2 h)
theorem x_eqN_f (hx : ev ρ x = .agg #[.bool s, .string a, .int .i64 e]) (hy : ev ρ y = .agg #[.bool s', .string a', .int .i64 e']) (h : ¬ NR.mk s a e = NR.mk s' a' e') :
    (execOp (ev ρ) ⟨d, .binOp .eql 25 x y u, ty, pos, af, g⟩).run Tryz.prog w = .ok (.value (.bool false)) w := x_eqN hx hy (by rw [Bool.eq_false_iff]; exact fun h1 => h (eqb_num.1 h1))
theorem x_neN_f (hx : ev ρ x = .agg #[.bool s, .string a, .int .i64 e]) (hy : ev ρ y = .agg #[.bool s', .string a', .int .i64 e']) (h : NR.mk s a e = NR.mk s' a' e') :
    (execOp (ev ρ) ⟨d, .binOp .neq 25 x y u, ty, pos, af, g⟩).run Tryz.prog w = .ok (.value (.bool false)) w := x_neN hx hy (eqb_num.2 h)
theorem x_neN_t (hx : ev ρ x = .agg #[.bool s, .string a, .int .i64 e]) (hy : ev ρ y = .agg #[.bool s', .string a', .int .i64 e']) (h : ¬ NR.mk s a e = NR.mk s' a' e') :
    (execOp (ev ρ) ⟨d, .binOp .neq 25 x y u, ty, pos, af, g⟩).run Tryz.prog w = .ok (.value (.bool true)) w := x_neN hx hy (r := false) (by rw [Bool.eq_false_iff]; exact fun h1 => h (eqb_num.1 h1))
end
section
variable {N : Nat} {ops : Array Oper} {Q : Kq} {ρ : Rf} {w : World} {rest : List Oper} {d : Nat} {ty u : TypeId} {pos : String} {af : Array Edge} {x y : Operand} {s s' : Bool} {a a' : ByteArray} {e e' : Int}
theorem s_eqN_t (hx : ev ρ x = .agg #[.bool s, .string a, .int .i64 e]) (hy : ev ρ y = .agg #[.bool s', .string a', .int .i64 e']) (h : NR.mk s a e = NR.mk s' a' e') (hN : d < N) (kk : WL Tryz.prog N ops Q rest (upd ρ d (.bool true)) w) :
    WL Tryz.prog N ops Q (⟨some d, .binOp .eql 25 x y u, ty, pos, af, none⟩ :: rest) ρ w := wl_val rfl rfl hN (x_eqN_t hx hy h) kk
theorem s_eqN_f (hx : ev ρ x = .agg #[.bool s, .string a, .int .i64 e]) (hy : ev ρ y = .agg #[.bool s', .string a', .int .i64 e']) (h : ¬ NR.mk s a e = NR.mk s' a' e') (hN : d < N) (kk : WL Tryz.prog N ops Q rest (upd ρ d (.bool false)) w) :
    WL Tryz.prog N ops Q (⟨some d, .binOp .eql 25 x y u, ty, pos, af, none⟩ :: rest) ρ w := wl_val rfl rfl hN (x_eqN_f hx hy h) kk
theorem s_neN_t (hx : ev ρ x = .agg #[.bool s, .string a, .int .i64 e]) (hy : ev ρ y = .agg #[.bool s', .string a', .int .i64 e']) (h : ¬ NR.mk s a e = NR.mk s' a' e') (hN : d < N) (kk : WL Tryz.prog N ops Q rest (upd ρ d (.bool true)) w) :
    WL Tryz.prog N ops Q (⟨some d, .binOp .neq 25 x y u, ty, pos, af, none⟩ :: rest) ρ w := wl_val rfl rfl hN (x_neN_t hx hy h) kk
theorem s_neN_f (hx : ev ρ x = .agg #[.bool s, .string a, .int .i64 e]) (hy : ev ρ y = .agg #[.bool s', .string a', .int .i64 e']) (h : NR.mk s a e = NR.mk s' a' e') (hN : d < N) (kk : WL Tryz.prog N ops Q rest (upd ρ d (.bool false)) w) :
    WL Tryz.prog N ops Q (⟨some d, .binOp .neq 25 x y u, ty, pos, af, none⟩ :: rest) ρ w := wl_val rfl rfl hN (x_neN_f hx hy h) kk
end
theorem wShift_calls (s : Bool) (a : ByteArray) (n : Int) (w : World) (hT : Tab w) (ha : a.size ≤ 100000000) (h1 : -1000000000 ≤ n) (h2 : n ≤ 1000000000) :
    Calls Tryz.prog 110 #[.agg #[.bool s, .string a], .int .i64 n] w fun e w' => e = .returned (.agg #[.bool (iN (shI (iv s a) n)), .string (iM (shI (iv s a) n))]) ∧ Below w.heap.size w w' := by
  unfold shI
  by_cases h : 0 ≤ n
  · rw [if_pos h]
    obtain ⟨m, rfl⟩ := Int.eq_ofNat_of_zero_le h
    rw [Int.toNat_natCast]
    exact wShl_calls s a m w ha (by omega)
  · rw [if_neg h]
    obtain ⟨m, hm⟩ := Int.eq_ofNat_of_zero_le (show 0 ≤ -n by omega)
    rw [hm, Int.toNat_natCast, show n = -(m : Int) by omega]
    exact wShr_calls s a m w hT ha (by omega) (by omega)
theorem dMake_calls (s : Bool) (a : ByteArray) (e : Int) (w : World) (hT : Tab w) (ha : a.size ≤ 100000000) (h1 : -1000000000000 ≤ e) (h2 : e ≤ 1000000000000) :
    Calls Tryz.prog 54 #[.agg #[.bool s, .string a], .int .i64 e] w fun r w' => r = .returned (.agg #[.bool (nR (Dyadic.ofIntWithPrec (iv s a) (-e))).neg, .string (nR (Dyadic.ofIntWithPrec (iv s a) (-e))).mag, .int .i64 (nR (Dyadic.ofIntWithPrec (iv s a) (-e))).e]) ∧ Below w.heap.size w w' := by
  have hh := Hp.start w
  by_cases h0 : iv s a = 0
  · rw [h0, owp_zero, nR_zero]
    refine calls_vc (N := 21) (l := [.agg #[.bool s, .string a], .int .i64 e]) Tryz.func54 rfl rfl (by simp) ?_
    refine sr ?_
    refine bxC hh [_,_] ?_
    intro b2 w2 hh
    refine alC hh ?_
    intro b4 w4 hh
    refine wl_end (wc_seq (sr ?_))
    refine lgC hh 1 [_,_] ?_
    refine s_callf (wsign_calls s a _) FnIs.out rfl (by decide) ?_
    rintro e_ w7 ⟨rfl, hb_⟩
    refine ⟨_, rfl, ?_⟩
    replace hh := hh.ext hb_
    rw [h0]
    refine eqlC (wl_end (cT (sr ?_)))
    refine bdC [_,_,_] ?_
    refine stC hh 0 [_,_,_] ?_
    intro ws hh
    replace hh : Hp _ (.blk _ _ [_, _, _] _ :: _) _ := hh
    refine wl_end (wc_ret (k_ret ?_))
    refine retc1 (by first | exact .inr rfl | exact .inl rfl) rfl (r_cell rfl (lv_agg (vs := [_, _, _]) TIs.out (hh.rd_blk_at (i := 0) (n := 3) rfl rfl) rfl) r_nil) ?_
    exact ⟨rfl, hh.below⟩
  · have hs : (iv s a).sign ≠ 0 := by rw [ne_eq, Int.sign_eq_zero_iff_zero]; exact h0
    rw [make_spec h0]
    have hz : bN a ≠ 0 := fun h => h0 ((iv_zero s a).2 h)
    have htz : tz (bN a) < 8 * a.size + 1 := by
      have := bN_lt a
      rw [show (256 : Nat) = 2 ^ 8 from rfl, ← Nat.pow_mul] at this
      have := tz_lt hz this
      omega
    have hsh : shI (iv s a) (-(tz (bN a) : Int)) = iv s a / 2 ^ tz (bN a) := by
      unfold shI
      split
      · have : tz (bN a) = 0 := by omega
        rw [this]; simp
      · rw [Int.neg_neg, Int.toNat_natCast]
    refine calls_vc (N := 21) (l := [.agg #[.bool s, .string a], .int .i64 e]) Tryz.func54 rfl rfl (by simp) ?_
    refine sr ?_
    refine bxC hh [_,_] ?_
    intro b2 w2 hh
    refine alC hh ?_
    intro b4 w4 hh
    refine wl_end (wc_seq (sr ?_))
    refine lgC hh 1 [_,_] ?_
    refine s_callf (wsign_calls s a _) FnIs.out rfl (by decide) ?_
    rintro e_ w7 ⟨rfl, hb_⟩
    refine ⟨_, rfl, ?_⟩
    replace hh := hh.ext hb_
    refine eqlC (wl_end (cF (wc_skip (k_then (sr (faC ?_))))))
    refine l1C hh 1 ?_
    refine s_callf (natZeros_calls a _ (by omega) (hT.hp hh)) FnIs.out rfl (by decide) ?_
    rintro e_ w12 ⟨rfl, hb_⟩
    refine ⟨_, rfl, ?_⟩
    replace hh := hh.ext hb_
    refine aI (wl_end (sr ?_))
    refine lgC hh 1 [_,_] (mI ?_)
    refine s_negi rfl (by omega) (by omega) (by decide) ?_
    refine s_callf (wShift_calls s a (-(tz (bN a) : Int)) _ (hT.hp hh) ha (by omega) (by omega)) FnIs.out rfl (by decide) ?_
    rintro e_ w16 ⟨rfl, hb_⟩
    refine ⟨_, rfl, ?_⟩
    replace hh := hh.ext hb_
    rw [hsh]
    refine mI (mI ?_)
    refine addC ?_
    refine bdC [_,_,_] ?_
    refine stC hh 0 [_,_,_] ?_
    intro ws hh
    replace hh : Hp _ (.blk _ _ [_, _, _] _ :: _) _ := hh
    refine wl_end (wc_ret ?_)
    refine retc1 (by first | exact .inr rfl | exact .inl rfl) rfl (r_cell rfl (lv_agg (vs := [_, _, _]) TIs.out (hh.rd_blk_at (i := 0) (n := 3) rfl rfl) rfl) r_nil) ?_
    exact ⟨rfl, hh.below⟩
/-- Within the bounds in which nothing overflows. -/
def NR.ok (a : NR) : Prop := a.mag.size ≤ 1000000 ∧ -10000000 ≤ a.e ∧ a.e ≤ 10000000
theorem Sz.ok {k : Nat} {x : Dyadic} (h : Sz k x) (hk : k ≤ 3999990) : (nR x).ok := by
  have := h.nr
  refine ⟨by omega, by omega, by omega⟩
theorem dOf_calls (n : Int) (w : World) (hT : Tab w) (h1 : -9223372036854775808 ≤ n) (h2 : n ≤ 9223372036854775807) :
    Calls Tryz.prog 52 #[.int .i64 n] w fun r w' => r = .returned (.agg #[.bool (nR (n : Dyadic)).neg, .string (nR (n : Dyadic)).mag, .int .i64 (nR (n : Dyadic)).e]) ∧ Below w.heap.size w w' := by
  have hh := Hp.start w
  have hsz : (iM n).size ≤ 100000000 := by
    rw [iM_size]
    have : blen n.natAbs ≤ 64 := blen_le (by omega)
    omega
  have hc : ∀ w1, Tab w1 → Calls Tryz.prog 54 #[.agg #[.bool (iN n), .string (iM n)], .int .i64 0] w1 fun r w' => r = .returned (.agg #[.bool (nR (n : Dyadic)).neg, .string (nR (n : Dyadic)).mag, .int .i64 (nR (n : Dyadic)).e]) ∧ Below w1.heap.size w1 w' := fun w1 hT1 => by
    have := dMake_calls (iN n) (iM n) 0 w1 hT1 hsz (by omega) (by omega)
    rw [iv_of] at this
    exact this
  refine calls_vc (N := 6) (l := [.int .i64 n]) Tryz.func52 rfl rfl (by simp) ?_
  refine sr ?_
  refine alC hh ?_
  intro b2 w2 hh
  refine wl_end (sr (mI ?_))
  refine s_callf (wOf_calls n _ h1 h2) FnIs.out rfl (by decide) ?_
  rintro e_ w4 ⟨rfl, hb_⟩
  refine ⟨_, rfl, ?_⟩
  replace hh := hh.ext hb_
  refine s_callf (hc _ (hT.hp hh)) FnIs.out rfl (by decide) ?_
  rintro e_ w5 ⟨rfl, hb_⟩
  refine ⟨_, rfl, ?_⟩
  replace hh := hh.ext hb_
  refine stC hh 0 [_,_,_] ?_
  intro ws hh
  replace hh : Hp _ (.blk _ _ [_, _, _] _ :: _) _ := hh
  refine wl_end (wc_ret ?_)
  refine retc1 (by first | exact .inr rfl | exact .inl rfl) rfl (r_cell rfl (lv_agg (vs := [_, _, _]) TIs.out (hh.rd_blk_at (i := 0) (n := 3) rfl rfl) rfl) r_nil) ?_
  exact ⟨rfl, hh.below⟩
theorem dForm_calls (a : NR) (w : World) (hT : Tab w) (ha : a.mag.size ≤ 100000000) (h1 : -1000000000000 ≤ a.e) (h2 : a.e ≤ 1000000000000) :
    Calls Tryz.prog 20 #[.agg #[.bool a.neg, .string a.mag, .int .i64 a.e]] w fun r w' => r = .returned (.agg #[.bool (nR a.d).neg, .string (nR a.d).mag, .int .i64 (nR a.d).e]) ∧ Below w.heap.size w w' := by
  have hh := Hp.start w
  refine calls_vc (N := 8) (l := [.agg #[.bool a.neg, .string a.mag, .int .i64 a.e]]) Tryz.func20 rfl rfl (by simp) ?_
  refine sr ?_
  refine bxC hh [_,_,_] ?_
  intro b1 w1 hh
  refine alC hh ?_
  intro b2 w2 hh
  refine wl_end (sr (faC ?_))
  refine lgC hh 1 [_,_] (faC ?_)
  refine l1C hh 1 ?_
  refine s_callf (dMake_calls a.neg a.mag a.e _ (hT.hp hh) ha h1 h2) FnIs.out rfl (by decide) ?_
  rintro e_ w7 ⟨rfl, hb_⟩
  refine ⟨_, rfl, ?_⟩
  replace hh := hh.ext hb_
  refine stC hh 0 [_,_,_] ?_
  intro ws hh
  replace hh : Hp _ (.blk _ _ [_, _, _] _ :: _) _ := hh
  refine wl_end (wc_ret ?_)
  refine retc1 (by first | exact .inr rfl | exact .inl rfl) rfl (r_cell rfl (lv_agg (vs := [_, _, _]) TIs.out (hh.rd_blk_at (i := 0) (n := 3) rfl rfl) rfl) r_nil) ?_
  exact ⟨rfl, hh.below⟩
theorem dSign_calls (a : NR) (w : World) :
    Calls Tryz.prog 19 #[.agg #[.bool a.neg, .string a.mag, .int .i64 a.e]] w fun r w' => r = .returned (.int .i64 a.i.sign) ∧ Below w.heap.size w w' := by
  have hh := Hp.start w
  refine calls_vc (N := 6) (l := [.agg #[.bool a.neg, .string a.mag, .int .i64 a.e]]) Tryz.func19 rfl rfl (by simp) ?_
  refine sr ?_
  refine bxC hh [_,_,_] ?_
  intro b1 w1 hh
  refine aI (wl_end (sr (faC ?_)))
  refine lgC hh 0 [_,_] ?_
  refine s_callf (wsign_calls a.neg a.mag _) FnIs.out rfl (by decide) ?_
  rintro e_ w5 ⟨rfl, hb_⟩
  refine ⟨_, rfl, ?_⟩
  replace hh := hh.ext hb_
  refine aI (wl_end (wc_ret ?_))
  refine ret1 (by first | exact .inr rfl | exact .inl rfl) rfl (v_int rfl) ?_
  exact ⟨rfl, hh.below⟩
theorem dNeg_calls (a : NR) (w : World) (hT : Tab w) (ha : a.mag.size ≤ 100000000) (h1 : -1000000000000 ≤ a.e) (h2 : a.e ≤ 1000000000000) :
    Calls Tryz.prog 69 #[.agg #[.bool a.neg, .string a.mag, .int .i64 a.e]] w fun r w' => r = .returned (.agg #[.bool (nR (-a.d)).neg, .string (nR (-a.d)).mag, .int .i64 (nR (-a.d)).e]) ∧ Below w.heap.size w w' := by
  have hh := Hp.start w
  have hc : ∀ w1, Tab w1 → Calls Tryz.prog 54 #[.agg #[.bool (iN (-(iv a.neg a.mag))), .string (iM (-(iv a.neg a.mag)))], .int .i64 a.e] w1 fun r w' => r = .returned (.agg #[.bool (nR (-a.d)).neg, .string (nR (-a.d)).mag, .int .i64 (nR (-a.d)).e]) ∧ Below w1.heap.size w1 w' := fun w1 hT1 => by
    have hs := iM_neg_size a.neg a.mag
    have := dMake_calls (iN (-(iv a.neg a.mag))) (iM (-(iv a.neg a.mag))) a.e w1 hT1 (by omega) h1 h2
    rw [iv_of, ← owp_neg] at this
    exact this
  refine calls_vc (N := 9) (l := [.agg #[.bool a.neg, .string a.mag, .int .i64 a.e]]) Tryz.func69 rfl rfl (by simp) ?_
  refine sr ?_
  refine bxC hh [_,_,_] ?_
  intro b1 w1 hh
  refine alC hh ?_
  intro b2 w2 hh
  refine wl_end (wc_seq ?_)
  refine wc_drawn 5 [[(1, none)], [(3, some 0)], [(4, some 1)], [(1, none)], [(6, some 3)]] [(4, 7), (3, 6), (2, 5), (1, 4), (0, 3)] hh mixed (by kernel_rfl) ?_
  refine dfa ?_
  refine dlg 1 [_,_] ?_
  refine dC (fun _ hj => wneg_calls a.neg a.mag _) ?_
  refine dfa ?_
  refine dl1 1 ?_
  refine dx_nil ?_
  intro f W hJ hV
  have hb_1 := hJ.bl
  obtain ⟨v7, v6, v5, v4, v3, _⟩ := hV
  replace hh := hJ.hp
  refine wl_cast (updL_K (eql_cons v7 (eql_cons v6 (eql_cons v5 (eql_cons v4 (eql_cons v3 eql_nil)))))) ?_
  dsimp only [updK]
  clear hJ
  refine s_callf (hc _ (hT.hp hh)) FnIs.out rfl (by decide) ?_
  rintro e_ w8 ⟨rfl, hb_⟩
  refine ⟨_, rfl, ?_⟩
  replace hh := hh.ext hb_
  refine stC hh 0 [_,_,_] ?_
  intro ws hh
  replace hh : Hp _ (.blk _ _ [_, _, _] _ :: _) _ := hh
  refine wl_end (wc_ret ?_)
  refine retc1 (by first | exact .inr rfl | exact .inl rfl) rfl (r_cell rfl (lv_agg (vs := [_, _, _]) TIs.out (hh.rd_blk_at (i := 0) (n := 3) rfl rfl) rfl) r_nil) ?_
  exact ⟨rfl, hh.below⟩
theorem don_calls (s : Int) (a : NR) (w : World) (hT : Tab w) (ha : a.mag.size ≤ 100000000) (h1 : -1000000000 ≤ a.e - s) (h2 : a.e - s ≤ 1000000000) :
    Calls Tryz.prog 113 #[.int .i64 s, .agg #[.bool a.neg, .string a.mag, .int .i64 a.e]] w fun r w' => r = .returned (.agg #[.bool (iN (shI a.i (a.e - s))), .string (iM (shI a.i (a.e - s)))]) ∧ Below w.heap.size w w' := by
  have hh := Hp.start w
  refine calls_vc (N := 12) (l := [.int .i64 s, .agg #[.bool a.neg, .string a.mag, .int .i64 a.e]]) Tryz.func113 rfl rfl (by simp) ?_
  refine sr ?_
  refine bxC hh [_,_,_] ?_
  intro b3 w3 hh
  refine alC hh ?_
  intro b4 w4 hh
  refine wl_end (sr (faC ?_))
  refine lgC hh 1 [_,_] (faC ?_)
  refine l1C hh 1 ?_
  refine mI ?_
  refine subC ?_
  refine s_callf (wShift_calls a.neg a.mag (a.e - s) _ (hT.hp hh) ha h1 h2) FnIs.out rfl (by decide) ?_
  rintro e_ w11 ⟨rfl, hb_⟩
  refine ⟨_, rfl, ?_⟩
  replace hh := hh.ext hb_
  refine stC hh 0 [_,_] ?_
  intro ws hh
  replace hh : Hp _ (.blk _ _ [_, _] _ :: _) _ := hh
  refine wl_end (wc_ret ?_)
  refine retc1 (by first | exact .inr rfl | exact .inl rfl) rfl (r_cell rfl (lv_agg (vs := [_, _]) TIs.out (hh.rd_blk_at (i := 0) (n := 2) rfl rfl) rfl) r_nil) ?_
  exact ⟨rfl, hh.below⟩
theorem nR_i_shift (x : Dyadic) (p : Int) : shI (nR x).i ((nR x).e - -p) = intAt x p := by
  cases x with
  | zero => exact shI_zero _
  | ofOdd n k h =>
    simp only [nR, NR.i, iv_of, intAt]
    congr 1
    omega
theorem nR_zero_iff (x : Dyadic) : nR x = ⟨false, ByteArray.mk #[], 0⟩ ↔ x = 0 := by rw [← nR_zero, nR_inj]
theorem raw_form {a : NR} (h : a.ok) : Sz 18000000 a.d ∧ (nR a.d).mag.size ≤ 1000000 ∧ -18000000 ≤ (nR a.d).e ∧ (nR a.d).e ≤ 18000000 := by
  obtain ⟨h1, h2, h3⟩ := h
  refine ⟨Sz.raw (m := 8000000) (E := 10000000) (by omega) (by omega) (by omega), ?_⟩
  by_cases h0 : iv a.neg a.mag = 0
  · rw [NR.d, NR.i, h0, owp_zero, nR_zero]
    exact ⟨Nat.zero_le _, by simp, by simp⟩
  · rw [NR.d, NR.i, make_spec h0]
    have hz : bN a.mag ≠ 0 := fun h => h0 ((iv_zero a.neg a.mag).2 h)
    have htz : tz (bN a.mag) < 8 * a.mag.size + 1 := by
      have := bN_lt a.mag
      rw [show (256 : Nat) = 2 ^ 8 from rfl, ← Nat.pow_mul] at this
      have := tz_lt hz this
      omega
    have hb : blen (iv a.neg a.mag / 2 ^ tz (bN a.mag)).natAbs ≤ 8 * a.mag.size := by
      apply blen_le
      refine Nat.lt_of_le_of_lt (Int.natAbs_ediv_le_natAbs _ _) ?_
      rw [iv_abs]
      exact Nat.lt_of_lt_of_le (lt_blen _) (Nat.pow_le_pow_right (by omega) (bN_blen _))
    simp only
    rw [iM_size]
    refine ⟨by omega, by omega, by omega⟩
theorem dlevel_calls (a b : NR) (w : World) (hT : Tab w) (ha : a.ok) (hb : b.ok) :
    Calls Tryz.prog 61 #[.agg #[.bool a.neg, .string a.mag, .int .i64 a.e], .agg #[.bool b.neg, .string b.mag, .int .i64 b.e]] w fun r w' => r = .returned (.agg #[.int .i64 (-(lvlP a.d b.d)), .bool (iN (intAt a.d (lvlP a.d b.d))), .string (iM (intAt a.d (lvlP a.d b.d))), .bool (iN (intAt b.d (lvlP a.d b.d))), .string (iM (intAt b.d (lvlP a.d b.d)))]) ∧ Below w.heap.size w w' := by
  have hh := Hp.start w
  obtain ⟨ha1, ha2, ha3⟩ := ha
  obtain ⟨hb1, hb2, hb3⟩ := hb
  obtain ⟨_, fa1, fa2, fa3⟩ := raw_form (a := a) ⟨ha1, ha2, ha3⟩
  obtain ⟨_, fb1, fb2, fb3⟩ := raw_form (a := b) ⟨hb1, hb2, hb3⟩
  have hP := lvlP_bd a.d b.d 18000000 (by omega) (by omega)
  have hcx := fun w1 hT1 => don_calls (-(lvlP a.d b.d)) (nR a.d) w1 hT1 (by omega) (by omega) (by omega)
  have hcy := fun w1 hT1 => don_calls (-(lvlP a.d b.d)) (nR b.d) w1 hT1 (by omega) (by omega) (by omega)
  rw [nR_i_shift] at hcx hcy
  by_cases h0 : a.d = 0
  · have h0' := (nR_zero_iff a.d).2 h0
    have hs : (nR b.d).e = -(lvlP a.d b.d) := by
      rw [h0]
      cases b.d with
      | zero => rfl
      | ofOdd n k h => rfl
    refine calls_vc (N := 41) (l := [.agg #[.bool a.neg, .string a.mag, .int .i64 a.e], .agg #[.bool b.neg, .string b.mag, .int .i64 b.e]]) Tryz.func61 rfl rfl (by simp) ?_
    refine sr ?_
    refine bxC hh [_,_,_] ?_
    intro b2 w2 hh
    refine bxC hh [_,_,_] ?_
    intro b3 w3 hh
    refine alC hh ?_
    intro b4 w4 hh
    refine wl_end (wc_seq ?_)
    refine wc_drawn 3 [[(2, none)], [(7, some 0)], [(3, none)]] [(2, 9), (1, 8), (0, 7)] hh mixed (by kernel_rfl) ?_
    refine dlg 2 [_,_,_] ?_
    refine dC (fun _ hj => dForm_calls a _ (hT.hp hj.hp) (by omega) (by omega) (by omega)) ?_
    refine dlg 1 [_,_,_] ?_
    refine dx_nil ?_
    intro f W hJ hV
    have hb_1 := hJ.bl
    obtain ⟨v9, v8, v7, _⟩ := hV
    replace hh := hJ.hp
    refine wl_cast (updL_K (eql_cons v9 (eql_cons v8 (eql_cons v7 eql_nil)))) ?_
    dsimp only [updK]
    clear hJ
    refine s_callf (dForm_calls b _ (hT.hp hh) (by omega) (by omega) (by omega)) FnIs.out rfl (by decide) ?_
    rintro e_ w10 ⟨rfl, hb_⟩
    refine ⟨_, rfl, ?_⟩
    replace hh := hh.ext hb_
    refine stC hh 2 [_,_,_] ?_
    intro ws hh
    replace hh : Hp _ (_ :: _ :: .blk _ _ [_, _, _] _ :: _) _ := hh
    refine stC hh 1 [_,_,_] ?_
    intro ws hh
    replace hh : Hp _ (_ :: .blk _ _ [_, _, _] _ :: _) _ := hh
    refine wl_end (sr (faC ?_))
    refine l1C hh 2 ?_
    refine faC ?_
    refine l1C hh 1 ?_
    refine s_min rfl rfl (by decide) ?_
    refine aI (wl_end (wc_seq (wc_block (sr ?_))))
    refine lgC hh 2 [_,_,_] ?_
    refine bdC [_,_,_] ?_
    first | refine s_eqN_t rfl rfl (by first | assumption | rfl) (by decide) ?_ | refine s_eqN_f rfl rfl (by assumption) (by decide) ?_
    refine aB (wl_end (cT (wc_region (faC ?_))))
    refine l1C hh 1 ?_
    refine aI (wl_nil (b_norm (k_then (sr ?_))))
    rw [hs]
    refine mI ?_
    refine bdC [_,_,_,_,_] ?_
    refine alC hh ?_
    intro b6 w6 hh
    refine stC hh 0 [_,_,_,_,_] ?_
    intro ws hh
    replace hh : Hp _ (.blk _ _ [_, _, _, _, _] _ :: _) _ := hh
    refine wl_end (wc_seq ?_)
    refine wc_drawn 9 [[(6, none)], [(30, some 0)], [(2, none)], [(31, some 1), (32, some 2)], [(6, none)], [(34, some 4)], [(3, none)], [(35, some 5), (36, some 6)], [(6, none)]] [(8, 38), (7, 37), (6, 36), (5, 35), (4, 34), (3, 33), (2, 32), (1, 31), (0, 30)] hh mixed (by kernel_rfl) ?_
    refine dfa ?_
    refine dl1 0 ?_
    refine dlg 3 [_,_,_] ?_
    refine dC (fun _ hj => hcx _ (hT.hp hj.hp)) ?_
    refine dfa ?_
    refine dl1 0 ?_
    refine dlg 2 [_,_,_] ?_
    refine dC (fun _ hj => hcy _ (hT.hp hj.hp)) ?_
    refine dfa ?_
    refine dx_nil ?_
    intro f W hJ hV
    have hb_8 := hJ.bl
    obtain ⟨v38, v37, v36, v35, v34, v33, v32, v31, v30, _⟩ := hV
    replace hh := hJ.hp
    refine wl_cast (updL_K (eql_cons v38 (eql_cons v37 (eql_cons v36 (eql_cons v35 (eql_cons v34 (eql_cons v33 (eql_cons v32 (eql_cons v31 (eql_cons v30 eql_nil)))))))))) ?_
    dsimp only [updK]
    clear hJ
    refine stC hh 0 [_,_] ?_
    intro ws hh
    replace hh : Hp _ (.blk _ _ [_, _, _, _, _] _ :: _) _ := hh
    refine faC ?_
    refine stC hh 0 [_,_] ?_
    intro ws hh
    replace hh : Hp _ (.blk _ _ [_, _, _, _, _] _ :: _) _ := hh
    refine wl_end (sr ?_)
    refine lgC hh 0 [_,_,_,_,_] ?_
    refine stC hh 1 [_,_,_,_,_] ?_
    intro ws hh
    replace hh : Hp _ (_ :: .blk _ _ [_, _, _, _, _] _ :: _) _ := hh
    refine wl_end (wc_ret ?_)
    refine retc1 (by first | exact .inr rfl | exact .inl rfl) rfl (r_cell rfl (lv_agg (vs := [_, _, _, _, _]) TIs.out (hh.rd_blk_at (i := 1) (n := 5) rfl rfl) rfl) r_nil) ?_
    exact ⟨rfl, hh.below⟩
  · have h0' : ¬ nR a.d = ⟨false, ByteArray.mk #[], 0⟩ := fun h => h0 ((nR_zero_iff _).1 h)
    by_cases h1 : b.d = 0
    · have h1' := (nR_zero_iff b.d).2 h1
      have hs : (nR a.d).e = -(lvlP a.d b.d) := by
        rw [h1]
        cases a.d with
        | zero => rfl
        | ofOdd n k h => rfl
      refine calls_vc (N := 41) (l := [.agg #[.bool a.neg, .string a.mag, .int .i64 a.e], .agg #[.bool b.neg, .string b.mag, .int .i64 b.e]]) Tryz.func61 rfl rfl (by simp) ?_
      refine sr ?_
      refine bxC hh [_,_,_] ?_
      intro b2 w2 hh
      refine bxC hh [_,_,_] ?_
      intro b3 w3 hh
      refine alC hh ?_
      intro b4 w4 hh
      refine wl_end (wc_seq ?_)
      refine wc_drawn 3 [[(2, none)], [(7, some 0)], [(3, none)]] [(2, 9), (1, 8), (0, 7)] hh mixed (by kernel_rfl) ?_
      refine dlg 2 [_,_,_] ?_
      refine dC (fun _ hj => dForm_calls a _ (hT.hp hj.hp) (by omega) (by omega) (by omega)) ?_
      refine dlg 1 [_,_,_] ?_
      refine dx_nil ?_
      intro f W hJ hV
      have hb_1 := hJ.bl
      obtain ⟨v9, v8, v7, _⟩ := hV
      replace hh := hJ.hp
      refine wl_cast (updL_K (eql_cons v9 (eql_cons v8 (eql_cons v7 eql_nil)))) ?_
      dsimp only [updK]
      clear hJ
      refine s_callf (dForm_calls b _ (hT.hp hh) (by omega) (by omega) (by omega)) FnIs.out rfl (by decide) ?_
      rintro e_ w10 ⟨rfl, hb_⟩
      refine ⟨_, rfl, ?_⟩
      replace hh := hh.ext hb_
      refine stC hh 2 [_,_,_] ?_
      intro ws hh
      replace hh : Hp _ (_ :: _ :: .blk _ _ [_, _, _] _ :: _) _ := hh
      refine stC hh 1 [_,_,_] ?_
      intro ws hh
      replace hh : Hp _ (_ :: .blk _ _ [_, _, _] _ :: _) _ := hh
      refine wl_end (sr (faC ?_))
      refine l1C hh 2 ?_
      refine faC ?_
      refine l1C hh 1 ?_
      refine s_min rfl rfl (by decide) ?_
      refine aI (wl_end (wc_seq (wc_block (sr ?_))))
      refine lgC hh 2 [_,_,_] ?_
      refine bdC [_,_,_] ?_
      first | refine s_eqN_t rfl rfl (by first | assumption | rfl) (by decide) ?_ | refine s_eqN_f rfl rfl (by assumption) (by decide) ?_
      refine aB (wl_end (cF (sr ?_)))
      refine lgC hh 1 [_,_,_] ?_
      refine bdC [_,_,_] ?_
      first | refine s_eqN_t rfl rfl (by first | assumption | rfl) (by decide) ?_ | refine s_eqN_f rfl rfl (by assumption) (by decide) ?_
      refine aB (wl_end (cT (wc_region (faC ?_))))
      refine l1C hh 2 ?_
      refine aI (wl_nil (b_norm (k_then (sr ?_))))
      rw [hs]
      refine mI ?_
      refine bdC [_,_,_,_,_] ?_
      refine alC hh ?_
      intro b6 w6 hh
      refine stC hh 0 [_,_,_,_,_] ?_
      intro ws hh
      replace hh : Hp _ (.blk _ _ [_, _, _, _, _] _ :: _) _ := hh
      refine wl_end (wc_seq ?_)
      refine wc_drawn 9 [[(6, none)], [(30, some 0)], [(2, none)], [(31, some 1), (32, some 2)], [(6, none)], [(34, some 4)], [(3, none)], [(35, some 5), (36, some 6)], [(6, none)]] [(8, 38), (7, 37), (6, 36), (5, 35), (4, 34), (3, 33), (2, 32), (1, 31), (0, 30)] hh mixed (by kernel_rfl) ?_
      refine dfa ?_
      refine dl1 0 ?_
      refine dlg 3 [_,_,_] ?_
      refine dC (fun _ hj => hcx _ (hT.hp hj.hp)) ?_
      refine dfa ?_
      refine dl1 0 ?_
      refine dlg 2 [_,_,_] ?_
      refine dC (fun _ hj => hcy _ (hT.hp hj.hp)) ?_
      refine dfa ?_
      refine dx_nil ?_
      intro f W hJ hV
      have hb_8 := hJ.bl
      obtain ⟨v38, v37, v36, v35, v34, v33, v32, v31, v30, _⟩ := hV
      replace hh := hJ.hp
      refine wl_cast (updL_K (eql_cons v38 (eql_cons v37 (eql_cons v36 (eql_cons v35 (eql_cons v34 (eql_cons v33 (eql_cons v32 (eql_cons v31 (eql_cons v30 eql_nil)))))))))) ?_
      dsimp only [updK]
      clear hJ
      refine stC hh 0 [_,_] ?_
      intro ws hh
      replace hh : Hp _ (.blk _ _ [_, _, _, _, _] _ :: _) _ := hh
      refine faC ?_
      refine stC hh 0 [_,_] ?_
      intro ws hh
      replace hh : Hp _ (.blk _ _ [_, _, _, _, _] _ :: _) _ := hh
      refine wl_end (sr ?_)
      refine lgC hh 0 [_,_,_,_,_] ?_
      refine stC hh 1 [_,_,_,_,_] ?_
      intro ws hh
      replace hh : Hp _ (_ :: .blk _ _ [_, _, _, _, _] _ :: _) _ := hh
      refine wl_end (wc_ret ?_)
      refine retc1 (by first | exact .inr rfl | exact .inl rfl) rfl (r_cell rfl (lv_agg (vs := [_, _, _, _, _]) TIs.out (hh.rd_blk_at (i := 1) (n := 5) rfl rfl) rfl) r_nil) ?_
      exact ⟨rfl, hh.below⟩
    · have h1' : ¬ nR b.d = ⟨false, ByteArray.mk #[], 0⟩ := fun h => h1 ((nR_zero_iff _).1 h)
      have hs : (if (nR b.d).e < (nR a.d).e then (nR b.d).e else (nR a.d).e) = -(lvlP a.d b.d) := by
        revert h0 h1
        cases a.d with
        | zero => intro h; exact absurd rfl h
        | ofOdd n k h =>
          cases b.d with
          | zero => intro _ h; exact absurd rfl h
          | ofOdd m l g =>
            intro _ _
            simp only [nR, lvlP]
            omega
      refine calls_vc (N := 41) (l := [.agg #[.bool a.neg, .string a.mag, .int .i64 a.e], .agg #[.bool b.neg, .string b.mag, .int .i64 b.e]]) Tryz.func61 rfl rfl (by simp) ?_
      refine sr ?_
      refine bxC hh [_,_,_] ?_
      intro b2 w2 hh
      refine bxC hh [_,_,_] ?_
      intro b3 w3 hh
      refine alC hh ?_
      intro b4 w4 hh
      refine wl_end (wc_seq ?_)
      refine wc_drawn 3 [[(2, none)], [(7, some 0)], [(3, none)]] [(2, 9), (1, 8), (0, 7)] hh mixed (by kernel_rfl) ?_
      refine dlg 2 [_,_,_] ?_
      refine dC (fun _ hj => dForm_calls a _ (hT.hp hj.hp) (by omega) (by omega) (by omega)) ?_
      refine dlg 1 [_,_,_] ?_
      refine dx_nil ?_
      intro f W hJ hV
      have hb_1 := hJ.bl
      obtain ⟨v9, v8, v7, _⟩ := hV
      replace hh := hJ.hp
      refine wl_cast (updL_K (eql_cons v9 (eql_cons v8 (eql_cons v7 eql_nil)))) ?_
      dsimp only [updK]
      clear hJ
      refine s_callf (dForm_calls b _ (hT.hp hh) (by omega) (by omega) (by omega)) FnIs.out rfl (by decide) ?_
      rintro e_ w10 ⟨rfl, hb_⟩
      refine ⟨_, rfl, ?_⟩
      replace hh := hh.ext hb_
      refine stC hh 2 [_,_,_] ?_
      intro ws hh
      replace hh : Hp _ (_ :: _ :: .blk _ _ [_, _, _] _ :: _) _ := hh
      refine stC hh 1 [_,_,_] ?_
      intro ws hh
      replace hh : Hp _ (_ :: .blk _ _ [_, _, _] _ :: _) _ := hh
      refine wl_end (sr (faC ?_))
      refine l1C hh 2 ?_
      refine faC ?_
      refine l1C hh 1 ?_
      refine s_min rfl rfl (by decide) ?_
      refine aI (wl_end (wc_seq (wc_block (sr ?_))))
      refine lgC hh 2 [_,_,_] ?_
      refine bdC [_,_,_] ?_
      first | refine s_eqN_t rfl rfl (by first | assumption | rfl) (by decide) ?_ | refine s_eqN_f rfl rfl (by assumption) (by decide) ?_
      refine aB (wl_end (cF (sr ?_)))
      refine lgC hh 1 [_,_,_] ?_
      refine bdC [_,_,_] ?_
      first | refine s_eqN_t rfl rfl (by first | assumption | rfl) (by decide) ?_ | refine s_eqN_f rfl rfl (by assumption) (by decide) ?_
      refine aB (wl_end (cF (wc_skip (b_norm (k_then (sr ?_))))))
      rw [hs]
      refine mI ?_
      refine bdC [_,_,_,_,_] ?_
      refine alC hh ?_
      intro b6 w6 hh
      refine stC hh 0 [_,_,_,_,_] ?_
      intro ws hh
      replace hh : Hp _ (.blk _ _ [_, _, _, _, _] _ :: _) _ := hh
      refine wl_end (wc_seq ?_)
      refine wc_drawn 9 [[(6, none)], [(30, some 0)], [(2, none)], [(31, some 1), (32, some 2)], [(6, none)], [(34, some 4)], [(3, none)], [(35, some 5), (36, some 6)], [(6, none)]] [(8, 38), (7, 37), (6, 36), (5, 35), (4, 34), (3, 33), (2, 32), (1, 31), (0, 30)] hh mixed (by kernel_rfl) ?_
      refine dfa ?_
      refine dl1 0 ?_
      refine dlg 3 [_,_,_] ?_
      refine dC (fun _ hj => hcx _ (hT.hp hj.hp)) ?_
      refine dfa ?_
      refine dl1 0 ?_
      refine dlg 2 [_,_,_] ?_
      refine dC (fun _ hj => hcy _ (hT.hp hj.hp)) ?_
      refine dfa ?_
      refine dx_nil ?_
      intro f W hJ hV
      have hb_8 := hJ.bl
      obtain ⟨v38, v37, v36, v35, v34, v33, v32, v31, v30, _⟩ := hV
      replace hh := hJ.hp
      refine wl_cast (updL_K (eql_cons v38 (eql_cons v37 (eql_cons v36 (eql_cons v35 (eql_cons v34 (eql_cons v33 (eql_cons v32 (eql_cons v31 (eql_cons v30 eql_nil)))))))))) ?_
      dsimp only [updK]
      clear hJ
      refine stC hh 0 [_,_] ?_
      intro ws hh
      replace hh : Hp _ (.blk _ _ [_, _, _, _, _] _ :: _) _ := hh
      refine faC ?_
      refine stC hh 0 [_,_] ?_
      intro ws hh
      replace hh : Hp _ (.blk _ _ [_, _, _, _, _] _ :: _) _ := hh
      refine wl_end (sr ?_)
      refine lgC hh 0 [_,_,_,_,_] ?_
      refine stC hh 1 [_,_,_,_,_] ?_
      intro ws hh
      replace hh : Hp _ (_ :: .blk _ _ [_, _, _, _, _] _ :: _) _ := hh
      refine wl_end (wc_ret ?_)
      refine retc1 (by first | exact .inr rfl | exact .inl rfl) rfl (r_cell rfl (lv_agg (vs := [_, _, _, _, _]) TIs.out (hh.rd_blk_at (i := 1) (n := 5) rfl rfl) rfl) r_nil) ?_
      exact ⟨rfl, hh.below⟩
end Go.Proofs.YthmmofllajkejaaGreatDoor

/- The walks through the program's dyadic numbers (dyad): order, sums, products. -/
namespace Go.Proofs.YthmmofllajkejaaGreatDoor
open Go.RowKit
-- umode
def cmpD (x y : Dyadic) : Int := if x < y then -1 else if y < x then 1 else 0
theorem cmp_sign (i j p : Int) : (i - j).sign = cmpD (Dyadic.ofIntWithPrec i p) (Dyadic.ofIntWithPrec j p) := by
  unfold cmpD
  simp only [owp_lt]
  rcases Int.lt_trichotomy i j with h | h | h
  · rw [if_pos h, Int.sign_eq_neg_one_of_neg (by omega)]
  · subst h; simp
  · rw [if_neg (by omega), if_pos h, Int.sign_eq_one_of_pos (by omega)]
theorem sign_d (i p : Int) : i.sign = cmpD (Dyadic.ofIntWithPrec i p) 0 := by
  have := cmp_sign i 0 p
  rwa [Int.sub_zero, owp_zero] at this
theorem NR.sign (a : NR) : a.i.sign = cmpD a.d 0 := sign_d _ _
theorem cmpD_lvl (x y : Dyadic) : (intAt x (lvlP x y) - intAt y (lvlP x y)).sign = cmpD x y := by
  rw [cmp_sign _ _ (lvlP x y), lvl_x, lvl_y]
theorem sign_diff (X Y : Int) (h : X.sign ≠ Y.sign) : (if (if X.sign - Y.sign < 1 then X.sign - Y.sign else 1) > -1 then (if X.sign - Y.sign < 1 then X.sign - Y.sign else 1) else -1) = (X - Y).sign := by
  rcases Int.lt_trichotomy X 0 with hx | hx | hx <;> rcases Int.lt_trichotomy Y 0 with hy | hy | hy
  · rw [Int.sign_eq_neg_one_of_neg hx, Int.sign_eq_neg_one_of_neg hy] at h; omega
  · rw [Int.sign_eq_neg_one_of_neg hx, hy, Int.sub_zero, Int.sign_eq_neg_one_of_neg hx]; simp
  · rw [Int.sign_eq_neg_one_of_neg hx, Int.sign_eq_one_of_pos hy, Int.sign_eq_neg_one_of_neg (by omega)]; simp
  · subst hx; rw [Int.sign_zero, Int.sign_eq_neg_one_of_neg hy, Int.sign_eq_one_of_pos (a := 0 - Y) (by omega)]; simp
  · rw [hx, hy] at h; omega
  · subst hx; rw [Int.sign_zero, Int.sign_eq_one_of_pos hy, Int.sign_eq_neg_one_of_neg (a := 0 - Y) (by omega)]; simp
  · rw [Int.sign_eq_one_of_pos hx, Int.sign_eq_neg_one_of_neg hy, Int.sign_eq_one_of_pos (by omega)]; simp
  · rw [Int.sign_eq_one_of_pos hx, hy, Int.sub_zero, Int.sign_eq_one_of_pos hx]; simp
  · rw [Int.sign_eq_one_of_pos hx, Int.sign_eq_one_of_pos hy] at h; omega
theorem lvl_sizes {a b : NR} (ha : a.ok) (hb : b.ok) : (iM (intAt a.d (lvlP a.d b.d))).size ≤ 6000000 ∧ (iM (intAt b.d (lvlP a.d b.d))).size ≤ 6000000 ∧ -18000000 ≤ lvlP a.d b.d ∧ lvlP a.d b.d ≤ 18000000 := by
  obtain ⟨_, fa1, fa2, fa3⟩ := raw_form ha
  obtain ⟨_, fb1, fb2, fb3⟩ := raw_form hb
  have hP := lvlP_bd a.d b.d 18000000 (by omega) (by omega)
  have h1 := intAt_blen a.d (lvlP a.d b.d)
  have h2 := intAt_blen b.d (lvlP a.d b.d)
  rw [iM_size, iM_size]
  refine ⟨by omega, by omega, hP.1, hP.2⟩
theorem sign_bd (i : Int) : -1 ≤ i.sign ∧ i.sign ≤ 1 := by
  rcases Int.lt_trichotomy i 0 with h | h | h
  · rw [Int.sign_eq_neg_one_of_neg h]; omega
  · rw [h]; simp
  · rw [Int.sign_eq_one_of_pos h]; omega
theorem dCmp_calls (a b : NR) (w : World) (hT : Tab w) (ha : a.ok) (hb : b.ok) :
    Calls Tryz.prog 13 #[.agg #[.bool a.neg, .string a.mag, .int .i64 a.e], .agg #[.bool b.neg, .string b.mag, .int .i64 b.e]] w fun r w' => r = .returned (.int .i64 (cmpD a.d b.d)) ∧ Below w.heap.size w w' := by
  have hh := Hp.start w
  obtain ⟨hs1, hs2, _⟩ := lvl_sizes ha hb
  have hsa : a.i.sign = (intAt a.d (lvlP a.d b.d)).sign := by rw [NR.sign, sign_d _ (lvlP a.d b.d), lvl_x]
  have hsb : b.i.sign = (intAt b.d (lvlP a.d b.d)).sign := by rw [NR.sign, sign_d _ (lvlP a.d b.d), lvl_y]
  have hba := sign_bd a.i
  have hbb := sign_bd b.i
  by_cases hne : a.i.sign = b.i.sign
  · refine calls_vc (N := 28) (l := [.agg #[.bool a.neg, .string a.mag, .int .i64 a.e], .agg #[.bool b.neg, .string b.mag, .int .i64 b.e]]) Tryz.func13 rfl rfl (by simp) ?_
    refine sr ?_
    refine bxC hh [_,_,_] ?_
    intro b2 w2 hh
    refine bxC hh [_,_,_] ?_
    intro b3 w3 hh
    refine aI (wl_end (wc_seq (wc_seq ?_)))
    refine wc_drawn 3 [[(2, none)], [(8, some 0)], [(3, none)]] [(2, 10), (1, 9), (0, 8)] hh mixed (by kernel_rfl) ?_
    refine dlg 1 [_,_,_] ?_
    refine dC (fun _ hj => dSign_calls a _) ?_
    refine dlg 0 [_,_,_] ?_
    refine dx_nil ?_
    intro f W hJ hV
    have hb_1 := hJ.bl
    obtain ⟨v10, v9, v8, _⟩ := hV
    replace hh := hJ.hp
    refine wl_cast (updL_K (eql_cons v10 (eql_cons v9 (eql_cons v8 eql_nil)))) ?_
    dsimp only [updK]
    clear hJ
    refine s_callf (dSign_calls b _) FnIs.out rfl (by decide) ?_
    rintro e_ w11 ⟨rfl, hb_⟩
    refine ⟨_, rfl, ?_⟩
    replace hh := hh.ext hb_
    refine aI (aI (wl_end (sr (mI (mI ?_)))))
    refine neqC (wl_end (cF (wc_skip (k_then (sr ?_)))))
    refine lgC hh 1 [_,_,_] ?_
    refine lgC hh 0 [_,_,_] ?_
    refine s_callf (dlevel_calls a b _ (hT.hp hh) ha hb) FnIs.out rfl (by decide) ?_
    rintro e_ w22 ⟨rfl, hb_⟩
    refine ⟨_, rfl, ?_⟩
    replace hh := hh.ext hb_
    refine alC hh ?_
    intro b7 w7 hh
    refine stC hh 0 [_,_,_,_,_] ?_
    intro ws hh
    replace hh : Hp _ (.blk _ _ [_, _, _, _, _] _ :: _) _ := hh
    refine wl_end (sr (faC ?_))
    refine lgC hh 0 [_,_] (faC ?_)
    refine lgC hh 0 [_,_] ?_
    refine s_callf (wCmp_calls _ _ _ _ _ (by omega) (by omega)) FnIs.out rfl (by decide) ?_
    rintro e_ w27 ⟨rfl, hb_⟩
    refine ⟨_, rfl, ?_⟩
    replace hh := hh.ext hb_
    rw [iv_of, iv_of, cmpD_lvl]
    refine aI (wl_end (wc_ret ?_))
    refine ret1 (by first | exact .inr rfl | exact .inl rfl) rfl (v_int rfl) ?_
    exact ⟨rfl, hh.below⟩
  · refine calls_vc (N := 28) (l := [.agg #[.bool a.neg, .string a.mag, .int .i64 a.e], .agg #[.bool b.neg, .string b.mag, .int .i64 b.e]]) Tryz.func13 rfl rfl (by simp) ?_
    refine sr ?_
    refine bxC hh [_,_,_] ?_
    intro b2 w2 hh
    refine bxC hh [_,_,_] ?_
    intro b3 w3 hh
    refine aI (wl_end (wc_seq (wc_seq ?_)))
    refine wc_drawn 3 [[(2, none)], [(8, some 0)], [(3, none)]] [(2, 10), (1, 9), (0, 8)] hh mixed (by kernel_rfl) ?_
    refine dlg 1 [_,_,_] ?_
    refine dC (fun _ hj => dSign_calls a _) ?_
    refine dlg 0 [_,_,_] ?_
    refine dx_nil ?_
    intro f W hJ hV
    have hb_1 := hJ.bl
    obtain ⟨v10, v9, v8, _⟩ := hV
    replace hh := hJ.hp
    refine wl_cast (updL_K (eql_cons v10 (eql_cons v9 (eql_cons v8 eql_nil)))) ?_
    dsimp only [updK]
    clear hJ
    refine s_callf (dSign_calls b _) FnIs.out rfl (by decide) ?_
    rintro e_ w11 ⟨rfl, hb_⟩
    refine ⟨_, rfl, ?_⟩
    replace hh := hh.ext hb_
    refine aI (aI (wl_end (sr (mI (mI ?_)))))
    refine neqC (wl_end (cT (sr (mI (mI ?_)))))
    refine subC ?_
    refine s_min rfl rfl (by decide) ?_
    refine s_max rfl rfl (by decide) ?_
    refine aI (wl_end (wc_ret (k_ret ?_)))
    refine ret1 (by first | exact .inr rfl | exact .inl rfl) rfl (v_int rfl) ?_
    refine ⟨?_, hh.below⟩
    rw [hsa, hsb] at hne
    rw [hsa, hsb, ← cmpD_lvl a.d b.d, ← sign_diff _ _ hne]
theorem dAbs_calls (a : NR) (w : World) (hT : Tab w) (ha : a.mag.size ≤ 100000000) (h1 : -1000000000000 ≤ a.e) (h2 : a.e ≤ 1000000000000) :
    Calls Tryz.prog 21 #[.agg #[.bool a.neg, .string a.mag, .int .i64 a.e]] w fun r w' => r = .returned (.agg #[.bool (nR (if a.d < 0 then -a.d else a.d)).neg, .string (nR (if a.d < 0 then -a.d else a.d)).mag, .int .i64 (nR (if a.d < 0 then -a.d else a.d)).e]) ∧ Below w.heap.size w w' := by
  have hh := Hp.start w
  have hs := NR.sign a
  by_cases h0 : a.d < 0
  · have hs2 : a.i.sign = -1 := by rw [hs, cmpD, if_pos h0]
    rw [if_pos h0]
    refine calls_vc (N := 10) (l := [.agg #[.bool a.neg, .string a.mag, .int .i64 a.e]]) Tryz.func21 rfl rfl (by simp) ?_
    refine sr ?_
    refine bxC hh [_,_,_] ?_
    intro b1 w1 hh
    refine alC hh ?_
    intro b2 w2 hh
    refine wl_end (wc_seq (sr ?_))
    refine lgC hh 1 [_,_,_] ?_
    refine s_callf (dSign_calls a _) FnIs.out rfl (by decide) ?_
    rintro e_ w4 ⟨rfl, hb_⟩
    refine ⟨_, rfl, ?_⟩
    replace hh := hh.ext hb_
    rw [hs2]
    refine lssC (wl_end (cT (sr ?_)))
    refine lgC hh 1 [_,_,_] ?_
    refine s_callf (dNeg_calls a _ (hT.hp hh) ha h1 h2) FnIs.out rfl (by decide) ?_
    rintro e_ w7 ⟨rfl, hb_⟩
    refine ⟨_, rfl, ?_⟩
    replace hh := hh.ext hb_
    refine stC hh 0 [_,_,_] ?_
    intro ws hh
    replace hh : Hp _ (.blk _ _ [_, _, _] _ :: _) _ := hh
    refine wl_end (wc_ret (k_ret ?_))
    refine retc1 (by first | exact .inr rfl | exact .inl rfl) rfl (r_cell rfl (lv_agg (vs := [_, _, _]) TIs.out (hh.rd_blk_at (i := 0) (n := 3) rfl rfl) rfl) r_nil) ?_
    exact ⟨rfl, hh.below⟩
  · have hs2 : ¬ a.i.sign < 0 := by rw [hs, cmpD, if_neg h0]; split <;> omega
    rw [if_neg h0]
    refine calls_vc (N := 10) (l := [.agg #[.bool a.neg, .string a.mag, .int .i64 a.e]]) Tryz.func21 rfl rfl (by simp) ?_
    refine sr ?_
    refine bxC hh [_,_,_] ?_
    intro b1 w1 hh
    refine alC hh ?_
    intro b2 w2 hh
    refine wl_end (wc_seq (sr ?_))
    refine lgC hh 1 [_,_,_] ?_
    refine s_callf (dSign_calls a _) FnIs.out rfl (by decide) ?_
    rintro e_ w4 ⟨rfl, hb_⟩
    refine ⟨_, rfl, ?_⟩
    replace hh := hh.ext hb_
    refine lssC (wl_end (cF (wc_skip (k_then (sr ?_)))))
    refine lgC hh 1 [_,_,_] ?_
    refine s_callf (dForm_calls a _ (hT.hp hh) ha h1 h2) FnIs.out rfl (by decide) ?_
    rintro e_ w9 ⟨rfl, hb_⟩
    refine ⟨_, rfl, ?_⟩
    replace hh := hh.ext hb_
    refine stC hh 0 [_,_,_] ?_
    intro ws hh
    replace hh : Hp _ (.blk _ _ [_, _, _] _ :: _) _ := hh
    refine wl_end (wc_ret ?_)
    refine retc1 (by first | exact .inr rfl | exact .inl rfl) rfl (r_cell rfl (lv_agg (vs := [_, _, _]) TIs.out (hh.rd_blk_at (i := 0) (n := 3) rfl rfl) rfl) r_nil) ?_
    exact ⟨rfl, hh.below⟩
/-- Two to a power. -/
def twoD (n : Int) : Dyadic := Dyadic.ofIntWithPrec 1 (-n)
theorem owp_two (i p n : Int) : Dyadic.ofIntWithPrec i (p - n) = Dyadic.ofIntWithPrec i p * twoD n := by
  rw [twoD, owp_mul, Int.mul_one]; rfl
theorem dShift_calls (a : NR) (n : Int) (w : World) (hT : Tab w) (ha : a.mag.size ≤ 100000000) (h1 : -100000000000 ≤ a.e) (h2 : a.e ≤ 100000000000) (h3 : -100000000000 ≤ n) (h4 : n ≤ 100000000000) :
    Calls Tryz.prog 14 #[.agg #[.bool a.neg, .string a.mag, .int .i64 a.e], .int .i64 n] w fun r w' => r = .returned (.agg #[.bool (nR (a.d * twoD n)).neg, .string (nR (a.d * twoD n)).mag, .int .i64 (nR (a.d * twoD n)).e]) ∧ Below w.heap.size w w' := by
  have hh := Hp.start w
  have e1 : Dyadic.ofIntWithPrec (iv a.neg a.mag) (-(a.e + n)) = a.d * twoD n := by
    rw [NR.d, NR.i, ← owp_two]; congr 1; omega
  have hc := fun w1 hT1 => dMake_calls a.neg a.mag (a.e + n) w1 hT1 ha (by omega) (by omega)
  rw [e1] at hc
  refine calls_vc (N := 12) (l := [.agg #[.bool a.neg, .string a.mag, .int .i64 a.e], .int .i64 n]) Tryz.func14 rfl rfl (by simp) ?_
  refine sr ?_
  refine bxC hh [_,_,_] ?_
  intro b2 w2 hh
  refine alC hh ?_
  intro b4 w4 hh
  refine wl_end (sr (faC ?_))
  refine lgC hh 1 [_,_] (faC ?_)
  refine l1C hh 1 ?_
  refine mI ?_
  refine addC ?_
  refine s_callf (hc _ (hT.hp hh)) FnIs.out rfl (by decide) ?_
  rintro e_ w11 ⟨rfl, hb_⟩
  refine ⟨_, rfl, ?_⟩
  replace hh := hh.ext hb_
  refine stC hh 0 [_,_,_] ?_
  intro ws hh
  replace hh : Hp _ (.blk _ _ [_, _, _] _ :: _) _ := hh
  refine wl_end (wc_ret ?_)
  refine retc1 (by first | exact .inr rfl | exact .inl rfl) rfl (r_cell rfl (lv_agg (vs := [_, _, _]) TIs.out (hh.rd_blk_at (i := 0) (n := 3) rfl rfl) rfl) r_nil) ?_
  exact ⟨rfl, hh.below⟩
def sumD : List Dyadic → Dyadic := fun l => l.foldl (· + ·) 0
theorem sumD_snoc (l : List Dyadic) (x : Dyadic) : sumD (l ++ [x]) = sumD l + x := by simp [sumD]
theorem Sz.sum {k : Nat} {l : List Dyadic} (h : ∀ x ∈ l, Sz k x) : Sz (k + l.length) (sumD l) := by
  have : ∀ (n : Nat), n ≤ l.length → Sz (k + n) (sumD (l.take n)) := by
    intro n
    induction n with
    | zero => intro _; exact Sz.zero _
    | succ n ih =>
      intro hn
      obtain ⟨x, hx⟩ := get_of_lt (l := l) (k := n) (by omega)
      rw [take_snoc hx, sumD_snoc]
      exact (ih (by omega)).add ((h x (List.mem_of_getElem? hx)).mono (by omega))
  have h2 := this l.length (Nat.le_refl _)
  rwa [List.take_length] at h2
/-- The sum of two, as the program makes it. -/
theorem lvl_make_calls (a b : NR) (w : World) (hT : Tab w) (ha : a.ok) (hb : b.ok) :
    Calls Tryz.prog 54 #[.agg #[.bool (iN (intAt a.d (lvlP a.d b.d) + intAt b.d (lvlP a.d b.d))), .string (iM (intAt a.d (lvlP a.d b.d) + intAt b.d (lvlP a.d b.d)))], .int .i64 (-(lvlP a.d b.d))] w fun r w' => r = .returned (.agg #[.bool (nR (a.d + b.d)).neg, .string (nR (a.d + b.d)).mag, .int .i64 (nR (a.d + b.d)).e]) ∧ Below w.heap.size w w' := by
  obtain ⟨hs1, hs2, hP1, hP2⟩ := lvl_sizes ha hb
  rw [iM_size] at hs1 hs2
  have h3 := blen_add_int (intAt a.d (lvlP a.d b.d)) (intAt b.d (lvlP a.d b.d))
  have := dMake_calls (iN (intAt a.d (lvlP a.d b.d) + intAt b.d (lvlP a.d b.d))) (iM (intAt a.d (lvlP a.d b.d) + intAt b.d (lvlP a.d b.d))) (-(lvlP a.d b.d)) w hT (by rw [iM_size]; omega) (by omega) (by omega)
  rw [iv_of, Int.neg_neg, lvl_sum] at this
  exact this
theorem dAdd_calls (L : Option Addr) (n c : Nat) (l : List NR) (w : World) (hT : Tab w) (hS : Sl w L n 3 (recs NR.cells l)) (hl : ∀ a ∈ l, a.ok) (k : Nat) (hk : ∀ a ∈ l, Sz k a.d) (hkn : k + n ≤ 3999990) :
    Calls Tryz.prog 15 #[.slice L n c] w fun r w' => r = .returned (.agg #[.bool (nR (sumD (l.map NR.d))).neg, .string (nR (sumD (l.map NR.d))).mag, .int .i64 (nR (sumD (l.map NR.d))).e]) ∧ Below w.heap.size w w' := by
  have hln := hS.recLen NR.len (by omega)
  have hh := Hp.start w
  refine calls_vc (N := 27) (l := [.slice L n c]) Tryz.func15 rfl rfl (by simp) ?_
  refine sr ?_
  refine alC hh ?_
  intro b2 w2 hh
  refine wl_end (sr ?_)
  refine alC hh ?_
  intro b3 w3 hh
  refine wl_end (wc_seq (sr (mL (lenC (mI (wl_end (wc_block ?_)))))))
  refine wc_loop1 [5, 6, 9, 10, 11, 12, 13, 14, 15, 16, 17, 18, 19, 20, 21, 22, 23, 24, 25] 9
    (fun j w' => ∃ (i : Nat) (S : Dyadic), i ≤ n ∧ j = .int .i64 i ∧ S = sumD ((l.take i).map NR.d) ∧ Hp w [.blk b3 25 [.bool (nR S).neg, .string (nR S).mag, .int .i64 (nR S).e] (0, 0), .blk b2 25 [.bool false, .string (ByteArray.mk #[]), .int .i64 0] (0, 0)] w')
    (fun j _ => n - (intOf j).toNat) ?_ ?_
  · exact ⟨0, 0, Nat.zero_le _, rfl, rfl, hh⟩
  · clear hh
    rintro ρ' j w' ⟨i, S, hi, rfl, hS2, hh⟩
    by_cases hlt : i < n
    · obtain ⟨x, hx⟩ := get_of_lt (l := l) (k := i) (by omega)
      obtain ⟨ad, rfl, hr⟩ := hS.at_ (by omega)
      have hxm := List.mem_of_getElem? hx
      have hS3 : sumD ((l.take (i + 1)).map NR.d) = S + x.d := by rw [take_snoc hx, List.map_append, List.map_singleton, sumD_snoc, hS2]
      have hSz : Sz (k + i) S := by
        rw [hS2]
        have := Sz.sum (k := k) (l := (l.take i).map NR.d) (fun y hy => by
          obtain ⟨a, ha, rfl⟩ := List.mem_map.1 hy
          exact hk a (List.mem_of_mem_take ha))
        rw [List.length_map, List.length_take, Nat.min_eq_left (by omega)] at this
        exact this
      have hSo := hSz.ok (by omega)
      have hlc := fun w1 hT1 => dlevel_calls (nR S) x w1 hT1 hSo (hl x hxm)
      have hmc := fun w1 hT1 => lvl_make_calls (nR S) x w1 hT1 hSo (hl x hxm)
      obtain ⟨hs1, hs2, _⟩ := lvl_sizes hSo (hl x hxm)
      rw [nR_d] at hlc hmc hs1 hs2
      have e1 : ([iR (intAt S (lvlP S x.d)), iR (intAt x.d (lvlP S x.d))].map IR.v).sum = intAt S (lvlP S x.d) + intAt x.d (lvlP S x.d) := by
        simp only [List.map_cons, List.map_nil, List.sum_cons, List.sum_nil, iR_v]; omega
      have hac : ∀ (A : Option Addr) (cc : Nat) (w1 : World), Sl w1 A 2 2 (recs IR.cells [iR (intAt S (lvlP S x.d)), iR (intAt x.d (lvlP S x.d))]) → Calls Tryz.prog 63 #[.slice A 2 cc] w1 fun e w' => e = .returned (.agg #[.bool (iN (intAt S (lvlP S x.d) + intAt x.d (lvlP S x.d))), .string (iM (intAt S (lvlP S x.d) + intAt x.d (lvlP S x.d)))]) ∧ Below w1.heap.size w1 w' := fun A cc w1 hsl => by
        have := wAdd_calls A 2 cc [iR (intAt S (lvlP S x.d)), iR (intAt x.d (lvlP S x.d))] w1 hsl (by omega) (by simp [iR]; omega)
        rw [e1] at this
        exact this
      refine sr ?_
      refine lssC (wl_end (wc_seq (cT (wc_skip (k_then (wc_seq (wc_block (sr ?_))))))))
      refine s_indexSl (k := i) UIs.out TIs.size rfl rfl (by omega) (by omega) (by decide) ?_
      refine s_load (vs := [_, _, _]) TIs.out rfl (((hr.ext hh.below).recAt NR.len hx)) rfl (by decide) ?_
      refine alC hh ?_
      intro b5 w5 hh
      refine stC hh 0 [_,_,_] ?_
      intro ws hh
      replace hh : Hp _ (.blk _ _ [_, _, _] _ :: _) _ := hh
      refine wl_end (sr ?_)
      refine lgC hh 1 [_,_,_] ?_
      refine lgC hh 0 [_,_,_] ?_
      refine s_callf (hlc _ (hT.hp hh)) FnIs.out rfl (by decide) ?_
      rintro e_ w15 ⟨rfl, hb_⟩
      refine ⟨_, rfl, ?_⟩
      replace hh := hh.ext hb_
      refine alC hh ?_
      intro b6 w6 hh
      refine stC hh 0 [_,_,_,_,_] ?_
      intro ws hh
      replace hh : Hp _ (.blk _ _ [_, _, _, _, _] _ :: _) _ := hh
      refine wl_end ?_
      refine wc_drawn 8 [[(6, none)], [(16, some 0)], [(6, none)], [(18, some 2)], [(17, some 1), (19, some 3)], [(20, some 4)], [(6, none)], [(22, some 6)]] [(7, 23), (6, 22), (5, 21), (4, 20), (3, 19), (2, 18), (1, 17), (0, 16)] hh mixed (by kernel_rfl) ?_
      refine dfa ?_
      refine dlg 0 [_,_] ?_
      refine dfa ?_
      refine dlg 0 [_,_] ?_
      refine dBS [_,_,_,_] ?_
      refine dx_gen (i := 5) (Is (.agg #[.bool (iN (intAt S (lvlP S x.d) + intAt x.d (lvlP S x.d))), .string (iM (intAt S (lvlP S x.d) + intAt x.d (lvlP S x.d)))])) Is.ext ?_ ?_
      · intro ρ1 w1 hj hR
        obtain ⟨A20, c20, h20, s20⟩ := hR.1
        exact og_enter rfl (run_callf FnIs.out (evs_cons h20 evs_nil)) (hac A20 c20 _ s20) (fun _ _ hq => ⟨_, hq.1, hq.2, rfl⟩)
      refine dfa ?_
      refine dl1 0 ?_
      refine dx_nil ?_
      intro f W hJ hV
      have hb_6 := hJ.bl
      obtain ⟨v23, v22, v21, v20, v19, v18, v17, v16, _⟩ := hV
      obtain ⟨A20, c20, e20, f20⟩ : Rows _ _ _ (f 4) W := v20
      replace hh := hJ.hp
      refine wl_cast (updL_K (eql_cons v23 (eql_cons v22 (eql_cons v21 (eql_cons e20 (eql_cons v19 (eql_cons v18 (eql_cons v17 (eql_cons v16 eql_nil))))))))) ?_
      dsimp only [updK]
      clear e20 hJ
      refine s_callf (hmc _ (hT.hp hh)) FnIs.out rfl (by decide) ?_
      rintro e_ w24 ⟨rfl, hb_⟩
      refine ⟨_, rfl, ?_⟩
      replace hh := hh.ext hb_
      refine stC hh 2 [_,_,_] ?_
      intro ws hh
      replace hh : Hp _ (_ :: _ :: .blk _ _ [_, _, _] _ :: _) _ := hh
      refine wl_nil (b_norm (k_then (wc_region ?_)))
      refine addC (mI (wl_nil (k_then ?_)))
      replace hh := hh.sub ((List.sublist_cons_self _ _).trans (List.sublist_cons_self _ _))
      refine ⟨⟨i + 1, _, by omega, rfl, hS3.symm, hh⟩, by show n - (i + 1) < n - i; omega, ?_⟩
      (repeat (first | exact agree_mask _ _ _ | refine agree_upd rfl ?_ | refine agree_mask2 rfl ?_))
    · refine sr ?_
      refine lssC (wl_end (wc_seq (cF ?_)))
      refine wc_exit ?_
      refine k_exit (k_exit (b_here (k_then (sr ?_))))
      refine lgC hh 0 [_,_,_] ?_
      refine stC hh 1 [_,_,_] ?_
      intro ws hh
      replace hh : Hp _ (_ :: .blk _ _ [_, _, _] _ :: _) _ := hh
      refine wl_end (wc_ret ?_)
      refine retc1 (by first | exact .inr rfl | exact .inl rfl) rfl (r_cell rfl (lv_agg (vs := [_, _, _]) TIs.out (hh.rd_blk_at (i := 1) (n := 3) rfl rfl) rfl) r_nil) ?_
      rw [List.take_of_length_le (by omega)] at hS2
      rw [hS2]
      exact ⟨rfl, hh.below⟩
theorem sumD_two (x y : Dyadic) : sumD [x, y] = x + y := by
  show (0 + x) + y = x + y
  rw [Dyadic.zero_add]
theorem dSub_calls (a b : NR) (w : World) (hT : Tab w) (ha : a.ok) (hb : b.ok) (k : Nat) (hka : Sz k a.d) (hkb : Sz k b.d) (hk : k ≤ 3999980) :
    Calls Tryz.prog 57 #[.agg #[.bool a.neg, .string a.mag, .int .i64 a.e], .agg #[.bool b.neg, .string b.mag, .int .i64 b.e]] w fun r w' => r = .returned (.agg #[.bool (nR (a.d - b.d)).neg, .string (nR (a.d - b.d)).mag, .int .i64 (nR (a.d - b.d)).e]) ∧ Below w.heap.size w w' := by
  have hh := Hp.start w
  obtain ⟨hb1, hb2, hb3⟩ := hb
  have e1 : sumD ([a, nR (-b.d)].map NR.d) = a.d - b.d := by
    simp only [List.map_cons, List.map_nil, nR_d, sumD_two]; rfl
  have hac : ∀ (A : Option Addr) (cc : Nat) (w1 : World), Tab w1 → Sl w1 A 2 3 (recs NR.cells [a, nR (-b.d)]) → Calls Tryz.prog 15 #[.slice A 2 cc] w1 fun r w' => r = .returned (.agg #[.bool (nR (a.d - b.d)).neg, .string (nR (a.d - b.d)).mag, .int .i64 (nR (a.d - b.d)).e]) ∧ Below w1.heap.size w1 w' := fun A cc w1 hT1 hsl => by
    have := dAdd_calls A 2 cc [a, nR (-b.d)] w1 hT1 hsl (by simpa using ⟨ha, hkb.neg.ok (by omega)⟩) k (by simpa [nR_d] using ⟨hka, hkb.neg⟩) (by omega)
    rw [e1] at this
    exact this
  refine calls_vc (N := 10) (l := [.agg #[.bool a.neg, .string a.mag, .int .i64 a.e], .agg #[.bool b.neg, .string b.mag, .int .i64 b.e]]) Tryz.func57 rfl rfl (by simp) ?_
  refine sr ?_
  refine bxC hh [_,_,_] ?_
  intro b2 w2 hh
  refine bxC hh [_,_,_] ?_
  intro b3 w3 hh
  refine alC hh ?_
  intro b4 w4 hh
  refine wl_end (wc_seq ?_)
  refine wc_drawn 3 [[(2, none)], [(3, none)], [(6, some 1)]] [(2, 7), (1, 6), (0, 5)] hh mixed (by kernel_rfl) ?_
  refine dlg 2 [_,_,_] ?_
  refine dlg 1 [_,_,_] ?_
  refine dC (fun _ hj => dNeg_calls b _ (hT.hp hj.hp) (by omega) (by omega) (by omega)) ?_
  refine dx_nil ?_
  intro f W hJ hV
  have hb_1 := hJ.bl
  obtain ⟨v7, v6, v5, _⟩ := hV
  replace hh := hJ.hp
  refine wl_cast (updL_K (eql_cons v7 (eql_cons v6 (eql_cons v5 eql_nil)))) ?_
  dsimp only [updK]
  clear hJ
  refine wl_buildSlice hh (cs := [_, _, _, _, _, _]) UIs.out TIs.out (evp_cons (ev_agg rfl) (evp_cons (ev_agg rfl) evp_nil)) rfl rfl (by decide) (by decide) (by decide) rfl (by decide) ?_
  intro b8 w8 hh
  refine s_callf (hac _ _ _ (hT.hp hh) (hh.sl_row (i := 0) rfl)) FnIs.out rfl (by decide) ?_
  rintro e_ w9 ⟨rfl, hb_⟩
  refine ⟨_, rfl, ?_⟩
  replace hh := hh.ext hb_
  refine stC hh 1 [_,_,_] ?_
  intro ws hh
  replace hh : Hp _ (_ :: .blk _ _ [_, _, _] _ :: _) _ := hh
  refine wl_end (wc_ret ?_)
  refine retc1 (by first | exact .inr rfl | exact .inl rfl) rfl (r_cell rfl (lv_agg (vs := [_, _, _]) TIs.out (hh.rd_blk_at (i := 1) (n := 3) rfl rfl) rfl) r_nil) ?_
  exact ⟨rfl, hh.below⟩
/-- The product of a list. -/
def prodD : List Dyadic → Dyadic := fun l => l.foldl (· * ·) 1
theorem prodD_snoc (l : List Dyadic) (x : Dyadic) : prodD (l ++ [x]) = prodD l * x := by simp [prodD]
theorem one_d : ((1 : Int) : Dyadic) = 1 := rfl
theorem Sz.one : Sz 1 1 := ⟨2, by decide +kernel, by decide⟩
theorem Sz.prod {k : Nat} {l : List Dyadic} (h : ∀ x ∈ l, Sz k x) : Sz (1 + k * l.length) (prodD l) := by
  have : ∀ (n : Nat), n ≤ l.length → Sz (1 + k * n) (prodD (l.take n)) := by
    intro n
    induction n with
    | zero => intro _; exact Sz.one
    | succ n ih =>
      intro hn
      obtain ⟨x, hx⟩ := get_of_lt (l := l) (k := n) (by omega)
      rw [take_snoc hx, prodD_snoc]
      exact ((ih (by omega)).mul (h x (List.mem_of_getElem? hx))).mono (by rw [Nat.mul_succ]; omega)
  have h2 := this l.length (Nat.le_refl _)
  rwa [List.take_length] at h2
theorem dMul_calls (L : Option Addr) (n c : Nat) (l : List NR) (w : World) (hT : Tab w) (hS : Sl w L n 3 (recs NR.cells l)) (hl : ∀ a ∈ l, a.ok) (k : Nat) (hk : ∀ a ∈ l, Sz k a.d) (hkn : k * n ≤ 3999980) (hn : n ≤ 1000000) :
    Calls Tryz.prog 18 #[.slice L n c] w fun r w' => r = .returned (.agg #[.bool (nR (prodD (l.map NR.d))).neg, .string (nR (prodD (l.map NR.d))).mag, .int .i64 (nR (prodD (l.map NR.d))).e]) ∧ Below w.heap.size w w' := by
  have hln := hS.recLen NR.len (by omega)
  have hh := Hp.start w
  refine calls_vc (N := 27) (l := [.slice L n c]) Tryz.func18 rfl rfl (by simp) ?_
  refine sr ?_
  refine alC hh ?_
  intro b2 w2 hh
  refine wl_end (sr ?_)
  refine s_callf (dOf_calls 1 _ (hT.hp hh) (by omega) (by omega)) FnIs.out rfl (by decide) ?_
  rintro e_ w6 ⟨rfl, hb_⟩
  refine ⟨_, rfl, ?_⟩
  replace hh := hh.ext hb_
  refine alC hh ?_
  intro b3 w3 hh
  refine stC hh 0 [_,_,_] ?_
  intro ws hh
  replace hh : Hp _ (.blk _ _ [_, _, _] _ :: _) _ := hh
  refine wl_end (wc_seq (sr (mL (lenC (mI (wl_end (wc_block ?_)))))))
  refine wc_loop1 [5, 9, 10, 11, 12, 13, 14, 15, 16, 17, 18, 19, 20, 21, 22, 23, 24, 25] 9
    (fun j w' => ∃ (i : Nat) (S : Dyadic), i ≤ n ∧ j = .int .i64 i ∧ S = prodD ((l.take i).map NR.d) ∧ Hp w [.blk b3 25 [.bool (nR S).neg, .string (nR S).mag, .int .i64 (nR S).e] (0, 0), .blk b2 25 [.bool false, .string (ByteArray.mk #[]), .int .i64 0] (0, 0)] w')
    (fun j _ => n - (intOf j).toNat) ?_ ?_
  · exact ⟨0, _, Nat.zero_le _, rfl, rfl, hh⟩
  · clear hh
    rintro ρ' j w' ⟨i, S, hi, rfl, hS2, hh⟩
    by_cases hlt : i < n
    · obtain ⟨x, hx⟩ := get_of_lt (l := l) (k := i) (by omega)
      obtain ⟨ad, rfl, hr⟩ := hS.at_ (by omega)
      have hxm := List.mem_of_getElem? hx
      have hS3 : prodD ((l.take (i + 1)).map NR.d) = S * x.d := by rw [take_snoc hx, List.map_append, List.map_singleton, prodD_snoc, hS2]
      have hSz : Sz (1 + k * i) S := by
        rw [hS2]
        have := Sz.prod (k := k) (l := (l.take i).map NR.d) (fun y hy => by
          obtain ⟨a, ha, rfl⟩ := List.mem_map.1 hy
          exact hk a (List.mem_of_mem_take ha))
        rw [List.length_map, List.length_take, Nat.min_eq_left (by omega)] at this
        exact this
      have hki : k * i ≤ k * n := Nat.mul_le_mul_left _ hi
      obtain ⟨so1, so2, so3⟩ := hSz.ok (by omega)
      obtain ⟨xo1, xo2, xo3⟩ := hl x hxm
      have e1 : prodI ([IR.mk (nR S).neg (nR S).mag, IR.mk x.neg x.mag].map IR.v) = (nR S).i * x.i := by
        simp only [List.map_cons, List.map_nil, prodI, Int.mul_one]; rfl
      have e2 : Dyadic.ofIntWithPrec ((nR S).i * x.i) (-((nR S).e + x.e)) = S * x.d := by
        have := owp_mul (nR S).i x.i (-(nR S).e) (-x.e)
        rw [Int.neg_add, ← this]
        congr 1
        exact nR_d S
      have hac : ∀ (A : Option Addr) (cc : Nat) (w1 : World), Sl w1 A 2 2 (recs IR.cells [IR.mk (nR S).neg (nR S).mag, IR.mk x.neg x.mag]) → Calls Tryz.prog 67 #[.slice A 2 cc] w1 fun e w' => e = .returned (.agg #[.bool (iN ((nR S).i * x.i)), .string (iM ((nR S).i * x.i))]) ∧ Below w1.heap.size w1 w' := fun A cc w1 hsl => by
        have := wMul_calls A 2 cc [IR.mk (nR S).neg (nR S).mag, IR.mk x.neg x.mag] w1 hsl (by omega) (by simp; omega)
        rw [e1] at this
        exact this
      have hmc : ∀ w1, Tab w1 → Calls Tryz.prog 54 #[.agg #[.bool (iN ((nR S).i * x.i)), .string (iM ((nR S).i * x.i))], .int .i64 ((nR S).e + x.e)] w1 fun r w' => r = .returned (.agg #[.bool (nR (S * x.d)).neg, .string (nR (S * x.d)).mag, .int .i64 (nR (S * x.d)).e]) ∧ Below w1.heap.size w1 w' := fun w1 hT1 => by
        have hb1 := blen_iv (nR S).neg (nR S).mag
        have hb2 := blen_iv x.neg x.mag
        have hb3 := blen_mul_int (nR S).i x.i
        have := dMake_calls (iN ((nR S).i * x.i)) (iM ((nR S).i * x.i)) ((nR S).e + x.e) w1 hT1 (by rw [iM_size]; unfold NR.i at hb3 ⊢; omega) (by omega) (by omega)
        rw [iv_of, e2] at this
        exact this
      refine sr ?_
      refine lssC (wl_end (wc_seq (cT (wc_skip (k_then (wc_seq (wc_block (sr ?_))))))))
      refine s_indexSl (k := i) UIs.out TIs.size rfl rfl (by omega) (by omega) (by decide) ?_
      refine s_load (vs := [_, _, _]) TIs.out rfl (((hr.ext hh.below).recAt NR.len hx)) rfl (by decide) ?_
      refine alC hh ?_
      intro b5 w5 hh
      refine stC hh 0 [_,_,_] ?_
      intro ws hh
      replace hh : Hp _ (.blk _ _ [_, _, _] _ :: _) _ := hh
      refine wl_end ?_
      refine wc_drawn 11 [[(3, none)], [(13, some 0)], [(5, none)], [(15, some 2)], [(14, some 1), (16, some 3)], [(17, some 4)], [(3, none)], [(19, some 6)], [(5, none)], [(21, some 8)], [(20, some 7), (22, some 9)]] [(10, 23), (9, 22), (8, 21), (7, 20), (6, 19), (5, 18), (4, 17), (3, 16), (2, 15), (1, 14), (0, 13)] hh mixed (by kernel_rfl) ?_
      refine dfa ?_
      refine dlg 1 [_,_] ?_
      refine dfa ?_
      refine dlg 0 [_,_] ?_
      refine dBS [_,_,_,_] ?_
      refine dx_gen (i := 5) (Is (.agg #[.bool (iN ((nR S).i * x.i)), .string (iM ((nR S).i * x.i))])) Is.ext ?_ ?_
      · intro ρ1 w1 hj hR
        obtain ⟨A17, c17, h17, s17⟩ := hR.1
        exact og_enter rfl (run_callf FnIs.out (evs_cons h17 evs_nil)) (hac A17 c17 _ s17) (fun _ _ hq => ⟨_, hq.1, hq.2, rfl⟩)
      refine dfa ?_
      refine dl1 1 ?_
      refine dfa ?_
      refine dl1 0 ?_
      refine dadd ?_
      refine dx_nil ?_
      intro f W hJ hV
      have hb_5 := hJ.bl
      obtain ⟨v23, v22, v21, v20, v19, v18, v17, v16, v15, v14, v13, _⟩ := hV
      obtain ⟨A17, c17, e17, f17⟩ : Rows _ _ _ (f 4) W := v17
      replace hh := hJ.hp
      refine wl_cast (updL_K (eql_cons v23 (eql_cons v22 (eql_cons v21 (eql_cons v20 (eql_cons v19 (eql_cons v18 (eql_cons e17 (eql_cons v16 (eql_cons v15 (eql_cons v14 (eql_cons v13 eql_nil)))))))))))) ?_
      dsimp only [updK]
      clear e17 hJ
      refine s_callf (hmc _ (hT.hp hh)) FnIs.out rfl (by decide) ?_
      rintro e_ w24 ⟨rfl, hb_⟩
      refine ⟨_, rfl, ?_⟩
      replace hh := hh.ext hb_
      refine stC hh 1 [_,_,_] ?_
      intro ws hh
      replace hh : Hp _ (_ :: .blk _ _ [_, _, _] _ :: _) _ := hh
      refine wl_nil (b_norm (k_then (wc_region ?_)))
      refine addC (mI (wl_nil (k_then ?_)))
      replace hh := hh.sub (List.sublist_cons_self _ _)
      refine ⟨⟨i + 1, _, by omega, rfl, hS3.symm, hh⟩, by show n - (i + 1) < n - i; omega, ?_⟩
      (repeat (first | exact agree_mask _ _ _ | refine agree_upd rfl ?_ | refine agree_mask2 rfl ?_))
    · refine sr ?_
      refine lssC (wl_end (wc_seq (cF ?_)))
      refine wc_exit ?_
      refine k_exit (k_exit (b_here (k_then (sr ?_))))
      refine lgC hh 0 [_,_,_] ?_
      refine stC hh 1 [_,_,_] ?_
      intro ws hh
      replace hh : Hp _ (_ :: .blk _ _ [_, _, _] _ :: _) _ := hh
      refine wl_end (wc_ret ?_)
      refine retc1 (by first | exact .inr rfl | exact .inl rfl) rfl (r_cell rfl (lv_agg (vs := [_, _, _]) TIs.out (hh.rd_blk_at (i := 1) (n := 3) rfl rfl) rfl) r_nil) ?_
      rw [List.take_of_length_le (by omega)] at hS2
      rw [hS2]
      exact ⟨rfl, hh.below⟩
end Go.Proofs.YthmmofllajkejaaGreatDoor

/- The walks through the program's dyadic numbers (dyad): powers, rounding, the least and the greatest. -/
namespace Go.Proofs.YthmmofllajkejaaGreatDoor
open Go.RowKit
-- umode
theorem owp_pow (i p : Int) (n : Nat) : Dyadic.ofIntWithPrec i p ^ n = Dyadic.ofIntWithPrec (i ^ n) (p * n) := by
  induction n with
  | zero => rw [Dyadic.pow_zero]; simp; rfl
  | succ n ih => rw [Dyadic.pow_succ, ih, owp_mul, Int.pow_succ, Int.natCast_add, Int.mul_add]; simp
theorem nR_bd (i p : Int) : (nR (Dyadic.ofIntWithPrec i p)).mag.size ≤ (blen i.natAbs + 7) / 8 ∧ (i = 0 ∨ -p ≤ (nR (Dyadic.ofIntWithPrec i p)).e ∧ (nR (Dyadic.ofIntWithPrec i p)).e ≤ -p + blen i.natAbs) ∧ (i = 0 → (nR (Dyadic.ofIntWithPrec i p)).e = 0) := by
  by_cases h0 : i = 0
  · subst h0
    rw [owp_zero, nR_zero]
    exact ⟨Nat.zero_le _, .inl rfl, fun _ => rfl⟩
  · have h2 := two_pow_le_of_tz h0
    rw [owp_odd h0, nR]
    simp only
    refine ⟨?_, .inr ⟨by omega, ?_⟩, fun h => absurd h h0⟩
    · rw [iM_size]
      have : blen (i >>> i.trailingZeros).natAbs ≤ blen i.natAbs := by
        apply blen_le
        refine Nat.lt_of_le_of_lt ?_ (lt_blen _)
        rw [Int.shiftRight_eq_div_pow]
        exact Int.natAbs_ediv_le_natAbs _ _
      omega
    · have h3 : 2 ^ i.trailingZeros < 2 ^ blen i.natAbs := Nat.lt_of_le_of_lt h2 (lt_blen _)
      have := (Nat.pow_lt_pow_iff_right (by omega)).1 h3
      omega
theorem dPow_calls (a : NR) (n : Int) (w : World) (hT : Tab w) (ha : a.ok) (hs : n.toNat * a.mag.size ≤ 1000000) (hn : n ≤ 1000) :
    Calls Tryz.prog 60 #[.agg #[.bool a.neg, .string a.mag, .int .i64 a.e], .int .i64 n] w fun r w' => r = .returned (.agg #[.bool (nR (a.d ^ n.toNat)).neg, .string (nR (a.d ^ n.toNat)).mag, .int .i64 (nR (a.d ^ n.toNat)).e]) ∧ Below w.heap.size w w' := by
  have hh := Hp.start w
  obtain ⟨ha1, ha2, ha3⟩ := ha
  obtain ⟨_, fa1, fa2, fa3⟩ := raw_form (a := a) ⟨ha1, ha2, ha3⟩
  have hsz : (nR a.d).mag.size ≤ a.mag.size := by
    have := (nR_bd a.i (-a.e)).1
    have h2 := blen_iv a.neg a.mag
    unfold NR.d NR.i at *
    omega
  have hms : n.toNat * (nR a.d).mag.size ≤ n.toNat * a.mag.size := Nat.mul_le_mul_left _ hsz
  have e1 : (if (0 : Int) > n then 0 else n) = (n.toNat : Int) := by split <;> omega
  have hm : n.toNat ≤ 1000 := by omega
  have hlo : -18000000 * 1000 ≤ (nR a.d).e * (n.toNat : Int) := by
    have h1 : (-18000000 : Int) * n.toNat ≤ (nR a.d).e * n.toNat := Int.mul_le_mul_of_nonneg_right fa2 (by omega)
    omega
  have hhi : (nR a.d).e * (n.toNat : Int) ≤ 18000000 * 1000 := by
    have h1 : (nR a.d).e * n.toNat ≤ (18000000 : Int) * n.toNat := Int.mul_le_mul_of_nonneg_right fa3 (by omega)
    omega
  have hpc := fun w1 => wPow_calls (nR a.d).neg (nR a.d).mag n w1 (by omega) (by omega) (by omega)
  have hmc : ∀ w1, Tab w1 → Calls Tryz.prog 54 #[.agg #[.bool (iN (iv (nR a.d).neg (nR a.d).mag ^ n.toNat)), .string (iM (iv (nR a.d).neg (nR a.d).mag ^ n.toNat))], .int .i64 ((nR a.d).e * (n.toNat : Int))] w1 fun r w' => r = .returned (.agg #[.bool (nR (a.d ^ n.toNat)).neg, .string (nR (a.d ^ n.toNat)).mag, .int .i64 (nR (a.d ^ n.toNat)).e]) ∧ Below w1.heap.size w1 w' := fun w1 hT1 => by
    have hb := blen_pow_int (iv (nR a.d).neg (nR a.d).mag) n.toNat
    have hb2 := blen_iv (nR a.d).neg (nR a.d).mag
    have hb3 : n.toNat * blen (iv (nR a.d).neg (nR a.d).mag).natAbs ≤ n.toNat * (8 * (nR a.d).mag.size) := Nat.mul_le_mul_left _ hb2
    rw [Nat.mul_left_comm] at hb3
    have := dMake_calls (iN (iv (nR a.d).neg (nR a.d).mag ^ n.toNat)) (iM (iv (nR a.d).neg (nR a.d).mag ^ n.toNat)) ((nR a.d).e * (n.toNat : Int)) w1 hT1 (by rw [iM_size]; omega) (by omega) (by omega)
    have e2 : Dyadic.ofIntWithPrec (iv (nR a.d).neg (nR a.d).mag ^ n.toNat) (-((nR a.d).e * (n.toNat : Int))) = a.d ^ n.toNat := by
      have h3 := nR_d a.d
      conv => rhs; rw [← h3, NR.d, owp_pow]
      rw [Int.neg_mul]; rfl
    rw [iv_of, e2] at this
    exact this
  refine calls_vc (N := 17) (l := [.agg #[.bool a.neg, .string a.mag, .int .i64 a.e], .int .i64 n]) Tryz.func60 rfl rfl (by simp) ?_
  refine sr ?_
  refine bxC hh [_,_,_] ?_
  intro b2 w2 hh
  refine alC hh ?_
  intro b4 w4 hh
  refine wl_end (sr ?_)
  refine lgC hh 1 [_,_,_] ?_
  refine s_callf (dForm_calls a _ (hT.hp hh) (by omega) (by omega) (by omega)) FnIs.out rfl (by decide) ?_
  rintro e_ w6 ⟨rfl, hb_⟩
  refine ⟨_, rfl, ?_⟩
  replace hh := hh.ext hb_
  refine stC hh 1 [_,_,_] ?_
  intro ws hh
  replace hh : Hp _ (_ :: .blk _ _ [_, _, _] _ :: _) _ := hh
  refine wl_end (wc_seq ?_)
  refine wc_drawn 9 [[(2, none)], [(7, some 0)], [(1, none)], [(8, some 1), (9, some 2)], [(2, none)], [(11, some 4)], [(1, none)], [(13, some 6)], [(12, some 5), (14, some 7)]] [(8, 15), (7, 14), (6, 13), (5, 12), (4, 11), (3, 10), (2, 9), (1, 8), (0, 7)] hh mixed (by kernel_rfl) ?_
  refine dfa ?_
  refine dlg 1 [_,_] ?_
  refine dmI ?_
  refine dC (fun _ hj => hpc _) ?_
  refine dfa ?_
  refine dl1 1 ?_
  refine dmI ?_
  refine dx_gen (i := 7) (Is (.int .i64 (n.toNat : Int))) (Is.ext) ?_ ?_
  · intro ρ1 w1 hj hR
    exact og_val rfl ((x_max (ρ := ρ1) (x := .tmp 13) (show ρ1 13 = Value.int .i64 n from hR.1) rfl).trans (by rw [e1])) ⟨Below.refl _ _, rfl⟩
  refine dmul ?_
  refine dx_nil ?_
  intro f W hJ hV
  have hb_2 := hJ.bl
  obtain ⟨v15, v14, v13, v12, v11, v10, v9, v8, v7, _⟩ := hV
  replace hh := hJ.hp
  refine wl_cast (updL_K (eql_cons v15 (eql_cons v14 (eql_cons v13 (eql_cons v12 (eql_cons v11 (eql_cons v10 (eql_cons v9 (eql_cons v8 (eql_cons v7 eql_nil)))))))))) ?_
  dsimp only [updK]
  clear hJ
  refine s_callf (hmc _ (hT.hp hh)) FnIs.out rfl (by decide) ?_
  rintro e_ w16 ⟨rfl, hb_⟩
  refine ⟨_, rfl, ?_⟩
  replace hh := hh.ext hb_
  refine stC hh 0 [_,_,_] ?_
  intro ws hh
  replace hh : Hp _ (.blk _ _ [_, _, _] _ :: _) _ := hh
  refine wl_end (wc_ret ?_)
  refine retc1 (by first | exact .inr rfl | exact .inl rfl) rfl (r_cell rfl (lv_agg (vs := [_, _, _]) TIs.out (hh.rd_blk_at (i := 0) (n := 3) rfl rfl) rfl) r_nil) ?_
  exact ⟨rfl, hh.below⟩
theorem floor_keep {x : Dyadic} {p : Int} (h : -p ≤ (nR x).e) : x.roundDown p = x := by
  cases x with
  | zero => rfl
  | ofOdd n k hn =>
    simp only [nR] at h
    exact Dyadic.roundDown_eq_self_of_le (by simp [Dyadic.precision]; omega)
theorem floor_cut {x : Dyadic} {p : Int} (h : ¬ -p ≤ (nR x).e) : x.roundDown p = Dyadic.ofIntWithPrec (intAt x p) p := by
  cases x with
  | zero => rfl
  | ofOdd n k hn =>
    simp only [nR] at h
    obtain ⟨l, hl⟩ := Int.eq_ofNat_of_zero_le (show 0 ≤ k - p by omega)
    simp only [Dyadic.roundDown, intAt, shI]
    rw [hl, if_neg (by omega)]
    show Dyadic.ofIntWithPrec (n >>> l) p = _
    rw [Int.shiftRight_eq_div_pow, show -(p - k) = (l : Int) by omega, Int.toNat_natCast, Int.natCast_pow]
    rfl
theorem dFloor_calls (a : NR) (p : Int) (w : World) (hT : Tab w) (ha : a.ok) (h1 : -1000000 ≤ p) (h2 : p ≤ 1000000) :
    Calls Tryz.prog 58 #[.agg #[.bool a.neg, .string a.mag, .int .i64 a.e], .int .i64 p] w fun r w' => r = .returned (.agg #[.bool (nR (a.d.roundDown p)).neg, .string (nR (a.d.roundDown p)).mag, .int .i64 (nR (a.d.roundDown p)).e]) ∧ Below w.heap.size w w' := by
  have hh := Hp.start w
  obtain ⟨ha1, ha2, ha3⟩ := ha
  obtain ⟨_, fa1, fa2, fa3⟩ := raw_form (a := a) ⟨ha1, ha2, ha3⟩
  by_cases hk : -p ≤ (nR a.d).e
  · rw [floor_keep hk]
    refine calls_vc (N := 20) (l := [.agg #[.bool a.neg, .string a.mag, .int .i64 a.e], .int .i64 p]) Tryz.func58 rfl rfl (by simp) ?_
    refine sr ?_
    refine bxC hh [_,_,_] ?_
    intro b2 w2 hh
    refine alC hh ?_
    intro b4 w4 hh
    refine wl_end (sr ?_)
    refine lgC hh 1 [_,_,_] ?_
    refine s_callf (dForm_calls a _ (hT.hp hh) (by omega) (by omega) (by omega)) FnIs.out rfl (by decide) ?_
    rintro e_ w6 ⟨rfl, hb_⟩
    refine ⟨_, rfl, ?_⟩
    replace hh := hh.ext hb_
    refine stC hh 1 [_,_,_] ?_
    intro ws hh
    replace hh : Hp _ (_ :: .blk _ _ [_, _, _] _ :: _) _ := hh
    refine wl_end (wc_seq (sr (faC ?_)))
    refine l1C hh 1 ?_
    refine mI ?_
    refine s_negi rfl (by omega) (by omega) (by decide) ?_
    refine geqC (wl_end (cT (sr ?_)))
    refine lgC hh 1 [_,_,_] ?_
    refine stC hh 0 [_,_,_] ?_
    intro ws hh
    replace hh : Hp _ (.blk _ _ [_, _, _] _ :: _) _ := hh
    refine wl_end (wc_ret (k_ret ?_))
    refine retc1 (by first | exact .inr rfl | exact .inl rfl) rfl (r_cell rfl (lv_agg (vs := [_, _, _]) TIs.out (hh.rd_blk_at (i := 0) (n := 3) rfl rfl) rfl) r_nil) ?_
    exact ⟨rfl, hh.below⟩
  · rw [floor_cut hk]
    have hb := intAt_blen a.d p
    have hcx := fun w1 hT1 => don_calls (-p) (nR a.d) w1 hT1 (by omega) (by omega) (by omega)
    rw [nR_i_shift] at hcx
    have hmc := fun w1 hT1 => dMake_calls (iN (intAt a.d p)) (iM (intAt a.d p)) (-p) w1 hT1 (by rw [iM_size]; omega) (by omega) (by omega)
    rw [iv_of, Int.neg_neg] at hmc
    refine calls_vc (N := 20) (l := [.agg #[.bool a.neg, .string a.mag, .int .i64 a.e], .int .i64 p]) Tryz.func58 rfl rfl (by simp) ?_
    refine sr ?_
    refine bxC hh [_,_,_] ?_
    intro b2 w2 hh
    refine alC hh ?_
    intro b4 w4 hh
    refine wl_end (sr ?_)
    refine lgC hh 1 [_,_,_] ?_
    refine s_callf (dForm_calls a _ (hT.hp hh) (by omega) (by omega) (by omega)) FnIs.out rfl (by decide) ?_
    rintro e_ w6 ⟨rfl, hb_⟩
    refine ⟨_, rfl, ?_⟩
    replace hh := hh.ext hb_
    refine stC hh 1 [_,_,_] ?_
    intro ws hh
    replace hh : Hp _ (_ :: .blk _ _ [_, _, _] _ :: _) _ := hh
    refine wl_end (wc_seq (sr (faC ?_)))
    refine l1C hh 1 ?_
    refine mI ?_
    refine s_negi rfl (by omega) (by omega) (by decide) ?_
    refine geqC (wl_end (cF (wc_skip (k_then (sr (mI ?_))))))
    refine s_negi rfl (by omega) (by omega) (by decide) ?_
    refine lgC hh 1 [_,_,_] ?_
    refine s_callf (hcx _ (hT.hp hh)) FnIs.out rfl (by decide) ?_
    rintro e_ w16 ⟨rfl, hb_⟩
    refine ⟨_, rfl, ?_⟩
    replace hh := hh.ext hb_
    refine mI ?_
    refine s_negi rfl (by omega) (by omega) (by decide) ?_
    refine s_callf (hmc _ (hT.hp hh)) FnIs.out rfl (by decide) ?_
    rintro e_ w19 ⟨rfl, hb_⟩
    refine ⟨_, rfl, ?_⟩
    replace hh := hh.ext hb_
    refine stC hh 0 [_,_,_] ?_
    intro ws hh
    replace hh : Hp _ (.blk _ _ [_, _, _] _ :: _) _ := hh
    refine wl_end (wc_ret ?_)
    refine retc1 (by first | exact .inr rfl | exact .inl rfl) rfl (r_cell rfl (lv_agg (vs := [_, _, _]) TIs.out (hh.rd_blk_at (i := 0) (n := 3) rfl rfl) rfl) r_nil) ?_
    exact ⟨rfl, hh.below⟩
theorem floor_bd {a : NR} {p : Int} (ha : a.ok) (h1 : -1000000 ≤ p) (h2 : p ≤ 1000000) : (nR (a.d.roundDown p)).mag.size ≤ 2000000 ∧ -20000000 ≤ (nR (a.d.roundDown p)).e ∧ (nR (a.d.roundDown p)).e ≤ 20000000 := by
  obtain ⟨_, fa1, fa2, fa3⟩ := raw_form ha
  by_cases hk : -p ≤ (nR a.d).e
  · rw [floor_keep hk]
    exact ⟨by omega, by omega, by omega⟩
  · rw [floor_cut hk]
    have hb := intAt_blen a.d p
    obtain ⟨b1, b2, b3⟩ := nR_bd (intAt a.d p) p
    refine ⟨by omega, ?_, ?_⟩
    · rcases b2 with b2 | b2
      · rw [b3 b2]; omega
      · omega
    · rcases b2 with b2 | b2
      · rw [b3 b2]; omega
      · omega
theorem NR.ok_of {x : Dyadic} (h1 : (nR x).mag.size ≤ 1000000) (h2 : -10000000 ≤ (nR x).e) (h3 : (nR x).e ≤ 10000000) : (nR x).ok := ⟨h1, h2, h3⟩
theorem neg_bd (x : Dyadic) : (nR (-x)).mag = (nR x).mag ∧ (nR (-x)).e = (nR x).e := by
  cases x with
  | zero => exact ⟨rfl, rfl⟩
  | ofOdd n k h =>
    refine ⟨?_, rfl⟩
    show iM (-n) = iM n
    rw [iM, iM, Int.natAbs_neg]
theorem dCeil_calls (a : NR) (p : Int) (w : World) (hT : Tab w) (ha : a.ok) (ha' : (nR a.d).ok) (h1 : -1000000 ≤ p) (h2 : p ≤ 1000000) :
    Calls Tryz.prog 59 #[.agg #[.bool a.neg, .string a.mag, .int .i64 a.e], .int .i64 p] w fun r w' => r = .returned (.agg #[.bool (nR (-((-a.d).roundDown p))).neg, .string (nR (-((-a.d).roundDown p))).mag, .int .i64 (nR (-((-a.d).roundDown p))).e]) ∧ Below w.heap.size w w' := by
  have hh := Hp.start w
  obtain ⟨ha1, ha2, ha3⟩ := ha
  obtain ⟨n1, n2⟩ := neg_bd a.d
  have hno : (nR (-a.d)).ok := by unfold NR.ok; rw [n1, n2]; exact ha'
  have hfb := floor_bd hno h1 h2
  have hfc := fun w1 hT1 => dFloor_calls (nR (-a.d)) p w1 hT1 hno h1 h2
  rw [nR_d] at hfb hfc
  have hnc := fun w1 hT1 => dNeg_calls (nR ((-a.d).roundDown p)) w1 hT1 (by omega) (by omega) (by omega)
  rw [nR_d] at hnc
  refine calls_vc (N := 10) (l := [.agg #[.bool a.neg, .string a.mag, .int .i64 a.e], .int .i64 p]) Tryz.func59 rfl rfl (by simp) ?_
  refine sr ?_
  refine bxC hh [_,_,_] ?_
  intro b2 w2 hh
  refine alC hh ?_
  intro b4 w4 hh
  refine wl_end (sr ?_)
  refine lgC hh 1 [_,_,_] ?_
  refine s_callf (dNeg_calls a _ (hT.hp hh) (by omega) (by omega) (by omega)) FnIs.out rfl (by decide) ?_
  rintro e_ w6 ⟨rfl, hb_⟩
  refine ⟨_, rfl, ?_⟩
  replace hh := hh.ext hb_
  refine mI ?_
  refine s_callf (hfc _ (hT.hp hh)) FnIs.out rfl (by decide) ?_
  rintro e_ w8 ⟨rfl, hb_⟩
  refine ⟨_, rfl, ?_⟩
  replace hh := hh.ext hb_
  refine s_callf (hnc _ (hT.hp hh)) FnIs.out rfl (by decide) ?_
  rintro e_ w9 ⟨rfl, hb_⟩
  refine ⟨_, rfl, ?_⟩
  replace hh := hh.ext hb_
  refine stC hh 0 [_,_,_] ?_
  intro ws hh
  replace hh : Hp _ (.blk _ _ [_, _, _] _ :: _) _ := hh
  refine wl_end (wc_ret ?_)
  refine retc1 (by first | exact .inr rfl | exact .inl rfl) rfl (r_cell rfl (lv_agg (vs := [_, _, _]) TIs.out (hh.rd_blk_at (i := 0) (n := 3) rfl rfl) rfl) r_nil) ?_
  exact ⟨rfl, hh.below⟩
/-- The one of all ahead of which, as they come, none is. -/
def bestD (f : Dyadic → Dyadic → Bool) : List Dyadic → Dyadic
  | [] => 0
  | a :: r => r.foldl (fun out a => if f a out then a else out) a
theorem bestD_snoc (f : Dyadic → Dyadic → Bool) {l : List Dyadic} (h : l ≠ []) (x : Dyadic) : bestD f (l ++ [x]) = if f x (bestD f l) then x else bestD f l := by
  cases l with
  | nil => exact absurd rfl h
  | cons a r =>
    show (r ++ [x]).foldl _ a = _
    rw [List.foldl_append]
    rfl
theorem dfirst_calls (L : Option Addr) (n c : Nat) (l : List NR) (g : FuncId) (f : Dyadic → Dyadic → Bool) (w : World) (hT : Tab w) (hS : Sl w L n 3 (recs NR.cells l)) (hl : ∀ a ∈ l, a.ok) (hn : n ≤ 1000000) [FnIs Tryz.prog g]
    (hg : ∀ (a b : NR) (w : World), Tab w → a.ok → b.ok → Calls Tryz.prog g #[.agg #[.bool a.neg, .string a.mag, .int .i64 a.e], .agg #[.bool b.neg, .string b.mag, .int .i64 b.e]] w fun r w' => r = .returned (.bool (f a.d b.d)) ∧ Below w.heap.size w w') :
    Calls Tryz.prog 64 #[.slice L n c, .func (.func g) #[] #[]] w fun r w' => r = .returned (.agg #[.bool (nR (bestD f (l.map NR.d))).neg, .string (nR (bestD f (l.map NR.d))).mag, .int .i64 (nR (bestD f (l.map NR.d))).e]) ∧ Below w.heap.size w w' := by
  have hln := hS.recLen NR.len (by omega)
  have hh := Hp.start w
  refine calls_vc (N := 27) (l := [.slice L n c, .func (.func g) #[] #[]]) Tryz.func64 rfl rfl (by simp) ?_
  refine sr ?_
  refine alC hh ?_
  intro b4 w4 hh
  refine wl_end (sr ?_)
  refine alC hh ?_
  intro b5 w5 hh
  refine wl_end (wc_seq (sr (mL (lenC (mI (wl_end (wc_block ?_)))))))
  refine wc_loop1 [6, 7, 10, 11, 12, 13, 14, 15, 16, 17, 18, 19, 20, 21, 22, 23, 24] 10
    (fun j w' => ∃ (i : Nat) (o : NR), i ≤ n ∧ j = .int .i64 i ∧ o.ok ∧ o.d = bestD f ((l.take i).map NR.d) ∧ Hp w [.blk b5 25 [.bool o.neg, .string o.mag, .int .i64 o.e] (0, 0), .blk b4 25 [.bool false, .string (ByteArray.mk #[]), .int .i64 0] (0, 0)] w')
    (fun j _ => n - (intOf j).toNat) ?_ ?_
  · exact ⟨0, nR 0, Nat.zero_le _, rfl, (Sz.zero 0).ok (by omega), rfl, hh⟩
  · clear hh
    rintro ρ' j w' ⟨i, o, hi, rfl, hok, hod, hh⟩
    by_cases hlt : i < n
    · obtain ⟨x, hx⟩ := get_of_lt (l := l) (k := i) (by omega)
      obtain ⟨ad, rfl, hr⟩ := hS.at_ (by omega)
      have hxo := hl x (List.mem_of_getElem? hx)
      have htk : (l.take (i + 1)).map NR.d = (l.take i).map NR.d ++ [x.d] := by rw [take_snoc hx, List.map_append, List.map_singleton]
      by_cases h0 : i = 0
      · subst h0
        refine sr ?_
        refine lssC (wl_end (wc_seq (cT (wc_skip (k_then (wc_seq (wc_block (sr (mI ?_)))))))))
        refine s_indexSl (k := 0) UIs.out TIs.size rfl rfl (by omega) (by omega) (by decide) ?_
        refine s_load (vs := [_, _, _]) TIs.out rfl (((hr.ext hh.below).recAt NR.len hx)) rfl (by decide) ?_
        refine alC hh ?_
        intro b7 w7 hh
        refine aI ?_
        refine stC hh 0 [_,_,_] ?_
        intro ws hh
        replace hh : Hp _ (.blk _ _ [_, _, _] _ :: _) _ := hh
        refine wl_end (sr (mI ?_))
        refine eqlC (mB ?_)
        first | refine gS ?_ | (refine gT ?_; refine s_move (by first | exact ev_func rfl | exact ev_nilf rfl) (by decide) ?_) | refine gV ?_
        first | refine gS ?_ | (refine gT ?_; refine lgC hh 0 [_,_,_] ?_) | refine gV ?_
        first | refine gS ?_ | (refine gT ?_; refine lgC hh 1 [_,_,_] ?_) | refine gV ?_
        refine wl_guard_skip (by decide) rfl rfl (by decide) ?_
        first | refine pkT ?_ | refine pkF ?_
        refine wl_end (cT (wc_region ?_))
        refine lgC hh 0 [_,_,_] ?_
        refine stC hh 1 [_,_,_] ?_
        intro ws hh
        replace hh : Hp _ (_ :: .blk _ _ [_, _, _] _ :: _) _ := hh
        refine wl_nil (b_norm (k_then (wc_region ?_)))
        refine addC (mI (wl_nil (k_then ?_)))
        replace hh := hh.sub (List.sublist_cons_self _ _)
        refine ⟨⟨1, x, by omega, rfl, hxo, by rw [htk]; rfl, hh⟩, by show n - (0 + 1) < n - 0; omega, ?_⟩
        (repeat (first | exact agree_mask _ _ _ | refine agree_upd rfl ?_ | refine agree_mask2 rfl ?_))
      · have hne : (l.take i).map NR.d ≠ [] := by
          intro h
          have := congrArg List.length h
          rw [List.length_map, List.length_take, List.length_nil] at this
          omega
        have hb := bestD_snoc f hne x.d
        rw [← htk, ← hod] at hb
        refine sr ?_
        refine lssC (wl_end (wc_seq (cT (wc_skip (k_then (wc_seq (wc_block (sr (mI ?_)))))))))
        refine s_indexSl (k := i) UIs.out TIs.size rfl rfl (by omega) (by omega) (by decide) ?_
        refine s_load (vs := [_, _, _]) TIs.out rfl (((hr.ext hh.below).recAt NR.len hx)) rfl (by decide) ?_
        refine alC hh ?_
        intro b7 w7 hh
        refine aI ?_
        refine stC hh 0 [_,_,_] ?_
        intro ws hh
        replace hh : Hp _ (.blk _ _ [_, _, _] _ :: _) _ := hh
        refine wl_end (sr (mI ?_))
        refine eqlC (mB ?_)
        first | refine gS ?_ | (refine gT ?_; refine s_move (by first | exact ev_func rfl | exact ev_nilf rfl) (by decide) ?_) | refine gV ?_
        first | refine gS ?_ | (refine gT ?_; refine lgC hh 0 [_,_,_] ?_) | refine gV ?_
        first | refine gS ?_ | (refine gT ?_; refine lgC hh 1 [_,_,_] ?_) | refine gV ?_
        refine wl_guard_take rfl rfl ?_
        refine s_callv (hg x o _ (hT.hp hh) hxo hok) FnIs.out rfl rfl (by decide) ?_
        rintro e_ w21 ⟨rfl, hb_⟩
        refine ⟨_, rfl, ?_⟩
        replace hh := hh.ext hb_
        cases hf : f x.d o.d with
        | true =>
          rw [hf, if_pos rfl] at hb
          first | refine pkT ?_ | refine pkF ?_
          refine wl_end (cT (wc_region ?_))
          refine lgC hh 0 [_,_,_] ?_
          refine stC hh 1 [_,_,_] ?_
          intro ws hh
          replace hh : Hp _ (_ :: .blk _ _ [_, _, _] _ :: _) _ := hh
          refine wl_nil (b_norm (k_then (wc_region ?_)))
          refine addC (mI (wl_nil (k_then ?_)))
          replace hh := hh.sub (List.sublist_cons_self _ _)
          refine ⟨⟨i + 1, x, by omega, rfl, hxo, hb.symm, hh⟩, by show n - (i + 1) < n - i; omega, ?_⟩
          (repeat (first | exact agree_mask _ _ _ | refine agree_upd rfl ?_ | refine agree_mask2 rfl ?_))
        | false =>
          rw [hf] at hb
          first | refine pkT ?_ | refine pkF ?_
          refine wl_end (cF (wc_skip (b_norm (k_then (wc_region ?_)))))
          refine addC (mI (wl_nil (k_then ?_)))
          replace hh := hh.sub (List.sublist_cons_self _ _)
          refine ⟨⟨i + 1, o, by omega, rfl, hok, hb.symm, hh⟩, by show n - (i + 1) < n - i; omega, ?_⟩
          (repeat (first | exact agree_mask _ _ _ | refine agree_upd rfl ?_ | refine agree_mask2 rfl ?_))
    · rw [List.take_of_length_le (by omega)] at hod
      obtain ⟨o1, o2, o3⟩ := hok
      refine sr ?_
      refine lssC (wl_end (wc_seq (cF ?_)))
      refine wc_exit ?_
      refine k_exit (k_exit (b_here (k_then (sr ?_))))
      refine lgC hh 0 [_,_,_] ?_
      refine s_callf (dForm_calls o _ (hT.hp hh) (by omega) (by omega) (by omega)) FnIs.out rfl (by decide) ?_
      rintro e_ w26 ⟨rfl, hb_⟩
      refine ⟨_, rfl, ?_⟩
      replace hh := hh.ext hb_
      rw [hod]
      refine stC hh 1 [_,_,_] ?_
      intro ws hh
      replace hh : Hp _ (_ :: .blk _ _ [_, _, _] _ :: _) _ := hh
      refine wl_end (wc_ret ?_)
      refine retc1 (by first | exact .inr rfl | exact .inl rfl) rfl (r_cell rfl (lv_agg (vs := [_, _, _]) TIs.out (hh.rd_blk_at (i := 1) (n := 3) rfl rfl) rfl) r_nil) ?_
      exact ⟨rfl, hh.below⟩
theorem cmpD_lt (x y : Dyadic) : cmpD x y < 0 ↔ x < y := by
  unfold cmpD
  split
  · rename_i h; simp [h]
  · rename_i h; split <;> simp [h]
theorem cmpD_gt (x y : Dyadic) : 0 < cmpD x y ↔ y < x := by
  unfold cmpD
  split
  · rename_i h
    have : ¬ y < x := by grind
    simp [this]
  · split <;> rename_i h <;> simp [h]
theorem dMin1_calls (a b : NR) (w : World) (hT : Tab w) (ha : a.ok) (hb : b.ok) :
    Calls Tryz.prog 65 #[.agg #[.bool a.neg, .string a.mag, .int .i64 a.e], .agg #[.bool b.neg, .string b.mag, .int .i64 b.e]] w fun r w' => r = .returned (.bool (decide (a.d < b.d))) ∧ Below w.heap.size w w' := by
  have hh := Hp.start w
  have e1 : decide (cmpD a.d b.d < 0) = decide (a.d < b.d) := decide_eq_decide.2 (cmpD_lt _ _)
  refine calls_vc (N := 9) (l := [.agg #[.bool a.neg, .string a.mag, .int .i64 a.e], .agg #[.bool b.neg, .string b.mag, .int .i64 b.e]]) Tryz.func65 rfl rfl (by simp) ?_
  refine sr ?_
  refine bxC hh [_,_,_] ?_
  intro b2 w2 hh
  refine bxC hh [_,_,_] ?_
  intro b3 w3 hh
  refine aB (wl_end (sr ?_))
  refine lgC hh 1 [_,_,_] ?_
  refine lgC hh 0 [_,_,_] ?_
  refine s_callf (dCmp_calls a b _ (hT.hp hh) ha hb) FnIs.out rfl (by decide) ?_
  rintro e_ w7 ⟨rfl, hb_⟩
  refine ⟨_, rfl, ?_⟩
  replace hh := hh.ext hb_
  refine lssC (aB (wl_end (wc_ret ?_)))
  refine ret1 (by first | exact .inr rfl | exact .inl rfl) rfl (v_bool rfl) ?_
  rw [e1]
  exact ⟨rfl, hh.below⟩
theorem dMax1_calls (a b : NR) (w : World) (hT : Tab w) (ha : a.ok) (hb : b.ok) :
    Calls Tryz.prog 66 #[.agg #[.bool a.neg, .string a.mag, .int .i64 a.e], .agg #[.bool b.neg, .string b.mag, .int .i64 b.e]] w fun r w' => r = .returned (.bool (decide (b.d < a.d))) ∧ Below w.heap.size w w' := by
  have hh := Hp.start w
  have e1 : decide (0 < cmpD a.d b.d) = decide (b.d < a.d) := decide_eq_decide.2 (cmpD_gt _ _)
  refine calls_vc (N := 9) (l := [.agg #[.bool a.neg, .string a.mag, .int .i64 a.e], .agg #[.bool b.neg, .string b.mag, .int .i64 b.e]]) Tryz.func66 rfl rfl (by simp) ?_
  refine sr ?_
  refine bxC hh [_,_,_] ?_
  intro b2 w2 hh
  refine bxC hh [_,_,_] ?_
  intro b3 w3 hh
  refine aB (wl_end (sr ?_))
  refine lgC hh 1 [_,_,_] ?_
  refine lgC hh 0 [_,_,_] ?_
  refine s_callf (dCmp_calls a b _ (hT.hp hh) ha hb) FnIs.out rfl (by decide) ?_
  rintro e_ w7 ⟨rfl, hb_⟩
  refine ⟨_, rfl, ?_⟩
  replace hh := hh.ext hb_
  refine gtrC (aB (wl_end (wc_ret ?_)))
  refine ret1 (by first | exact .inr rfl | exact .inl rfl) rfl (v_bool rfl) ?_
  rw [e1]
  exact ⟨rfl, hh.below⟩
theorem dMin_calls (L : Option Addr) (n c : Nat) (l : List NR) (w : World) (hT : Tab w) (hS : Sl w L n 3 (recs NR.cells l)) (hl : ∀ a ∈ l, a.ok) (hn : n ≤ 1000000) :
    Calls Tryz.prog 16 #[.slice L n c] w fun r w' => r = .returned (.agg #[.bool (nR (bestD (fun x y => decide (x < y)) (l.map NR.d))).neg, .string (nR (bestD (fun x y => decide (x < y)) (l.map NR.d))).mag, .int .i64 (nR (bestD (fun x y => decide (x < y)) (l.map NR.d))).e]) ∧ Below w.heap.size w w' := by
  have hh := Hp.start w
  refine calls_vc (N := 5) (l := [.slice L n c]) Tryz.func16 rfl rfl (by simp) ?_
  refine sr ?_
  refine alC hh ?_
  intro b2 w2 hh
  refine wl_end (sr (mL ?_))
  refine s_callf (dfirst_calls L n c l 65 (fun x y => decide (x < y)) _ (hT.hp hh) (hS.ext hh.below) hl hn dMin1_calls) FnIs.out rfl (by decide) ?_
  rintro e_ w4 ⟨rfl, hb_⟩
  refine ⟨_, rfl, ?_⟩
  replace hh := hh.ext hb_
  refine stC hh 0 [_,_,_] ?_
  intro ws hh
  replace hh : Hp _ (.blk _ _ [_, _, _] _ :: _) _ := hh
  refine wl_end (wc_ret ?_)
  refine retc1 (by first | exact .inr rfl | exact .inl rfl) rfl (r_cell rfl (lv_agg (vs := [_, _, _]) TIs.out (hh.rd_blk_at (i := 0) (n := 3) rfl rfl) rfl) r_nil) ?_
  exact ⟨rfl, hh.below⟩
theorem dMax_calls (L : Option Addr) (n c : Nat) (l : List NR) (w : World) (hT : Tab w) (hS : Sl w L n 3 (recs NR.cells l)) (hl : ∀ a ∈ l, a.ok) (hn : n ≤ 1000000) :
    Calls Tryz.prog 17 #[.slice L n c] w fun r w' => r = .returned (.agg #[.bool (nR (bestD (fun x y => decide (y < x)) (l.map NR.d))).neg, .string (nR (bestD (fun x y => decide (y < x)) (l.map NR.d))).mag, .int .i64 (nR (bestD (fun x y => decide (y < x)) (l.map NR.d))).e]) ∧ Below w.heap.size w w' := by
  have hh := Hp.start w
  refine calls_vc (N := 5) (l := [.slice L n c]) Tryz.func17 rfl rfl (by simp) ?_
  refine sr ?_
  refine alC hh ?_
  intro b2 w2 hh
  refine wl_end (sr (mL ?_))
  refine s_callf (dfirst_calls L n c l 66 (fun x y => decide (y < x)) _ (hT.hp hh) (hS.ext hh.below) hl hn dMax1_calls) FnIs.out rfl (by decide) ?_
  rintro e_ w4 ⟨rfl, hb_⟩
  refine ⟨_, rfl, ?_⟩
  replace hh := hh.ext hb_
  refine stC hh 0 [_,_,_] ?_
  intro ws hh
  replace hh : Hp _ (.blk _ _ [_, _, _] _ :: _) _ := hh
  refine wl_end (wc_ret ?_)
  refine retc1 (by first | exact .inr rfl | exact .inl rfl) rfl (r_cell rfl (lv_agg (vs := [_, _, _]) TIs.out (hh.rd_blk_at (i := 0) (n := 3) rfl rfl) rfl) r_nil) ?_
  exact ⟨rfl, hh.below⟩
end Go.Proofs.YthmmofllajkejaaGreatDoor

/- The order of dyadic numbers: what the law DyadOrder says of it. -/
namespace Go.Proofs.YthmmofllajkejaaGreatDoor
theorem cmpD_of_lt {x y : Dyadic} (h : x < y) : cmpD x y = -1 := by rw [cmpD, if_pos h]
theorem cmpD_of_gt {x y : Dyadic} (h : y < x) : cmpD x y = 1 := by
  have : ¬ x < y := by grind
  rw [cmpD, if_neg this, if_pos h]
theorem cmpD_self (x : Dyadic) : cmpD x x = 0 := by
  have : ¬ x < x := by grind
  rw [cmpD, if_neg this, if_neg this]
theorem d_tri (x y : Dyadic) : x < y ∨ x = y ∨ y < x := by
  rcases Classical.em (x < y) with h | h
  · exact .inl h
  · rcases Classical.em (y < x) with h2 | h2
    · exact .inr (.inr h2)
    · exact .inr (.inl (by grind))
theorem cmpD_swap (x y : Dyadic) : cmpD y x = -cmpD x y := by
  rcases d_tri x y with h | h | h
  · rw [cmpD_of_lt h, cmpD_of_gt h]; rfl
  · rw [h, cmpD_self]; rfl
  · rw [cmpD_of_lt h, cmpD_of_gt h]
theorem cmpD_add (x y z : Dyadic) : cmpD (x + z) (y + z) = cmpD x y := by
  rcases d_tri x y with h | h | h
  · rw [cmpD_of_lt h, cmpD_of_lt (by grind)]
  · rw [h, cmpD_self, cmpD_self]
  · rw [cmpD_of_gt h, cmpD_of_gt (by grind)]
theorem cmpD_mul (x y z : Dyadic) : cmpD (x * z) (y * z) = cmpD x y * cmpD z 0 := by
  have h1 := cmp_sign (intAt x (lvlP x y)) (intAt y (lvlP x y)) (lvlP x y)
  have h2 := sign_d (nR z).i (-(nR z).e)
  have h3 := cmp_sign (intAt x (lvlP x y) * (nR z).i) (intAt y (lvlP x y) * (nR z).i) (lvlP x y + -(nR z).e)
  rw [← owp_mul, ← owp_mul, lvl_x, lvl_y, show Dyadic.ofIntWithPrec (nR z).i (-(nR z).e) = z from nR_d z, ← Int.sub_mul, Int.sign_mul] at h3
  rw [lvl_x, lvl_y] at h1
  rw [show Dyadic.ofIntWithPrec (nR z).i (-(nR z).e) = z from nR_d z] at h2
  rw [← h3, h1, h2]
theorem two_half (x y : Dyadic) : (x + y) * twoD (-1) + (x + y) * twoD (-1) = x + y := by
  have h2 : twoD (-1) + twoD (-1) = 1 := by decide +kernel
  grind
theorem cmpD_mid1 (x y : Dyadic) : cmpD x ((x + y) * twoD (-1)) = cmpD x y := by
  have h := two_half x y
  generalize (x + y) * twoD (-1) = m at *
  rcases d_tri x y with h1 | h1 | h1
  · rw [cmpD_of_lt h1, cmpD_of_lt (by grind)]
  · have : x = m := by grind
    rw [← this, h1]
  · rw [cmpD_of_gt h1, cmpD_of_gt (by grind)]
theorem cmpD_mid2 (x y : Dyadic) : cmpD ((x + y) * twoD (-1)) y = cmpD x y := by
  have h := two_half x y
  generalize (x + y) * twoD (-1) = m at *
  rcases d_tri x y with h1 | h1 | h1
  · rw [cmpD_of_lt h1, cmpD_of_lt (by grind)]
  · have : y = m := by grind
    rw [← this, h1]
  · rw [cmpD_of_gt h1, cmpD_of_gt (by grind)]
theorem cmpD_bd (x y : Dyadic) : -1 ≤ cmpD x y ∧ cmpD x y ≤ 1 := by
  unfold cmpD; split <;> (try split) <;> omega
theorem best_lo (x y z : Dyadic) : bestD (fun x y => decide (x < y)) [x, y, z] ∈ [x, y, z] ∧ ∀ v ∈ [x, y, z], ¬ v < bestD (fun x y => decide (x < y)) [x, y, z] := by
  have e : bestD (fun x y => decide (x < y)) [x, y, z] = if z < (if y < x then y else x) then z else if y < x then y else x := by simp [bestD]
  rw [e]
  simp only [List.mem_cons, List.not_mem_nil, or_false]
  split <;> split <;> refine ⟨by grind, fun v hv => ?_⟩ <;> rcases hv with rfl | rfl | rfl <;> grind
theorem best_hi (x y z : Dyadic) : bestD (fun x y => decide (y < x)) [x, y, z] ∈ [x, y, z] ∧ ∀ v ∈ [x, y, z], ¬ bestD (fun x y => decide (y < x)) [x, y, z] < v := by
  have e : bestD (fun x y => decide (y < x)) [x, y, z] = if (if x < y then y else x) < z then z else if x < y then y else x := by simp [bestD]
  rw [e]
  simp only [List.mem_cons, List.not_mem_nil, or_false]
  split <;> split <;> refine ⟨by grind, fun v hv => ?_⟩ <;> rcases hv with rfl | rfl | rfl <;> grind
end Go.Proofs.YthmmofllajkejaaGreatDoor
