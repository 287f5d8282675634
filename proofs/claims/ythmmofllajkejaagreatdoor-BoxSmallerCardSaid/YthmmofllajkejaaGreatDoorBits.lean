/- The walks through math/bits: Mul64, Len64, LeadingZeros64, TrailingZeros64, and what the model says of Add64 and Sub64. -/
import Derived.Test.YthmmofllajkejaaGreatDoorSh
import Derived.Test.YthmmofllajkejaaGreatDoorBase
import Derived.Laws.Externs
import Derived.Lib.Mul64
namespace Go.Proofs.YthmmofllajkejaaGreatDoor
open Go.RowKit
-- umode
section
variable {P : Program} {N : Nat} {ops : Array Oper} {Q : Kq} {ρ : Rf} {w : World} {rest : List Oper} {d : Nat} {ty : TypeId} {pos : String} {af : Array Edge}
/-- A call that the model itself stands in for. -/
theorem s_callx {f : FuncId} {args : Array Operand} {ts : Array TypeId} {vs : List Value} {v : Value} (hc : (callFunc f vs.toArray).run P w = .ok (.value v) w) (ha : evs ρ args.toList = vs) (hN : d < N) (kk : WL P N ops Q rest (upd ρ d v) w) :
    WL P N ops Q (⟨some d, .call ⟨.value (.func f), args, ts⟩, ty, pos, af, none⟩ :: rest) ρ w := by
  have hr : (execOp (ev ρ) ⟨some d, .call ⟨.value (.func f), args, ts⟩, ty, pos, af, none⟩).run P w = .ok (.value v) w := by
    have hx : ev ρ (.func f) = .func (.func f) #[] #[] := rfl
    simp only [execOp, resolve, Deferred.ofValue, hx, invoke, evs_arr args ha]
    simpa using hc
  exact wl_val rfl rfl hN hr kk
end
theorem add64_run (x y c : Nat) (hc : c ≤ 1) (w : World) :
    (callFunc 179 #[.int .u64 x, .int .u64 y, .int .u64 c]).run Tryz.prog w =
      .ok (.value (.tuple #[.int .u64 (((x + y + c) % 18446744073709551616 : Nat) : Int), .int .u64 (((x + y + c) / 18446744073709551616 : Nat) : Int)])) w := by
  rw [run_callFunc_extern Tryz.func179 (by kernel_rfl) (by kernel_rfl) (by kernel_rfl) (e := add64Entry) (by kernel_rfl), run_add64 x y c (by omega) (by omega) (by omega) (by omega)]
  simp only [Result.andThen]
  congr 5 <;> omega
def sub64E : Array Value → Sem Value := fun args => do
  let (x, y, b) ← Extern.MathBitsCarry.three "Sub64" args
  pure (Extern.MathBitsCarry.pair ((x + Extern.MathBitsCarry.m64 - y - b) % Extern.MathBitsCarry.m64) (if x < y + b then 1 else 0))
theorem run_sub64E {P : Program} (x y b : Nat) (hb : b ≤ 1) (w : World) :
    (sub64E #[.int .u64 x, .int .u64 y, .int .u64 b]).run P w =
      .ok (.tuple #[.int .u64 (((x + 18446744073709551616 - y - b) % 18446744073709551616 : Nat) : Int), .int .u64 ((if x < y + b then 1 else 0 : Nat) : Int)]) w := by
  have : b = 0 ∨ b = 1 := by omega
  rcases this with rfl | rfl <;> rfl
theorem sub64_run (x y b : Nat) (hb : b ≤ 1) (w : World) :
    (callFunc 180 #[.int .u64 x, .int .u64 y, .int .u64 b]).run Tryz.prog w =
      .ok (.value (.tuple #[.int .u64 (((x + 18446744073709551616 - y - b) % 18446744073709551616 : Nat) : Int), .int .u64 ((if x < y + b then 1 else 0 : Nat) : Int)])) w := by
  rw [run_callFunc_extern Tryz.func180 (by kernel_rfl) (by kernel_rfl) (by kernel_rfl) (e := sub64E) (by kernel_rfl), run_sub64E x y b hb]
  rfl
theorem mul64_calls (x y : Nat) (w : World) (hx : x < 18446744073709551616) (hy : y < 18446744073709551616) :
    Calls Tryz.prog 185 #[.int .u64 (x : Int), .int .u64 (y : Int)] w fun e w' => e = .returned (.tuple #[.int .u64 ((x * y / 18446744073709551616 : Nat) : Int), .int .u64 ((x * y % 18446744073709551616 : Nat) : Int)]) ∧ Below w.heap.size w w' := by
  refine calls_vc (N := 51) (l := [.int .u64 (x : Int), .int .u64 (y : Int)]) Tryz.func185 rfl rfl (by simp) ?_
  refine sr (aI (aI (wl_end (sr (mI ?_)))))
  refine s_andu (b := 4294967295) rfl rfl (by first | assumption | omega) (by first | assumption | omega) (by decide) ?_
  refine aI (wl_end (sr (mI ?_)))
  refine s_shruc (s := 32) (m := 4294967296) rfl rfl (by decide) (by decide) (by decide) ?_
  refine aI (wl_end (sr (mI ?_)))
  refine s_andu (b := 4294967295) rfl rfl (by first | assumption | omega) (by first | assumption | omega) (by decide) ?_
  refine aI (wl_end (sr (mI ?_)))
  refine s_shruc (s := 32) (m := 4294967296) rfl rfl (by decide) (by decide) (by decide) ?_
  refine aI (wl_end (sr (mI (mI ?_))))
  refine s_mulu rfl rfl (by decide) ?_
  refine aI (wl_end (sr (mI (mI ?_))))
  refine s_mulu rfl rfl (by decide) ?_
  refine mI ?_
  refine s_shruc (s := 32) (m := 4294967296) rfl rfl (by decide) (by decide) (by decide) ?_
  refine s_addu rfl rfl (by decide) ?_
  refine aI (wl_end (sr (mI ?_)))
  refine s_andu (b := 4294967295) rfl rfl (by first | assumption | omega) (by first | assumption | omega) (by decide) ?_
  refine aI (wl_end (sr (mI ?_)))
  refine s_shruc (s := 32) (m := 4294967296) rfl rfl (by decide) (by decide) (by decide) ?_
  refine aI (wl_end (sr (mI (mI (mI ?_)))))
  refine s_mulu rfl rfl (by decide) ?_
  refine s_addu rfl rfl (by decide) ?_
  refine aI (wl_end (sr (mI (mI ?_))))
  refine s_mulu rfl rfl (by decide) ?_
  refine mI ?_
  refine s_addu rfl rfl (by decide) ?_
  refine mI ?_
  refine s_shruc (s := 32) (m := 4294967296) rfl rfl (by decide) (by decide) (by decide) ?_
  refine s_addu rfl rfl (by decide) ?_
  refine aI (wl_end (sr (mI (mI ?_))))
  refine s_mulu rfl rfl (by decide) ?_
  refine aI (wl_end (wc_ret ?_))
  refine ret2 (by first | exact .inr rfl | exact .inl rfl) rfl (v_int rfl) (v_int rfl) ?_
  obtain ⟨bd, bt, bw, hhi⟩ := Lib.mul64_hi x y hx hy
  have ba := Lib.half_mul_le (a := x / 4294967296) (b := y / 4294967296) (by omega) (by omega)
  have bb := Lib.half_mul_le (a := x / 4294967296) (b := y % 4294967296) (by omega) (by omega)
  have bc := Lib.half_mul_le (a := x % 4294967296) (b := y / 4294967296) (by omega) (by omega)
  have em : ∀ z : Nat, z &&& 4294967295 = z % 4294967296 := fun z => Nat.and_two_pow_sub_one_eq_mod z 32
  simp only [em]
  have hb : x * y / 18446744073709551616 < 18446744073709551616 := by
    rw [Nat.div_lt_iff_lt_mul (by omega)]
    exact Nat.mul_lt_mul'' hx hy
  refine ⟨?_, Below.refl _ _⟩
  congr 5
  rw [Nat.mod_eq_of_lt bd, Nat.mod_eq_of_lt (show x / 4294967296 * (y % 4294967296) < 18446744073709551616 by omega), Nat.mod_eq_of_lt bt, Nat.mod_eq_of_lt (show x % 4294967296 * (y / 4294967296) < 18446744073709551616 by omega), Nat.mod_eq_of_lt bw, Nat.mod_eq_of_lt (show x / 4294967296 * (y / 4294967296) < 18446744073709551616 by omega)]
  have key : ∀ A T V : Nat, A + T + V < 18446744073709551616 → ((A + T) % 18446744073709551616 + V) % 18446744073709551616 = A + T + V := by intro A T V h; omega
  rw [← hhi] at hb ⊢
  exact congrArg Nat.cast (key _ _ _ hb)
theorem blen_shift {x k m : Nat} (hm : 2 ^ k = m) (h : m ≤ x) : blen x = k + blen (x / m) := by
  subst hm
  have h0 : x / 2 ^ k ≠ 0 := by
    have := (Nat.div_pos_iff (a := x) (b := 2 ^ k)).2 ⟨Nat.pow_pos (by omega), h⟩
    omega
  have h1 := lt_blen (x / 2 ^ k)
  have h2 := ge_blen h0
  have h3 := blen_pos h0
  have h4 := Nat.div_add_mod x (2 ^ k)
  have h5 := Nat.mod_lt x (Nat.pow_pos (n := k) (show 0 < 2 by omega))
  apply blen_eq
  · rw [Nat.pow_add]
    have : 2 ^ k * (x / 2 ^ k + 1) ≤ 2 ^ k * 2 ^ blen (x / 2 ^ k) := Nat.mul_le_mul_left _ h1
    rw [Nat.mul_succ] at this
    omega
  · have e : k + blen (x / 2 ^ k) - 1 = k + (blen (x / 2 ^ k) - 1) := by omega
    rw [e, Nat.pow_add]
    have : 2 ^ k * 2 ^ (blen (x / 2 ^ k) - 1) ≤ 2 ^ k * (x / 2 ^ k) := Nat.mul_le_mul_left _ h2
    omega
theorem tab_len {T : ByteArray} (hT : T.data.toList = (List.range 256).map fun n => UInt8.ofNat (blen n)) {n : Nat} (h : n < 256) : ∃ c : UInt8, T.data.toList[n]? = some c ∧ c.toNat = blen n ∧ blen n ≤ 8 := by
  have hb : blen n ≤ 8 := blen_le (by omega)
  refine ⟨UInt8.ofNat (blen n), ?_, ?_, hb⟩
  · rw [hT, List.getElem?_map, List.getElem?_range h]; rfl
  · rw [UInt8.toNat_ofNat']; omega
theorem len64_calls (x : Nat) (w : World) (hx : x < 18446744073709551616) :
    Calls Tryz.prog 187 #[.int .u64 (x : Int)] w fun e w' => e = .returned (.int .i64 (blen x)) ∧ Below w.heap.size w w' := by
  refine calls_vc (N := 25) (l := [.int .u64 (x : Int)]) Tryz.func187 rfl rfl (by simp) ?_
  by_cases h32 : 4294967296 ≤ x
  · have := blen_shift (x := x) (k := 32) (m := 4294967296) rfl h32
    refine sr (aI (wl_end (wc_seq (sr (mI ?_)))))
    refine geqC (wl_end (cT (sr (mI ?_))))
    refine s_shruc (s := 32) (m := 4294967296) rfl rfl (by decide) (by decide) (by decide) ?_
    refine aI (wl_end (wc_region (aI (wl_end (wc_seq (sr (mI ?_)))))))
    by_cases h16 : 65536 ≤ (x / 4294967296)
    · have := blen_shift (x := (x / 4294967296)) (k := 16) (m := 65536) rfl h16
      refine geqC (wl_end (cT (sr (mI ?_))))
      refine s_shruc (s := 16) (m := 65536) rfl rfl (by decide) (by decide) (by decide) ?_
      refine aI (wl_end (wc_region (mI ?_)))
      refine addC (aI (wl_end (wc_seq (sr (mI ?_)))))
      by_cases h8 : 256 ≤ ((x / 4294967296) / 65536)
      · have := blen_shift (x := ((x / 4294967296) / 65536)) (k := 8) (m := 256) rfl h8
        refine geqC (wl_end (cT (sr (mI ?_))))
        refine s_shruc (s := 8) (m := 256) rfl rfl (by decide) (by decide) (by decide) ?_
        refine aI (wl_end (wc_region (mI ?_)))
        refine addC (aI (wl_end (sr (mI (mI ?_)))))
        first | refine s_convu_lt UIs.out UIs.out rfl (by first | assumption | omega) (by decide) ?_ | refine s_convu UIs.out UIs.out rfl (by decide) ?_
        obtain ⟨cc, hcc, hcv, hcb⟩ := tab_len (T := _) (by kernel_rfl) (n := (((x / 4294967296) / 65536) / 256)) (by omega)
        refine s_index_str (c := cc) UIs.out rfl rfl (by omega) hcc (by decide) ?_
        skip
        refine s_conv_i64 UIs.out UIs.out rfl (by omega) (by omega) (by decide) ?_
        refine addC (aI (wl_end (wc_ret ?_)))
        refine ret1 (by first | exact .inr rfl | exact .inl rfl) rfl (v_int rfl) ?_
        refine ⟨?_, Below.refl _ _⟩
        congr 2
        rw [hcv]
        omega
      · refine geqC (wl_end (cF (wc_skip (k_then (sr (mI (mI ?_)))))))
        first | refine s_convu_lt UIs.out UIs.out rfl (by first | assumption | omega) (by decide) ?_ | refine s_convu UIs.out UIs.out rfl (by decide) ?_
        obtain ⟨cc, hcc, hcv, hcb⟩ := tab_len (T := _) (by kernel_rfl) (n := (((x / 4294967296) / 65536))) (by omega)
        refine s_index_str (c := cc) UIs.out rfl rfl (by omega) hcc (by decide) ?_
        skip
        refine s_conv_i64 UIs.out UIs.out rfl (by omega) (by omega) (by decide) ?_
        refine addC (aI (wl_end (wc_ret ?_)))
        refine ret1 (by first | exact .inr rfl | exact .inl rfl) rfl (v_int rfl) ?_
        refine ⟨?_, Below.refl _ _⟩
        congr 2
        rw [hcv]
        omega
    · refine geqC (wl_end (cF (wc_skip (k_then (wc_seq (sr (mI ?_)))))))
      by_cases h8 : 256 ≤ ((x / 4294967296))
      · have := blen_shift (x := ((x / 4294967296))) (k := 8) (m := 256) rfl h8
        refine geqC (wl_end (cT (sr (mI ?_))))
        refine s_shruc (s := 8) (m := 256) rfl rfl (by decide) (by decide) (by decide) ?_
        refine aI (wl_end (wc_region (mI ?_)))
        refine addC (aI (wl_end (sr (mI (mI ?_)))))
        first | refine s_convu_lt UIs.out UIs.out rfl (by first | assumption | omega) (by decide) ?_ | refine s_convu UIs.out UIs.out rfl (by decide) ?_
        obtain ⟨cc, hcc, hcv, hcb⟩ := tab_len (T := _) (by kernel_rfl) (n := (((x / 4294967296)) / 256)) (by omega)
        refine s_index_str (c := cc) UIs.out rfl rfl (by omega) hcc (by decide) ?_
        skip
        refine s_conv_i64 UIs.out UIs.out rfl (by omega) (by omega) (by decide) ?_
        refine addC (aI (wl_end (wc_ret ?_)))
        refine ret1 (by first | exact .inr rfl | exact .inl rfl) rfl (v_int rfl) ?_
        refine ⟨?_, Below.refl _ _⟩
        congr 2
        rw [hcv]
        omega
      · refine geqC (wl_end (cF (wc_skip (k_then (sr (mI (mI ?_)))))))
        first | refine s_convu_lt UIs.out UIs.out rfl (by first | assumption | omega) (by decide) ?_ | refine s_convu UIs.out UIs.out rfl (by decide) ?_
        obtain ⟨cc, hcc, hcv, hcb⟩ := tab_len (T := _) (by kernel_rfl) (n := (((x / 4294967296)))) (by omega)
        refine s_index_str (c := cc) UIs.out rfl rfl (by omega) hcc (by decide) ?_
        skip
        refine s_conv_i64 UIs.out UIs.out rfl (by omega) (by omega) (by decide) ?_
        refine addC (aI (wl_end (wc_ret ?_)))
        refine ret1 (by first | exact .inr rfl | exact .inl rfl) rfl (v_int rfl) ?_
        refine ⟨?_, Below.refl _ _⟩
        congr 2
        rw [hcv]
        omega
  · refine sr (aI (wl_end (wc_seq (sr (mI ?_)))))
    refine geqC (wl_end (cF (wc_skip (k_then (wc_seq (sr (mI ?_)))))))
    by_cases h16 : 65536 ≤ (x)
    · have := blen_shift (x := (x)) (k := 16) (m := 65536) rfl h16
      refine geqC (wl_end (cT (sr (mI ?_))))
      refine s_shruc (s := 16) (m := 65536) rfl rfl (by decide) (by decide) (by decide) ?_
      refine aI (wl_end (wc_region (mI ?_)))
      refine addC (aI (wl_end (wc_seq (sr (mI ?_)))))
      by_cases h8 : 256 ≤ ((x) / 65536)
      · have := blen_shift (x := ((x) / 65536)) (k := 8) (m := 256) rfl h8
        refine geqC (wl_end (cT (sr (mI ?_))))
        refine s_shruc (s := 8) (m := 256) rfl rfl (by decide) (by decide) (by decide) ?_
        refine aI (wl_end (wc_region (mI ?_)))
        refine addC (aI (wl_end (sr (mI (mI ?_)))))
        first | refine s_convu_lt UIs.out UIs.out rfl (by first | assumption | omega) (by decide) ?_ | refine s_convu UIs.out UIs.out rfl (by decide) ?_
        obtain ⟨cc, hcc, hcv, hcb⟩ := tab_len (T := _) (by kernel_rfl) (n := (((x) / 65536) / 256)) (by omega)
        refine s_index_str (c := cc) UIs.out rfl rfl (by omega) hcc (by decide) ?_
        skip
        refine s_conv_i64 UIs.out UIs.out rfl (by omega) (by omega) (by decide) ?_
        refine addC (aI (wl_end (wc_ret ?_)))
        refine ret1 (by first | exact .inr rfl | exact .inl rfl) rfl (v_int rfl) ?_
        refine ⟨?_, Below.refl _ _⟩
        congr 2
        rw [hcv]
        omega
      · refine geqC (wl_end (cF (wc_skip (k_then (sr (mI (mI ?_)))))))
        first | refine s_convu_lt UIs.out UIs.out rfl (by first | assumption | omega) (by decide) ?_ | refine s_convu UIs.out UIs.out rfl (by decide) ?_
        obtain ⟨cc, hcc, hcv, hcb⟩ := tab_len (T := _) (by kernel_rfl) (n := (((x) / 65536))) (by omega)
        refine s_index_str (c := cc) UIs.out rfl rfl (by omega) hcc (by decide) ?_
        skip
        refine s_conv_i64 UIs.out UIs.out rfl (by omega) (by omega) (by decide) ?_
        refine addC (aI (wl_end (wc_ret ?_)))
        refine ret1 (by first | exact .inr rfl | exact .inl rfl) rfl (v_int rfl) ?_
        refine ⟨?_, Below.refl _ _⟩
        congr 2
        rw [hcv]
        omega
    · refine geqC (wl_end (cF (wc_skip (k_then (wc_seq (sr (mI ?_)))))))
      by_cases h8 : 256 ≤ ((x))
      · have := blen_shift (x := ((x))) (k := 8) (m := 256) rfl h8
        refine geqC (wl_end (cT (sr (mI ?_))))
        refine s_shruc (s := 8) (m := 256) rfl rfl (by decide) (by decide) (by decide) ?_
        refine aI (wl_end (wc_region (mI ?_)))
        refine addC (aI (wl_end (sr (mI (mI ?_)))))
        first | refine s_convu_lt UIs.out UIs.out rfl (by first | assumption | omega) (by decide) ?_ | refine s_convu UIs.out UIs.out rfl (by decide) ?_
        obtain ⟨cc, hcc, hcv, hcb⟩ := tab_len (T := _) (by kernel_rfl) (n := (((x)) / 256)) (by omega)
        refine s_index_str (c := cc) UIs.out rfl rfl (by omega) hcc (by decide) ?_
        skip
        refine s_conv_i64 UIs.out UIs.out rfl (by omega) (by omega) (by decide) ?_
        refine addC (aI (wl_end (wc_ret ?_)))
        refine ret1 (by first | exact .inr rfl | exact .inl rfl) rfl (v_int rfl) ?_
        refine ⟨?_, Below.refl _ _⟩
        congr 2
        rw [hcv]
        omega
      · refine geqC (wl_end (cF (wc_skip (k_then (sr (mI (mI ?_)))))))
        first | refine s_convu_lt UIs.out UIs.out rfl (by first | assumption | omega) (by decide) ?_ | refine s_convu UIs.out UIs.out rfl (by decide) ?_
        obtain ⟨cc, hcc, hcv, hcb⟩ := tab_len (T := _) (by kernel_rfl) (n := (((x)))) (by omega)
        refine s_index_str (c := cc) UIs.out rfl rfl (by omega) hcc (by decide) ?_
        skip
        refine s_conv_i64 UIs.out UIs.out rfl (by omega) (by omega) (by decide) ?_
        refine addC (aI (wl_end (wc_ret ?_)))
        refine ret1 (by first | exact .inr rfl | exact .inl rfl) rfl (v_int rfl) ?_
        refine ⟨?_, Below.refl _ _⟩
        congr 2
        rw [hcv]
        omega
theorem lz64_calls (x : Nat) (w : World) (hx : x < 18446744073709551616) :
    Calls Tryz.prog 177 #[.int .u64 (x : Int)] w fun e w' => e = .returned (.int .i64 (64 - (blen x : Int))) ∧ Below w.heap.size w w' := by
  have hh := Hp.start w
  have hb : blen x ≤ 64 := blen_le (by simpa using hx)
  refine calls_vc (N := 6) (l := [.int .u64 (x : Int)]) Tryz.func177 rfl rfl (by simp) ?_
  refine sr (aI (wl_end (sr (mI ?_))))
  refine s_callf (len64_calls _ _ hx) FnIs.out rfl (by decide) ?_
  rintro e_ w4 ⟨rfl, hb_⟩
  refine ⟨_, rfl, ?_⟩
  replace hh := hh.ext hb_
  refine subC (aI (wl_end (wc_ret ?_)))
  refine ret1 (by first | exact .inr rfl | exact .inl rfl) rfl (v_int rfl) ?_
  exact ⟨rfl, hh.below⟩
/-- How often a number can be halved. -/
def tz (n : Nat) : Nat := Int.trailingZeros (n : Int)
theorem tz_eq (k m : Nat) : tz (2 ^ k * (2 * m + 1)) = k := by
  have h := Int.trailingZeros_shiftLeft (x := 2 * (m : Int) + 1) (by omega) k
  rw [Int.trailingZeros_two_mul_add_one, Int.shiftLeft_eq] at h
  unfold tz
  have e : ((2 ^ k * (2 * m + 1) : Nat) : Int) = (2 * (m : Int) + 1) * 2 ^ k := by
    rw [Int.natCast_mul, Int.natCast_pow, Int.mul_comm]; rfl
  rw [e]
  have e2 : (((2 ^ k : Nat)) : Int) = 2 ^ k := by simp
  rw [← e2] at h ⊢
  simpa using h
theorem tz_spec {n : Nat} (h : n ≠ 0) : ∃ m, n = 2 ^ tz n * (2 * m + 1) := by
  have : ∀ b n : Nat, n ≤ b → n ≠ 0 → ∃ k m, n = 2 ^ k * (2 * m + 1) := by
    intro b
    induction b with
    | zero => intro n h1 h2; omega
    | succ b ih =>
      intro n h1 h2
      rcases Nat.mod_two_eq_zero_or_one n with h | h
      · obtain ⟨k, m, hk⟩ := ih (n / 2) (by omega) (by omega)
        exact ⟨k + 1, m, by rw [Nat.pow_succ, Nat.mul_comm (2 ^ k), Nat.mul_assoc, ← hk]; omega⟩
      · exact ⟨0, n / 2, by omega⟩
  obtain ⟨k, m, hk⟩ := this n n (Nat.le_refl _) h
  exact ⟨m, by rw [hk, tz_eq]⟩
theorem tz_lt {n k : Nat} (h : n ≠ 0) (hn : n < 2 ^ k) : tz n < k := by
  obtain ⟨m, hm⟩ := tz_spec h
  rcases Nat.lt_or_ge (tz n) k with h1 | h1
  · exact h1
  · have h2 : 2 ^ k ≤ 2 ^ tz n := Nat.pow_le_pow_right (by omega) h1
    have h3 : 2 ^ tz n * 1 ≤ 2 ^ tz n * (2 * m + 1) := Nat.mul_le_mul_left _ (by omega)
    omega
theorem odd_and_neg (m m' j : Nat) (h : m + m' + 1 = 2 ^ j) : (2 * m + 1) &&& (2 * m' + 1) = 1 := by
  apply Nat.eq_of_testBit_eq
  intro i
  rw [Nat.testBit_and]
  cases i with
  | zero => simp
  | succ i =>
    rw [Nat.testBit_succ, Nat.testBit_succ, Nat.testBit_succ]
    have e1 : (2 * m + 1) / 2 = m := by omega
    have e2 : (2 * m' + 1) / 2 = m' := by omega
    have e3 : m' = 2 ^ j - (m + 1) := by omega
    rw [e1, e2, e3, Nat.testBit_two_pow_sub_succ (by omega)]
    cases hi : m.testBit i <;> simp
theorem and_neg {x k m : Nat} (hx : x = 2 ^ k * (2 * m + 1)) (hlt : x < 18446744073709551616) : x &&& (18446744073709551616 - x) % 18446744073709551616 = 2 ^ k := by
  have hW : (18446744073709551616 : Nat) = 2 ^ 64 := by decide
  have hk : k < 64 := by
    have := tz_lt (n := x) (k := 64) (by rw [hx]; exact Nat.mul_ne_zero (Nat.pos_iff_ne_zero.1 (Nat.pow_pos (by omega))) (by omega)) (by rw [← hW]; exact hlt)
    rwa [hx, tz_eq] at this
  have hp : (18446744073709551616 : Nat) = 2 ^ k * (2 * 2 ^ (63 - k)) := by rw [hW, ← Nat.pow_succ', ← Nat.pow_add]; congr 1; omega
  have hm : m < 2 ^ (63 - k) := by
    rw [hx, hp] at hlt
    have := Nat.lt_of_mul_lt_mul_left hlt
    omega
  have e : (18446744073709551616 - x) % 18446744073709551616 = 2 ^ k * (2 * (2 ^ (63 - k) - (m + 1)) + 1) := by
    have h1 : 2 * (2 ^ (63 - k) - (m + 1)) + 1 = 2 * 2 ^ (63 - k) - (2 * m + 1) := by omega
    rw [h1, Nat.mul_sub, ← hp, ← hx, Nat.mod_eq_of_lt]
    have : 0 < 2 ^ k * (2 * m + 1) := Nat.mul_pos (Nat.pow_pos (by omega)) (by omega)
    omega
  rw [e, hx]
  have h2 := odd_and_neg m (2 ^ (63 - k) - (m + 1)) (63 - k) (by omega)
  have h3 := congrArg (· <<< k) h2
  rw [Nat.shiftLeft_and_distrib] at h3
  simp only [Nat.shiftLeft_eq, Nat.one_mul] at h3
  rw [Nat.mul_comm (2 ^ k), Nat.mul_comm (2 ^ k)]
  exact h3
/-- The table that TrailingZeros64 looks into. -/
def tabT : List Nat := [0, 1, 56, 2, 57, 49, 28, 3, 61, 58, 42, 50, 38, 29, 17, 4, 62, 47, 59, 36, 45, 43, 51, 22, 53, 39, 33, 30, 24, 18, 12, 5, 63, 55, 48, 27, 60, 41, 37, 16, 46, 35, 44, 21, 52, 32, 23, 11, 54, 26, 40, 15, 34, 20, 31, 10, 25, 14, 19, 9, 13, 8, 7, 6]
def Tab (w : World) : Prop := Rd w ⟨0, 0, none⟩ (u8n tabT)
theorem Tab.ext {w w' : World} (h : Tab w) (hb : Below w.heap.size w w') : Tab w' := Rd.ext h hb
theorem Tab.hp {w w' : World} {H : List HE} (h : Tab w) (hh : Hp w H w') : Tab w' := Rd.ext h hh.below
theorem tab_at : ∀ k : Fin 64, tabT[2 ^ k.val * 285870213051353865 % 18446744073709551616 / 288230376151711744]? = some k.val ∧ 2 ^ k.val * 285870213051353865 % 18446744073709551616 / 288230376151711744 < 64 := by decide +kernel
theorem tz64_calls (x : Nat) (w : World) (hx : x < 18446744073709551616) (h0 : x ≠ 0) (hT : Tab w) :
    Calls Tryz.prog 139 #[.int .u64 (x : Int)] w fun e w' => e = .returned (.int .i64 (tz x)) ∧ Below w.heap.size w w' := by
  have hh := Hp.start w
  obtain ⟨m, hm⟩ := tz_spec h0
  have hk : tz x < 64 := tz_lt h0 (by simpa using hx)
  have ha := and_neg hm hx
  obtain ⟨t1, t2⟩ := tab_at ⟨tz x, hk⟩
  simp only at t1 t2
  have hc := (show Rd w _ _ from hT).at1 (u8n_at t1)
  refine calls_vc (N := 14) (l := [.int .u64 (x : Int)]) Tryz.func139 rfl rfl (by simp) ?_
  refine sr (aI (wl_end (wc_seq (sr (mI ?_)))))
  refine eqlC (wl_end (cF (wc_skip (k_then (sr (mI (mI ?_)))))))
  refine s_negu rfl (by first | assumption | omega) (by decide) ?_
  refine s_andu rfl rfl hx (Nat.mod_lt _ (by decide)) (by decide) ?_
  rw [ha]
  skip
  refine s_mulu (b := 285870213051353865) rfl rfl (by decide) ?_
  refine s_shruc (s := 58) (m := 288230376151711744) rfl rfl (by decide) (by decide) (by decide) ?_
  refine s_indexArr UIs.out TIs.size rfl rfl rfl (by omega) (by decide) ?_
  refine s_load1 TIs.out rfl (hc) (by decide) ?_
  refine s_conv_i64 UIs.out UIs.out rfl (by omega) (by omega) (by decide) ?_
  refine aI (wl_end (wc_ret ?_))
  refine ret1 (by first | exact .inr rfl | exact .inl rfl) rfl (v_int rfl) ?_
  exact ⟨rfl, hh.below⟩
end Go.Proofs.YthmmofllajkejaaGreatDoor
