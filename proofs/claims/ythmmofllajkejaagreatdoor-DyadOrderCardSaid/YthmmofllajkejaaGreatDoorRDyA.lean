/- The walks through the document's answer for dyadic numbers (ogeeref04): the form. -/
import Derived.Test.YthmmofllajkejaaGreatDoorWholeR
import Derived.Test.YthmmofllajkejaaGreatDoorDrawB
import Derived.Test.YthmmofllajkejaaGreatDoorDyadC
namespace Go.Proofs.YthmmofllajkejaaGreatDoor
open Go.RowKit
-- umode
theorem sb_snoc {n : Nat} (h : n ≠ 0) : sb n = sb (n / 256) ++ [UInt8.ofNat (n % 256)] := by
  rw [sb, digs_step (by omega) h, List.map_cons, List.reverse_cons]
  rfl
theorem sN_last {n : Nat} (h : n ≠ 0) : 1 ≤ (sN n).size ∧ ∃ c : UInt8, (sN n).data.toList[(((sN n).size : Int) - 1).toNat]? = some c ∧ c.toNat = n % 256 := by
  have hl : (sN n).data.toList = sb (n / 256) ++ [UInt8.ofNat (n % 256)] := by rw [sN, str_toList, sb_snoc h]
  have hs : (sN n).size = (sb (n / 256)).length + 1 := by rw [ba_size, hl, List.length_append]; rfl
  refine ⟨by omega, UInt8.ofNat (n % 256), ?_, ?_⟩
  · rw [hl, hs, List.getElem?_append_right (by omega)]
    have : (((sb (n / 256)).length + 1 : Nat) - 1 : Int).toNat - (sb (n / 256)).length = 0 := by omega
    rw [this]
    rfl
  · simp
theorem sN_cut {n : Nat} (h : n ≠ 0) : (sN n).extract 0 ((sN n).size - 1) = sN (n / 256) := by
  have hl : (sN n).data = (sb (n / 256) ++ [UInt8.ofNat (n % 256)]).toArray := by rw [sN, ← sb_snoc h]; rfl
  have hs : (sN n).size = (sb (n / 256)).length + 1 := by rw [ba_size, hl, List.length_append]; rfl
  apply ByteArray.ext
  rw [ByteArray.data_extract, hl, hs]
  show _ = (sb (n / 256)).toArray
  simp
theorem iN_mul {k : Int} (h : 0 < k) (y : Int) : iN (y * k) = iN y := by
  unfold iN
  rw [decide_eq_decide]
  constructor
  · intro h1
    rcases Int.lt_trichotomy y 0 with h2 | h2 | h2
    · exact h2
    · rw [h2] at h1; simp at h1
    · have := Int.mul_pos h2 h; omega
  · intro h1
    exact Int.mul_neg_of_neg_of_pos h1 h
theorem tz_odd {n : Nat} (h : n % 2 = 1) : tz n = 0 := by
  have := tz_eq 0 (n / 2)
  rwa [show 2 ^ 0 * (2 * (n / 2) + 1) = n by omega] at this
/-- The form, as soon as the number is odd. -/
theorem make_odd {y z e : Int} {j : Nat} (hy : y.natAbs % 2 = 1) (hz : y * 2 ^ j = z) : nR (Dyadic.ofIntWithPrec z (-e)) = ⟨iN y, iM y, e + j⟩ := by
  have h1 := make_spec (s := iN y) (a := iM y) (e := e + j) (by rw [iv_of]; omega)
  rw [iv_of, iM, bN_sN, tz_odd hy] at h1
  have h2 := owp_scale y (-(e + j)) j
  rw [hz, show -(e + (j : Int)) + j = -e by omega] at h2
  rw [h2, h1]
  simp
theorem half_bd {y z : Int} {j m : Nat} (hy : y ≠ 0) (hz : y * 2 ^ j = z) (hm : z.natAbs < 2 ^ m) : j < m := by
  have h1 : z.natAbs = y.natAbs * 2 ^ j := by rw [← hz, Int.natAbs_mul, Int.natAbs_pow]; rfl
  have h2 : 1 * 2 ^ j ≤ y.natAbs * 2 ^ j := Nat.mul_le_mul_right _ (by omega)
  have h3 : 2 ^ j < 2 ^ m := by omega
  exact (Nat.pow_lt_pow_iff_right (by omega)).1 h3
theorem yMake_calls (s : Bool) (a : ByteArray) (e : Int) (w : World) (ha : a.size ≤ 10000000) (h1 : -1000000000000 ≤ e) (h2 : e ≤ 1000000000000) :
    Calls Tryz.prog 112 #[.agg #[.bool s, .string a], .int .i64 e] w fun r w' => r = .returned (.agg #[.bool (nR (Dyadic.ofIntWithPrec (iv s a) (-e))).neg, .string (nR (Dyadic.ofIntWithPrec (iv s a) (-e))).mag, .int .i64 (nR (Dyadic.ofIntWithPrec (iv s a) (-e))).e]) ∧ Below w.heap.size w w' := by
  have hh := Hp.start w
  by_cases h0 : iv s a = 0
  · have hm := iM_zero.2 h0
    rw [h0] at hm
    refine calls_vc (N := 50) (l := [.agg #[.bool s, .string a], .int .i64 e]) Tryz.func112 rfl rfl (by simp) ?_
    refine wc_seq ?_
    refine wc_region ?_
    refine wl_box hh (cs := [_, _]) rfl rfl (by decide) ?_
    intro b2 w2 hh
    refine wl_alloc hh TIs.out (by decide) ?_
    intro b4 w4 hh
    refine wl_end ?_
    refine wc_seq ?_
    refine wc_region ?_
    refine s_load (vs := [_, _]) TIs.out rfl (hh.rd_blk_at (i := 1) (n := 2) rfl rfl) rfl (by decide) ?_
    -- at some 6 := Op.call { callee := Callee.value (Operand.func 144), args := #[Operand.tmp 5], argTypes :=
    refine s_callf (xform_calls s a _ (by omega)) FnIs.out rfl (by decide) ?_
    rintro e_ w6 ⟨rfl, hb_⟩
    refine ⟨_, rfl, ?_⟩
    replace hh := hh.ext hb_
    rw [h0]
    refine wl_store hh (i := 1) (vs := [_, _]) rfl rfl rfl rfl TIs.out rfl (by simp) rfl ?_
    intro ws hh
    replace hh : Hp _ (_ :: .blk _ _ [_, _] _ :: _) _ := hh
    refine wl_end ?_
    refine wc_seq ?_
    refine wc_seq ?_
    refine wc_region ?_
    refine s_fieldAddr (off := 1) FIs.out rfl (by decide) ?_
    refine s_load1 TIs.out rfl (hh.cell_blk (i := 1) rfl rfl) (by decide) ?_
    first | refine s_eql_str_t rfl rfl (by first | rfl | assumption | decide) (by decide) ?_ | refine s_eql_str_f rfl rfl (by first | assumption | decide) (by decide) ?_
    refine wl_end ?_
    refine wc_cond_t rfl ?_
    refine wc_seq ?_
    refine wc_region ?_
    refine s_build (cs := [_, _, _]) TIs.out PIs.out rfl rfl (by decide) ?_
    refine wl_store hh (i := 0) (vs := [_, _, _]) rfl rfl rfl rfl TIs.out rfl (by simp) rfl ?_
    intro ws hh
    replace hh : Hp _ (.blk _ _ [_, _, _] _ :: _) _ := hh
    refine wl_end ?_
    refine wc_ret ?_
    refine k_ret ?_
    -- at ('end', 'ret')
    refine retc1 (by first | exact .inr rfl | exact .inl rfl) rfl (r_cell rfl (lv_agg (vs := [_, _, _]) TIs.out (hh.rd_blk_at (i := 0) (n := 3) rfl rfl) rfl) r_nil) ?_
    rw [owp_zero, nR_zero]
    exact ⟨rfl, hh.below⟩
  · have hm : ¬ iM (iv s a) = ByteArray.mk #[] := fun h => h0 (iM_zero.1 h)
    have hzb : (iv s a).natAbs < 2 ^ (8 * a.size) := by
      rw [iv_abs, Nat.pow_mul]
      exact bN_lt a
    refine calls_vc (N := 50) (l := [.agg #[.bool s, .string a], .int .i64 e]) Tryz.func112 rfl rfl (by simp) ?_
    refine wc_seq ?_
    refine wc_region ?_
    refine wl_box hh (cs := [_, _]) rfl rfl (by decide) ?_
    intro b2 w2 hh
    refine wl_alloc hh TIs.out (by decide) ?_
    intro b4 w4 hh
    refine wl_end ?_
    refine wc_seq ?_
    refine wc_region ?_
    refine s_load (vs := [_, _]) TIs.out rfl (hh.rd_blk_at (i := 1) (n := 2) rfl rfl) rfl (by decide) ?_
    -- at some 6 := Op.call { callee := Callee.value (Operand.func 144), args := #[Operand.tmp 5], argTypes :=
    refine s_callf (xform_calls s a _ (by omega)) FnIs.out rfl (by decide) ?_
    rintro e_ w6 ⟨rfl, hb_⟩
    refine ⟨_, rfl, ?_⟩
    replace hh := hh.ext hb_
    refine wl_store hh (i := 1) (vs := [_, _]) rfl rfl rfl rfl TIs.out rfl (by simp) rfl ?_
    intro ws hh
    replace hh : Hp _ (_ :: .blk _ _ [_, _] _ :: _) _ := hh
    refine wl_end ?_
    refine wc_seq ?_
    refine wc_seq ?_
    refine wc_region ?_
    refine s_fieldAddr (off := 1) FIs.out rfl (by decide) ?_
    refine s_load1 TIs.out rfl (hh.cell_blk (i := 1) rfl rfl) (by decide) ?_
    first | refine s_eql_str_t rfl rfl (by first | rfl | assumption | decide) (by decide) ?_ | refine s_eql_str_f rfl rfl (by first | assumption | decide) (by decide) ?_
    refine wl_end ?_
    refine wc_cond_f rfl ?_
    refine wc_skip ?_
    refine k_then ?_
    refine wc_seq ?_
    refine wc_block ?_
    -- at a loop
    generalize hz : iv s a = z at *
    refine wc_loop1 [1, 11, 12, 13, 14, 15, 16, 17, 18, 19, 20, 21, 22, 23, 24, 25, 26, 27, 28] 1
      (fun v w' => ∃ (y : Int) (j : Nat), y ≠ 0 ∧ y * 2 ^ j = z ∧ v = .int .i64 (e + j) ∧ Hp w [.blk b4 25 [.bool false, .string (ByteArray.mk #[]), .int .i64 0] (0, 0), .blk b2 23 [.bool (iN y), .string (iM y)] (0, 0)] w')
      (fun v _ => (e + 8 * a.size + 1 - intOf v).toNat) ?_ ?_
    · exact ⟨z, 0, h0, by simp, by show Value.int _ _ = Value.int _ _; congr 1; omega, hh⟩
    · clear hh
      rintro ρ' v w' ⟨y, j, hy, hyz, rfl, hh⟩
      have hj := half_bd hy hyz hzb
      obtain ⟨hs1, c, hc, hcn⟩ := sN_last (n := y.natAbs) (by omega)
      have hcut := sN_cut (n := y.natAbs) (by omega)
      have hsz : (sN y.natAbs).size ≤ 10000000 := by
        have h1 : z.natAbs = y.natAbs * 2 ^ j := by rw [← hyz, Int.natAbs_mul, Int.natAbs_pow]; rfl
        have h2 : y.natAbs * 1 ≤ y.natAbs * 2 ^ j := Nat.mul_le_mul_left _ (Nat.pow_pos (by omega))
        have h3 : blen y.natAbs ≤ 8 * a.size := blen_le (by omega)
        rw [sN_size]
        omega
      change (iM y).data.toList[(((iM y).size : Int) - 1).toNat]? = some c at hc
      change 1 ≤ (iM y).size at hs1
      change (iM y).extract 0 ((iM y).size - 1) = _ at hcut
      change (iM y).size ≤ _ at hsz
      by_cases hb : y.natAbs % 256 = 0
      · obtain ⟨x, rfl⟩ : ∃ x, y = x * 256 := ⟨y / 256, by omega⟩
        have hx : x ≠ 0 := fun h => hy (by rw [h]; rfl)
        have e1 : iN (x * 256) = iN x := iN_mul (by omega) x
        have e2 : sN ((x * 256).natAbs / 256) = iM x := by rw [iM]; congr 1; omega
        have hxz : x * 2 ^ (j + 8) = z := by rw [← hyz, Int.pow_add, Int.mul_assoc, Int.mul_comm (2 ^ j)]; rfl
        have hj2 := half_bd hx hxz hzb
        refine wc_seq ?_
        refine wc_seq ?_
        refine wc_region ?_
        refine s_fieldAddr (off := 1) FIs.out rfl (by decide) ?_
        refine s_load1 TIs.out rfl (hh.cell_blk (i := 1) rfl rfl) (by decide) ?_
        refine s_fieldAddr (off := 1) FIs.out rfl (by decide) ?_
        refine s_load1 TIs.out rfl (hh.cell_blk (i := 1) rfl rfl) (by decide) ?_
        refine s_len_str UIs.out rfl (by decide) ?_
        refine s_subi rfl rfl (by omega) (by omega) (by decide) ?_
        refine s_index_str UIs.out rfl rfl (by omega) (by assumption) (by decide) ?_
        first | refine s_eql_t rfl rfl (by omega) (by decide) ?_ | refine s_eql_f rfl rfl (by omega) (by decide) ?_ | refine s_eql_v rfl rfl (by decide) ?_
        refine wl_end ?_
        refine wc_cond_t rfl ?_
        refine wc_skip ?_
        refine k_then ?_
        refine wc_block ?_
        refine wc_seq ?_
        refine wc_region ?_
        refine s_fieldAddr (off := 1) FIs.out rfl (by decide) ?_
        refine s_load1 TIs.out rfl (hh.cell_blk (i := 1) rfl rfl) (by decide) ?_
        refine s_fieldAddr (off := 1) FIs.out rfl (by decide) ?_
        refine s_load1 TIs.out rfl (hh.cell_blk (i := 1) rfl rfl) (by decide) ?_
        refine s_len_str UIs.out rfl (by decide) ?_
        refine s_subi rfl rfl (by omega) (by omega) (by decide) ?_
        refine s_slice_str (l := 0) (h := ((iM (x * 256)).size - 1)) UIs.out rfl rfl ⟨_, _, rfl, by omega⟩ (by omega) (by omega) (by decide) ?_
        refine s_fieldAddr (off := 1) FIs.out rfl (by decide) ?_
        refine wl_store hh (i := 1) (vs := [_]) rfl rfl rfl rfl TIs.out rfl (by simp) rfl ?_
        intro ws hh
        replace hh : Hp _ (_ :: .blk _ _ [_, _] _ :: _) _ := hh
        refine wl_end ?_
        refine wc_region ?_
        refine s_move (ev_int rfl) (by decide) ?_
        refine s_addi rfl rfl (by omega) (by omega) (by decide) ?_
        refine s_assign (ev_int rfl) (by decide) ?_
        refine wl_nil ?_
        refine b_norm ?_
        refine k_then ?_
        -- at ('round',)
        rw [hcut, e2, e1] at hh
        refine ⟨⟨x, j + 8, hx, hxz, by show Value.int _ _ = Value.int _ _; congr 1; omega, hh⟩, by show (e + 8 * a.size + 1 - (e + j + 8)).toNat < (e + 8 * a.size + 1 - (e + j)).toNat; omega, ?_⟩
        (repeat (first | exact agree_mask _ _ _ | refine agree_upd rfl ?_ | refine agree_mask2 rfl ?_))
      · refine wc_seq ?_
        refine wc_seq ?_
        refine wc_region ?_
        refine s_fieldAddr (off := 1) FIs.out rfl (by decide) ?_
        refine s_load1 TIs.out rfl (hh.cell_blk (i := 1) rfl rfl) (by decide) ?_
        refine s_fieldAddr (off := 1) FIs.out rfl (by decide) ?_
        refine s_load1 TIs.out rfl (hh.cell_blk (i := 1) rfl rfl) (by decide) ?_
        refine s_len_str UIs.out rfl (by decide) ?_
        refine s_subi rfl rfl (by omega) (by omega) (by decide) ?_
        refine s_index_str UIs.out rfl rfl (by omega) (by assumption) (by decide) ?_
        first | refine s_eql_t rfl rfl (by omega) (by decide) ?_ | refine s_eql_f rfl rfl (by omega) (by decide) ?_ | refine s_eql_v rfl rfl (by decide) ?_
        refine wl_end ?_
        refine wc_cond_f rfl ?_
        refine wc_exit ?_
        refine k_exit ?_
        refine k_exit ?_
        refine b_here ?_
        refine k_then ?_
        refine wc_seq ?_
        refine wc_block ?_
        -- at a loop
        refine wc_loop1 [1, 29, 30, 31, 32, 33, 34, 35, 36, 37, 38, 39, 40, 41, 42, 43, 44, 45, 46] 1
          (fun v w' => ∃ (y : Int) (j : Nat), y ≠ 0 ∧ y * 2 ^ j = z ∧ v = .int .i64 (e + j) ∧ Hp w [.blk b4 25 [.bool false, .string (ByteArray.mk #[]), .int .i64 0] (0, 0), .blk b2 23 [.bool (iN y), .string (iM y)] (0, 0)] w')
          (fun v _ => (e + 8 * a.size + 1 - intOf v).toNat) ?_ ?_
        · exact ⟨y, j, hy, hyz, rfl, hh⟩
        · clear hh hb hcut hcn hc hs1 hsz hj hy hyz
          rintro ρ2 v w2 ⟨y, j, hy, hyz, rfl, hh⟩
          have hj := half_bd hy hyz hzb
          obtain ⟨hs1, c, hc, hcn⟩ := sN_last (n := y.natAbs) (by omega)
          have hsz : (sN y.natAbs).size ≤ 10000000 := by
            have h1 : z.natAbs = y.natAbs * 2 ^ j := by rw [← hyz, Int.natAbs_mul, Int.natAbs_pow]; rfl
            have h2 : y.natAbs * 1 ≤ y.natAbs * 2 ^ j := Nat.mul_le_mul_left _ (Nat.pow_pos (by omega))
            have h3 : blen y.natAbs ≤ 8 * a.size := blen_le (by omega)
            rw [sN_size]
            omega
          change (iM y).data.toList[(((iM y).size : Int) - 1).toNat]? = some c at hc
          change 1 ≤ (iM y).size at hs1
          change (iM y).size ≤ _ at hsz
          by_cases hb : y.natAbs % 2 = 0
          · obtain ⟨x, rfl⟩ : ∃ x, y = x * 2 := ⟨y / 2, by omega⟩
            have hx : x ≠ 0 := fun h => hy (by rw [h]; rfl)
            have hxz : x * 2 ^ (j + 1) = z := by rw [← hyz, Int.pow_add, Int.mul_assoc, Int.mul_comm (2 ^ j)]; rfl
            have hj2 := half_bd hx hxz hzb
            have hof : ∀ w1, Calls Tryz.prog 55 #[.int .i64 2] w1 fun e w' => e = .returned (.agg #[.bool false, .string (iM 2)]) ∧ Below w1.heap.size w1 w' := fun w1 => xOf_calls 2 w1 (by omega) (by omega)
            have hdv : ∀ w1, Calls Tryz.prog 145 #[.agg #[.bool (iN (x * 2)), .string (iM (x * 2))], .agg #[.bool false, .string (iM 2)]] w1 fun e w' => e = .returned (.tuple #[.agg #[.bool (iN x), .string (iM x)], .agg #[.bool (iN 0), .string (iM 0)], .bool true]) ∧ Below w1.heap.size w1 w' := fun w1 => by
              have h2 : bN (iM 2) = 2 := bN_sN 2
              have h3 : (iM 2).size ≤ 10000000 := by rw [iM_size]; decide
              have := xdiv_calls (iN (x * 2)) (iM (x * 2)) (iM 2) w1 hsz h3 (by omega)
              rw [iv_of, h2, show x * 2 / ((2 : Nat) : Int) = x by omega, show x * 2 % ((2 : Nat) : Int) = 0 by omega] at this
              exact this
            refine wc_seq ?_
            refine wc_seq ?_
            refine wc_region ?_
            refine s_fieldAddr (off := 1) FIs.out rfl (by decide) ?_
            refine s_load1 TIs.out rfl (hh.cell_blk (i := 1) rfl rfl) (by decide) ?_
            refine s_fieldAddr (off := 1) FIs.out rfl (by decide) ?_
            refine s_load1 TIs.out rfl (hh.cell_blk (i := 1) rfl rfl) (by decide) ?_
            refine s_len_str UIs.out rfl (by decide) ?_
            refine s_subi rfl rfl (by omega) (by omega) (by decide) ?_
            refine s_index_str UIs.out rfl rfl (by omega) (by assumption) (by decide) ?_
            refine s_remu (b := 2) rfl rfl (by omega) (by decide) ?_
            first | refine s_eql_t rfl rfl (by omega) (by decide) ?_ | refine s_eql_f rfl rfl (by omega) (by decide) ?_ | refine s_eql_v rfl rfl (by decide) ?_
            refine wl_end ?_
            refine wc_cond_t rfl ?_
            refine wc_skip ?_
            refine k_then ?_
            refine wc_block ?_
            refine wc_seq ?_
            -- at the drawn region 8
            refine wc_drawn2 [] [5, 6] [0, 0, 3, 7, 15, 15, 15, 31] 7 [[(2, none)], [], [(39, some 0), (40, some 1)], [(41, some 2)], [(38, some 3)], [(38, some 3)], [(38, some 3)]] [(6, 44), (5, 43), (4, 42), (3, 38), (2, 41), (1, 40), (0, 39)] hh mixed (by kernel_rfl) alok_nil rfl (by repeat (first | exact np_ret | refine np_then ?_ | refine np_blk ?_)) ?_
            refine dx_val (i := 0) (fun ρ1 w1 hj hR => x_load (vs := [_, _]) TIs.out (show ρ1 2 = Value.pointer _ from hR.1) (hj.hp.rd_blk_at (i := 1) (n := 2) rfl rfl) rfl) ?_
            refine dx_call (i := 1) (fun ρ1 w1 hj hR => run_callf FnIs.out (evs_cons rfl evs_nil)) (fun w1 hj => hof _) ?_
            refine dx_call (i := 2) (fun ρ1 w1 hj hR => run_callf FnIs.out (evs_cons (show ρ1 39 = Value.agg (List.toArray _) from hR.1) (evs_cons (show ρ1 40 = Value.agg (List.toArray _) from hR.2.1) evs_nil))) (fun w1 hj => hdv _) ?_
            refine dx_val (i := 3) (fun ρ1 w1 hj hR => x_move (show ρ1 41 = Value.tuple (List.toArray _) from hR.1)) ?_
            refine dx_val (i := 4) (fun ρ1 w1 hj hR => x_extract (show ρ1 38 = Value.tuple (List.toArray _) from hR.1) rfl) ?_
            refine dx_val (i := 5) (fun ρ1 w1 hj hR => x_extract (show ρ1 38 = Value.tuple (List.toArray _) from hR.1) rfl) ?_
            refine dx_val (i := 6) (fun ρ1 w1 hj hR => x_extract (show ρ1 38 = Value.tuple (List.toArray _) from hR.1) rfl) ?_
            refine dx_nil ?_
            intro f W hJ hV _
            have hb_8 := hJ.bl
            obtain ⟨v44, v43, v42, v38, v41, v40, v39, _⟩ := hV
            simp only [updL]
            have e39 : f 0 = _ := v39
            rw [e39]
            have e40 : f 1 = _ := v40
            rw [e40]
            have e41 : f 2 = _ := v41
            rw [e41]
            have e38 : f 3 = _ := v38
            rw [e38]
            have e42 : f 4 = _ := v42
            rw [e42]
            have e43 : f 5 = _ := v43
            rw [e43]
            have e44 : f 6 = _ := v44
            rw [e44]
            replace hh := hJ.hp
            clear e39 e40 e41 e38 e42 e43 e44 hJ
            refine wl_store hh (i := 1) (vs := [_, _]) rfl rfl rfl rfl TIs.out rfl (by simp) rfl ?_
            intro ws hh
            replace hh : Hp _ (_ :: .blk _ _ [_, _] _ :: _) _ := hh
            refine wl_end ?_
            refine wc_region ?_
            refine s_move (ev_int rfl) (by decide) ?_
            refine s_addi rfl rfl (by omega) (by omega) (by decide) ?_
            refine s_assign (ev_int rfl) (by decide) ?_
            refine wl_nil ?_
            refine b_norm ?_
            refine k_then ?_
            -- at ('round',)
            refine ⟨⟨x, j + 1, hx, hxz, by show Value.int _ _ = Value.int _ _; congr 1; omega, hh⟩, by show (e + 8 * a.size + 1 - (e + j + 1)).toNat < (e + 8 * a.size + 1 - (e + j)).toNat; omega, ?_⟩
            (repeat (first | exact agree_mask _ _ _ | refine agree_upd rfl ?_ | refine agree_mask2 rfl ?_))
          · have hfin := make_odd (e := e) (show y.natAbs % 2 = 1 by omega) hyz
            refine wc_seq ?_
            refine wc_seq ?_
            refine wc_region ?_
            refine s_fieldAddr (off := 1) FIs.out rfl (by decide) ?_
            refine s_load1 TIs.out rfl (hh.cell_blk (i := 1) rfl rfl) (by decide) ?_
            refine s_fieldAddr (off := 1) FIs.out rfl (by decide) ?_
            refine s_load1 TIs.out rfl (hh.cell_blk (i := 1) rfl rfl) (by decide) ?_
            refine s_len_str UIs.out rfl (by decide) ?_
            refine s_subi rfl rfl (by omega) (by omega) (by decide) ?_
            refine s_index_str UIs.out rfl rfl (by omega) (by assumption) (by decide) ?_
            refine s_remu (b := 2) rfl rfl (by omega) (by decide) ?_
            first | refine s_eql_t rfl rfl (by omega) (by decide) ?_ | refine s_eql_f rfl rfl (by omega) (by decide) ?_ | refine s_eql_v rfl rfl (by decide) ?_
            refine wl_end ?_
            refine wc_cond_f rfl ?_
            refine wc_exit ?_
            refine k_exit ?_
            refine k_exit ?_
            refine b_here ?_
            refine k_then ?_
            refine wc_seq ?_
            refine wc_region ?_
            refine s_load (vs := [_, _]) TIs.out rfl (hh.rd_blk_at (i := 1) (n := 2) rfl rfl) rfl (by decide) ?_
            refine s_move (ev_int rfl) (by decide) ?_
            refine s_build (cs := [_, _, _]) TIs.out PIs.out rfl rfl (by decide) ?_
            refine wl_store hh (i := 0) (vs := [_, _, _]) rfl rfl rfl rfl TIs.out rfl (by simp) rfl ?_
            intro ws hh
            replace hh : Hp _ (.blk _ _ [_, _, _] _ :: _) _ := hh
            refine wl_end ?_
            refine wc_ret ?_
            -- at ('end', 'ret')
            refine retc1 (by first | exact .inr rfl | exact .inl rfl) rfl (r_cell rfl (lv_agg (vs := [_, _, _]) TIs.out (hh.rd_blk_at (i := 0) (n := 3) rfl rfl) rfl) r_nil) ?_
            rw [hfin]
            exact ⟨rfl, hh.below⟩
/-- Make, at a number whose value one knows. -/
theorem yMake_at {z e : Int} {x : Dyadic} (w : World) (hx : Dyadic.ofIntWithPrec z (-e) = x) (hz : (iM z).size ≤ 10000000) (h1 : -1000000000000 ≤ e) (h2 : e ≤ 1000000000000) :
    Calls Tryz.prog 112 #[.agg #[.bool (iN z), .string (iM z)], .int .i64 e] w fun r w' => r = .returned (.agg #[.bool (nR x).neg, .string (nR x).mag, .int .i64 (nR x).e]) ∧ Below w.heap.size w w' := by
  have := yMake_calls (iN z) (iM z) e w hz h1 h2
  rw [iv_of, hx] at this
  exact this
theorem yOf_calls (n : Int) (w : World) (h1 : -9223372036854775808 ≤ n) (h2 : n ≤ 9223372036854775807) :
    Calls Tryz.prog 96 #[.int .i64 n] w fun r w' => r = .returned (.agg #[.bool (nR (n : Dyadic)).neg, .string (nR (n : Dyadic)).mag, .int .i64 (nR (n : Dyadic)).e]) ∧ Below w.heap.size w w' := by
  have hh := Hp.start w
  have hsz : (iM n).size ≤ 10000000 := by
    rw [iM_size]
    have : blen n.natAbs ≤ 64 := blen_le (by omega)
    omega
  have hc := fun w1 => yMake_at (z := n) (e := 0) (x := (n : Dyadic)) w1 rfl hsz (by omega) (by omega)
  refine calls_vc (N := 6) (l := [.int .i64 n]) Tryz.func96 rfl rfl (by simp) ?_
  refine wc_seq ?_
  refine wc_region ?_
  refine wl_alloc hh TIs.out (by decide) ?_
  intro b2 w2 hh
  refine wl_end ?_
  refine wc_seq ?_
  refine wc_region ?_
  refine s_move (ev_int rfl) (by decide) ?_
  -- at some 4 := Op.call { callee := Callee.value (Operand.func 55), args := #[Operand.tmp 3], argTypes := 
  refine s_callf (xOf_calls n _ h1 h2) FnIs.out rfl (by decide) ?_
  rintro e_ w4 ⟨rfl, hb_⟩
  refine ⟨_, rfl, ?_⟩
  replace hh := hh.ext hb_
  -- at some 5 := Op.call { callee := Callee.value (Operand.func 112), args := #[Operand.tmp 4, Operand.cons
  refine s_callf (hc _) FnIs.out rfl (by decide) ?_
  rintro e_ w5 ⟨rfl, hb_⟩
  refine ⟨_, rfl, ?_⟩
  replace hh := hh.ext hb_
  refine wl_store hh (i := 0) (vs := [_, _, _]) rfl rfl rfl rfl TIs.out rfl (by simp) rfl ?_
  intro ws hh
  replace hh : Hp _ (.blk _ _ [_, _, _] _ :: _) _ := hh
  refine wl_end ?_
  refine wc_ret ?_
  -- at ('end', 'ret')
  refine retc1 (by first | exact .inr rfl | exact .inl rfl) rfl (r_cell rfl (lv_agg (vs := [_, _, _]) TIs.out (hh.rd_blk_at (i := 0) (n := 3) rfl rfl) rfl) r_nil) ?_
  exact ⟨rfl, hh.below⟩
theorem yForm_calls (a : NR) (w : World) (ha : a.mag.size ≤ 10000000) (h1 : -1000000000000 ≤ a.e) (h2 : a.e ≤ 1000000000000) :
    Calls Tryz.prog 127 #[.agg #[.bool a.neg, .string a.mag, .int .i64 a.e]] w fun r w' => r = .returned (.agg #[.bool (nR a.d).neg, .string (nR a.d).mag, .int .i64 (nR a.d).e]) ∧ Below w.heap.size w w' := by
  have hh := Hp.start w
  refine calls_vc (N := 8) (l := [.agg #[.bool a.neg, .string a.mag, .int .i64 a.e]]) Tryz.func127 rfl rfl (by simp) ?_
  refine wc_seq ?_
  refine wc_region ?_
  refine wl_box hh (cs := [_, _, _]) rfl rfl (by decide) ?_
  intro b1 w1 hh
  refine wl_alloc hh TIs.out (by decide) ?_
  intro b2 w2 hh
  refine wl_end ?_
  refine wc_seq ?_
  refine wc_region ?_
  refine s_fieldAddr (off := 0) FIs.out rfl (by decide) ?_
  refine s_load (vs := [_, _]) TIs.out rfl (hh.rd_blk_at (i := 1) (n := 2) rfl rfl) rfl (by decide) ?_
  refine s_fieldAddr (off := 2) FIs.out rfl (by decide) ?_
  refine s_load1 TIs.out rfl (hh.cell_blk (i := 1) rfl rfl) (by decide) ?_
  -- at some 7 := Op.call { callee := Callee.value (Operand.func 112), args := #[Operand.tmp 4, Operand.tmp 
  refine s_callf (yMake_calls a.neg a.mag a.e _ ha h1 h2) FnIs.out rfl (by decide) ?_
  rintro e_ w7 ⟨rfl, hb_⟩
  refine ⟨_, rfl, ?_⟩
  replace hh := hh.ext hb_
  refine wl_store hh (i := 0) (vs := [_, _, _]) rfl rfl rfl rfl TIs.out rfl (by simp) rfl ?_
  intro ws hh
  replace hh : Hp _ (.blk _ _ [_, _, _] _ :: _) _ := hh
  refine wl_end ?_
  refine wc_ret ?_
  -- at ('end', 'ret')
  refine retc1 (by first | exact .inr rfl | exact .inl rfl) rfl (r_cell rfl (lv_agg (vs := [_, _, _]) TIs.out (hh.rd_blk_at (i := 0) (n := 3) rfl rfl) rfl) r_nil) ?_
  exact ⟨rfl, hh.below⟩
theorem ySign_calls (a : NR) (w : World) (ha : a.mag.size ≤ 10000000) :
    Calls Tryz.prog 130 #[.agg #[.bool a.neg, .string a.mag, .int .i64 a.e]] w fun r w' => r = .returned (.int .i64 a.i.sign) ∧ Below w.heap.size w w' := by
  have hh := Hp.start w
  refine calls_vc (N := 6) (l := [.agg #[.bool a.neg, .string a.mag, .int .i64 a.e]]) Tryz.func130 rfl rfl (by simp) ?_
  refine wc_seq ?_
  refine wc_region ?_
  refine wl_box hh (cs := [_, _, _]) rfl rfl (by decide) ?_
  intro b1 w1 hh
  refine s_assign (ev_int rfl) (by decide) ?_
  refine wl_end ?_
  refine wc_seq ?_
  refine wc_region ?_
  refine s_fieldAddr (off := 0) FIs.out rfl (by decide) ?_
  refine s_load (vs := [_, _]) TIs.out rfl (hh.rd_blk_at (i := 0) (n := 2) rfl rfl) rfl (by decide) ?_
  -- at some 5 := Op.call { callee := Callee.value (Operand.func 151), args := #[Operand.tmp 4], argTypes :=
  refine s_callf (xsign_calls a.neg a.mag _ (by omega)) FnIs.out rfl (by decide) ?_
  rintro e_ w5 ⟨rfl, hb_⟩
  refine ⟨_, rfl, ?_⟩
  replace hh := hh.ext hb_
  refine s_assign (ev_int rfl) (by decide) ?_
  refine wl_end ?_
  refine wc_ret ?_
  -- at ('end', 'ret')
  refine ret1 (by first | exact .inr rfl | exact .inl rfl) rfl (v_int rfl) ?_
  exact ⟨rfl, hh.below⟩
theorem yNeg_calls (a : NR) (w : World) (ha : a.mag.size ≤ 10000000) (h1 : -1000000000000 ≤ a.e) (h2 : a.e ≤ 1000000000000) :
    Calls Tryz.prog 152 #[.agg #[.bool a.neg, .string a.mag, .int .i64 a.e]] w fun r w' => r = .returned (.agg #[.bool (nR (-a.d)).neg, .string (nR (-a.d)).mag, .int .i64 (nR (-a.d)).e]) ∧ Below w.heap.size w w' := by
  have hh := Hp.start w
  have hs := iM_neg_size a.neg a.mag
  have hc := fun w1 => yMake_at (z := -(iv a.neg a.mag)) (e := a.e) (x := -a.d) w1 (owp_neg _ _).symm (by omega) h1 h2
  refine calls_vc (N := 9) (l := [.agg #[.bool a.neg, .string a.mag, .int .i64 a.e]]) Tryz.func152 rfl rfl (by simp) ?_
  refine wc_seq ?_
  refine wc_region ?_
  refine wl_box hh (cs := [_, _, _]) rfl rfl (by decide) ?_
  intro b1 w1 hh
  refine wl_alloc hh TIs.out (by decide) ?_
  intro b2 w2 hh
  refine wl_end ?_
  refine wc_seq ?_
  -- at the drawn region 1
  refine wc_drawn 5 [[(1, none)], [(3, some 0)], [(4, some 1)], [(1, none)], [(6, some 3)]] [(4, 7), (3, 6), (2, 5), (1, 4), (0, 3)] hh mixed (by kernel_rfl) ?_
  refine dx_val (i := 0) (fun ρ1 w1 hj hR => x_fieldAddr (off := 0) FIs.out (show ρ1 1 = Value.pointer _ from hR.1)) ?_
  refine dx_val (i := 1) (fun ρ1 w1 hj hR => x_load (vs := [_, _]) TIs.out (show ρ1 3 = Value.pointer _ from hR.1) (hj.hp.rd_blk_at (i := 1) (n := 2) rfl rfl) rfl) ?_
  refine dx_call (i := 2) (fun ρ1 w1 hj hR => run_callf FnIs.out (evs_cons (show ρ1 4 = Value.agg (List.toArray _) from hR.1) evs_nil)) (fun w1 hj => xneg_calls a.neg a.mag _ (by omega)) ?_
  refine dx_val (i := 3) (fun ρ1 w1 hj hR => x_fieldAddr (off := 2) FIs.out (show ρ1 1 = Value.pointer _ from hR.1)) ?_
  refine dx_val (i := 4) (fun ρ1 w1 hj hR => x_load1 TIs.out (show ρ1 6 = Value.pointer _ from hR.1) (hj.hp.cell_blk (i := 1) rfl rfl)) ?_
  refine dx_nil ?_
  intro f W hJ hV
  have hb_1 := hJ.bl
  obtain ⟨v7, v6, v5, v4, v3, _⟩ := hV
  simp only [updL]
  have e3 : f 0 = _ := v3
  rw [e3]
  have e4 : f 1 = _ := v4
  rw [e4]
  have e5 : f 2 = _ := v5
  rw [e5]
  have e6 : f 3 = _ := v6
  rw [e6]
  have e7 : f 4 = _ := v7
  rw [e7]
  replace hh := hJ.hp
  clear e3 e4 e5 e6 e7 hJ
  -- at some 8 := Op.call { callee := Callee.value (Operand.func 112), args := #[Operand.tmp 5, Operand.tmp 
  refine s_callf (hc _) FnIs.out rfl (by decide) ?_
  rintro e_ w8 ⟨rfl, hb_⟩
  refine ⟨_, rfl, ?_⟩
  replace hh := hh.ext hb_
  refine wl_store hh (i := 0) (vs := [_, _, _]) rfl rfl rfl rfl TIs.out rfl (by simp) rfl ?_
  intro ws hh
  replace hh : Hp _ (.blk _ _ [_, _, _] _ :: _) _ := hh
  refine wl_end ?_
  refine wc_ret ?_
  -- at ('end', 'ret')
  refine retc1 (by first | exact .inr rfl | exact .inl rfl) rfl (r_cell rfl (lv_agg (vs := [_, _, _]) TIs.out (hh.rd_blk_at (i := 0) (n := 3) rfl rfl) rfl) r_nil) ?_
  exact ⟨rfl, hh.below⟩
theorem yShift_calls (a : NR) (n : Int) (w : World) (ha : a.mag.size ≤ 10000000) (h1 : -100000000000 ≤ a.e) (h2 : a.e ≤ 100000000000) (h3 : -100000000000 ≤ n) (h4 : n ≤ 100000000000) :
    Calls Tryz.prog 133 #[.agg #[.bool a.neg, .string a.mag, .int .i64 a.e], .int .i64 n] w fun r w' => r = .returned (.agg #[.bool (nR (a.d * twoD n)).neg, .string (nR (a.d * twoD n)).mag, .int .i64 (nR (a.d * twoD n)).e]) ∧ Below w.heap.size w w' := by
  have hh := Hp.start w
  have e1 : Dyadic.ofIntWithPrec (iv a.neg a.mag) (-(a.e + n)) = a.d * twoD n := by
    rw [Int.neg_add]
    exact owp_two _ _ _
  have hc := fun w1 => yMake_calls a.neg a.mag (a.e + n) w1 ha (by omega) (by omega)
  rw [e1] at hc
  refine calls_vc (N := 12) (l := [.agg #[.bool a.neg, .string a.mag, .int .i64 a.e], .int .i64 n]) Tryz.func133 rfl rfl (by simp) ?_
  refine wc_seq ?_
  refine wc_region ?_
  refine wl_box hh (cs := [_, _, _]) rfl rfl (by decide) ?_
  intro b2 w2 hh
  refine wl_alloc hh TIs.out (by decide) ?_
  intro b4 w4 hh
  refine wl_end ?_
  refine wc_seq ?_
  refine wc_region ?_
  refine s_fieldAddr (off := 0) FIs.out rfl (by decide) ?_
  refine s_load (vs := [_, _]) TIs.out rfl (hh.rd_blk_at (i := 1) (n := 2) rfl rfl) rfl (by decide) ?_
  refine s_fieldAddr (off := 2) FIs.out rfl (by decide) ?_
  refine s_load1 TIs.out rfl (hh.cell_blk (i := 1) rfl rfl) (by decide) ?_
  refine s_move (ev_int rfl) (by decide) ?_
  refine s_addi rfl rfl (by omega) (by omega) (by decide) ?_
  -- at some 11 := Op.call { callee := Callee.value (Operand.func 112), args := #[Operand.tmp 6, Operand.tmp 
  refine s_callf (hc _) FnIs.out rfl (by decide) ?_
  rintro e_ w11 ⟨rfl, hb_⟩
  refine ⟨_, rfl, ?_⟩
  replace hh := hh.ext hb_
  refine wl_store hh (i := 0) (vs := [_, _, _]) rfl rfl rfl rfl TIs.out rfl (by simp) rfl ?_
  intro ws hh
  replace hh : Hp _ (.blk _ _ [_, _, _] _ :: _) _ := hh
  refine wl_end ?_
  refine wc_ret ?_
  -- at ('end', 'ret')
  refine retc1 (by first | exact .inr rfl | exact .inl rfl) rfl (r_cell rfl (lv_agg (vs := [_, _, _]) TIs.out (hh.rd_blk_at (i := 0) (n := 3) rfl rfl) rfl) r_nil) ?_
  exact ⟨rfl, hh.below⟩
theorem nR_i (x : Dyadic) : Dyadic.ofIntWithPrec (nR x).i (-(nR x).e) = x := nR_d x
theorem yTimes_calls (a b : NR) (w : World) (ha : a.mag.size ≤ 4000000) (hb : b.mag.size ≤ 4000000) (h1 : -100000000000 ≤ a.e) (h2 : a.e ≤ 100000000000) (h3 : -100000000000 ≤ b.e) (h4 : b.e ≤ 100000000000) :
    Calls Tryz.prog 97 #[.agg #[.bool a.neg, .string a.mag, .int .i64 a.e], .agg #[.bool b.neg, .string b.mag, .int .i64 b.e]] w fun r w' => r = .returned (.agg #[.bool (nR (a.d * b.d)).neg, .string (nR (a.d * b.d)).mag, .int .i64 (nR (a.d * b.d)).e]) ∧ Below w.heap.size w w' := by
  have hh := Hp.start w
  have e2 : Dyadic.ofIntWithPrec (iv a.neg a.mag * iv b.neg b.mag) (-(a.e + b.e)) = a.d * b.d := by
    rw [Int.neg_add]
    exact (owp_mul _ _ _ _).symm
  have hb1 := blen_iv a.neg a.mag
  have hb2 := blen_iv b.neg b.mag
  have hb3 := blen_mul_int (iv a.neg a.mag) (iv b.neg b.mag)
  have hc := fun w1 => yMake_at (z := iv a.neg a.mag * iv b.neg b.mag) (e := a.e + b.e) w1 e2 (by rw [iM_size]; omega) (by omega) (by omega)
  refine calls_vc (N := 16) (l := [.agg #[.bool a.neg, .string a.mag, .int .i64 a.e], .agg #[.bool b.neg, .string b.mag, .int .i64 b.e]]) Tryz.func97 rfl rfl (by simp) ?_
  refine wc_seq ?_
  refine wc_region ?_
  refine wl_box hh (cs := [_, _, _]) rfl rfl (by decide) ?_
  intro b2 w2 hh
  refine wl_box hh (cs := [_, _, _]) rfl rfl (by decide) ?_
  intro b3 w3 hh
  refine wl_alloc hh TIs.out (by decide) ?_
  intro b4 w4 hh
  refine wl_end ?_
  refine wc_seq ?_
  -- at the drawn region 1
  refine wc_drawn 10 [[(2, none)], [(5, some 0)], [(3, none)], [(7, some 2)], [(6, some 1), (8, some 3)], [(2, none)], [(10, some 5)], [(3, none)], [(12, some 7)], [(11, some 6), (13, some 8)]] [(9, 14), (8, 13), (7, 12), (6, 11), (5, 10), (4, 9), (3, 8), (2, 7), (1, 6), (0, 5)] hh mixed (by kernel_rfl) ?_
  refine dx_val (i := 0) (fun ρ1 w1 hj hR => x_fieldAddr (off := 0) FIs.out (show ρ1 2 = Value.pointer _ from hR.1)) ?_
  refine dx_val (i := 1) (fun ρ1 w1 hj hR => x_load (vs := [_, _]) TIs.out (show ρ1 5 = Value.pointer _ from hR.1) (hj.hp.rd_blk_at (i := 2) (n := 2) rfl rfl) rfl) ?_
  refine dx_val (i := 2) (fun ρ1 w1 hj hR => x_fieldAddr (off := 0) FIs.out (show ρ1 3 = Value.pointer _ from hR.1)) ?_
  refine dx_val (i := 3) (fun ρ1 w1 hj hR => x_load (vs := [_, _]) TIs.out (show ρ1 7 = Value.pointer _ from hR.1) (hj.hp.rd_blk_at (i := 1) (n := 2) rfl rfl) rfl) ?_
  refine dx_call (i := 4) (fun ρ1 w1 hj hR => run_callf FnIs.out (evs_cons (show ρ1 6 = Value.agg (List.toArray _) from hR.1) (evs_cons (show ρ1 8 = Value.agg (List.toArray _) from hR.2.1) evs_nil))) (fun w1 hj => xtimes_calls a.neg b.neg a.mag b.mag _ (by omega) (by omega)) ?_
  refine dx_val (i := 5) (fun ρ1 w1 hj hR => x_fieldAddr (off := 2) FIs.out (show ρ1 2 = Value.pointer _ from hR.1)) ?_
  refine dx_val (i := 6) (fun ρ1 w1 hj hR => x_load1 TIs.out (show ρ1 10 = Value.pointer _ from hR.1) (hj.hp.cell_blk (i := 2) rfl rfl)) ?_
  refine dx_val (i := 7) (fun ρ1 w1 hj hR => x_fieldAddr (off := 2) FIs.out (show ρ1 3 = Value.pointer _ from hR.1)) ?_
  refine dx_val (i := 8) (fun ρ1 w1 hj hR => x_load1 TIs.out (show ρ1 12 = Value.pointer _ from hR.1) (hj.hp.cell_blk (i := 1) rfl rfl)) ?_
  refine dx_val (i := 9) (fun ρ1 w1 hj hR => x_addi (show ρ1 11 = Value.int _ _ from hR.1) (show ρ1 13 = Value.int _ _ from hR.2.1) (by omega) (by omega)) ?_
  refine dx_nil ?_
  intro f W hJ hV
  have hb_1 := hJ.bl
  obtain ⟨v14, v13, v12, v11, v10, v9, v8, v7, v6, v5, _⟩ := hV
  simp only [updL]
  have e5 : f 0 = _ := v5
  rw [e5]
  have e6 : f 1 = _ := v6
  rw [e6]
  have e7 : f 2 = _ := v7
  rw [e7]
  have e8 : f 3 = _ := v8
  rw [e8]
  have e9 : f 4 = _ := v9
  rw [e9]
  have e10 : f 5 = _ := v10
  rw [e10]
  have e11 : f 6 = _ := v11
  rw [e11]
  have e12 : f 7 = _ := v12
  rw [e12]
  have e13 : f 8 = _ := v13
  rw [e13]
  have e14 : f 9 = _ := v14
  rw [e14]
  replace hh := hJ.hp
  clear e5 e6 e7 e8 e9 e10 e11 e12 e13 e14 hJ
  -- at some 15 := Op.call { callee := Callee.value (Operand.func 112), args := #[Operand.tmp 9, Operand.tmp 
  refine s_callf (hc _) FnIs.out rfl (by decide) ?_
  rintro e_ w15 ⟨rfl, hb_⟩
  refine ⟨_, rfl, ?_⟩
  replace hh := hh.ext hb_
  refine wl_store hh (i := 0) (vs := [_, _, _]) rfl rfl rfl rfl TIs.out rfl (by simp) rfl ?_
  intro ws hh
  replace hh : Hp _ (.blk _ _ [_, _, _] _ :: _) _ := hh
  refine wl_end ?_
  refine wc_ret ?_
  -- at ('end', 'ret')
  refine retc1 (by first | exact .inr rfl | exact .inl rfl) rfl (r_cell rfl (lv_agg (vs := [_, _, _]) TIs.out (hh.rd_blk_at (i := 0) (n := 3) rfl rfl) rfl) r_nil) ?_
  exact ⟨rfl, hh.below⟩
end Go.Proofs.YthmmofllajkejaaGreatDoor
