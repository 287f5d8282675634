/- The walk through MonoEach. -/
import Derived.Test.YtgljgalcbbjfgaaMonoM
import Derived.Test.YtgljgalcbbjfgaaMonoE
namespace Go.Proofs.Ytgljgalcbbjfgaa
open Go.RowKit
def dOf (c : UInt8) : Int := (c.toNat : Int) % 128
def dsk (bs : List UInt8) (k : Nat) : List Int := (bs.take k).map dOf
theorem dsk_bd (bs : List UInt8) (k : Nat) : ∀ d ∈ dsk bs k, 0 ≤ d ∧ d ≤ 127 := fun d hd => by
  obtain ⟨c, _, rfl⟩ := List.mem_map.1 hd
  unfold dOf
  omega
theorem dsk_snoc {bs : List UInt8} {k : Nat} {c : UInt8} (h : bs[k]? = some c) : dsk bs (k + 1) = dsk bs k ++ [dOf c] := by rw [dsk, take_snoc h, List.map_append]; rfl
theorem length_dsk {bs : List UInt8} {k : Nat} (h : k ≤ bs.length) : (dsk bs k).length = k := by simp [dsk]; omega
theorem u8s_at {l : List UInt8} {k : Nat} {c : UInt8} (h : l[k]? = some c) : (u8s l)[k]? = some (.int .u8 c.toNat) := by simp [u8s, h]
theorem iff_dec {p : Prop} [Decidable p] {q : Bool} (h : q = true ↔ p) : q = decide p := by
  rw [Bool.eq_iff_iff, h, decide_eq_true_eq]
theorem monoEach_calls (D : Option Addr) (n c : Nat) (bs : List UInt8) (m : ByteArray) (w : World) (hD : Sl w D n 1 (u8s bs)) :
    Calls Try.prog 7 #[.slice D n c, .string m] w fun e w' => e = .returned (.bool true) ∧ Below w.heap.size w w' := by
  have hbl : bs.length = n := by have := hD.1; rw [length_u8s] at this; omega
  have hmz := ba_size m
  have hh := Hp.start w
  refine calls_vc (N := 104) (l := [.slice D n c, .string m]) Try.func7 rfl rfl (by simp) ?_
  refine wc_seq ?_
  refine wc_region ?_
  refine s_assign (ev_bool rfl) (by decide) ?_
  refine wl_end ?_
  refine wc_seq ?_
  refine wc_region ?_
  refine s_assign (ev_int rfl) (by decide) ?_
  refine wl_end ?_
  refine wc_seq ?_
  refine wc_region ?_
  refine s_assign (ev_sl rfl) (by decide) ?_
  refine wl_end ?_
  refine wc_seq ?_
  refine wc_seq ?_
  refine wc_region ?_
  refine s_assign (ev_int rfl) (by decide) ?_
  refine wl_end ?_
  refine wc_block ?_
  -- at a loop
  refine wc_loop3 [4, 5, 6, 7, 8, 14, 15, 16, 17, 18, 19, 20, 21, 22, 23, 24, 25, 26, 27, 28, 29, 30, 31, 32, 33, 34, 35, 36, 37, 38, 39, 40] 5 6 7
    (fun p l i w' => ∃ (k c' : Nat) (A' : Option Addr), k ≤ n ∧ i = .int .i64 k ∧ l = .slice A' k c' ∧ p = .int .i64 (allX (dsk bs k)).length ∧ (allX (dsk bs k)).length ≤ 5000 ∧ k ≤ 13 ∧ Hp w [.row A' k c' 3 1 (i64s (dsk bs k))] w')
    (fun _ _ i _ => n - (intOf i).toNat) ?_ ?_
  · exact ⟨0, 0, none, Nat.zero_le _, rfl, rfl, rfl, by simp [dsk, allX], by omega, hh.nil_row _ _⟩
  · clear hh
    rintro ρ' p l i w' ⟨k, c', A', hk, rfl, rfl, rfl, hsz, hk13, hh⟩
    -- 
    -- 
    by_cases hlt : k < n
    · obtain ⟨x, hx⟩ := get_of_lt (l := bs) (k := k) (by omega)
      obtain ⟨ad, rfl, hr⟩ := (hD.ext hh.below).at_ (by omega)
      have hx8 := x.toNat_lt
      have hd0 : 0 ≤ (x.toNat : Int) % 128 ∧ (x.toNat : Int) % 128 ≤ 127 := by omega
      have hl2 := length_allX_snoc (dOf x) (dsk bs k)
      rw [← dsk_snoc hx] at hl2
      have hl3 : ((allX (dsk bs (k + 1))).length : Int) = (allX (dsk bs k)).length * ((x.toNat : Int) % 128 + 1) := by
        rw [hl2, Int.natCast_mul]; unfold dOf; congr 1
      have hm1 : (0 : Int) ≤ (allX (dsk bs k)).length * ((x.toNat : Int) % 128 + 1) := Int.mul_nonneg (by omega) (by omega)
      have hm2 : ((allX (dsk bs k)).length : Int) * ((x.toNat : Int) % 128 + 1) ≤ 5000 * 128 := Int.mul_le_mul (by omega) (by omega) (by omega) (by omega)
      refine wc_seq ?_
      refine wc_seq ?_
      refine wc_region ?_
      refine s_move (ev_int rfl) (by decide) ?_
      refine s_move (ev_sl rfl) (by decide) ?_
      refine s_len_sl UIs.out rfl (by decide) ?_
      first | refine s_lss_t rfl rfl (by omega) (by decide) ?_ | refine s_lss_f rfl rfl (by omega) (by decide) ?_
      refine wl_end ?_
      refine wc_cond_t rfl ?_
      refine wc_skip ?_
      refine k_then ?_
      refine wc_seq ?_
      refine wc_block ?_
      refine wc_seq ?_
      refine wc_region ?_
      refine s_move (ev_sl rfl) (by decide) ?_
      refine s_move (ev_int rfl) (by decide) ?_
      refine s_indexAddr UIs.out TIs.size rfl rfl (by omega) (by omega) (by decide) ?_
      -- at some 23 := Op.load 5 (Operand.tmp 22)
      refine s_load1 TIs.out rfl (rd_elem1 hr (u8s_at hx) rfl) (by decide) ?_
      refine s_conv_i64 UIs.out UIs.out rfl (by omega) (by omega) (by decide) ?_
      refine s_remi rfl rfl (by omega) (by omega) (by decide) ?_
      refine s_assign (ev_int rfl) (by decide) ?_
      refine wl_end ?_
      refine wc_seq ?_
      refine wc_region ?_
      refine s_move (ev_sl rfl) (by decide) ?_
      refine s_move (ev_int rfl) (by decide) ?_
      refine wl_buildSlice hh (cs := [_]) UIs.out TIs.out (evp_cons (ev_int rfl) evp_nil) rfl rfl (by decide) (by decide) (by decide) rfl (by decide) ?_
      intro b28 w28 hh
      refine wl_append hh (i := 1) rfl rfl rfl (hh.sl_row (i := 0) rfl) UIs.out TIs.out rfl (by decide) rfl (by omega) (by omega) (by decide) ?_
      intro A29 c29 w29 hh
      simp only [List.set_cons_zero, List.set_cons_succ] at hh
      replace hh := hh.sub (List.sublist_cons_self _ _)
      refine s_assign (ev_sl rfl) (by decide) ?_
      refine wl_end ?_
      refine wc_seq ?_
      refine wc_region ?_
      refine s_move (ev_int rfl) (by decide) ?_
      refine s_move (ev_int rfl) (by decide) ?_
      refine s_addi rfl rfl (by omega) (by omega) (by decide) ?_
      refine s_muli rfl rfl (by omega) (by omega) (by decide) ?_
      refine s_assign (ev_int rfl) (by decide) ?_
      refine wl_end ?_
      refine wc_seq ?_
      refine wc_region ?_
      -- at some 34
      have e1 : i64s (dsk bs k) ++ [Value.int .i64 ((x.toNat : Int) % 128)] = i64s (dsk bs (k + 1)) := by rw [dsk_snoc hx, i64s_append]; rfl
      rw [e1] at hh
      by_cases hbig : 5000 < ((allX (dsk bs k)).length : Int) * ((x.toNat : Int) % 128 + 1)
      · refine s_move (ev_int rfl) (by decide) ?_
        first | refine s_gtr_t rfl rfl (by omega) (by decide) ?_ | refine s_gtr_f rfl rfl (by omega) (by decide) ?_
        refine s_move (ev_bool rfl) (by decide) ?_
        first | (refine wl_guard_skip (by decide) rfl rfl (by decide) ?_) | (refine wl_guard_take rfl rfl ?_; (refine s_move (ev_int rfl) (by decide) ?_)) | (refine wl_guard_skipV (by decide) rfl rfl ?_)
        first | (refine wl_guard_skip (by decide) rfl rfl (by decide) ?_) | (refine wl_guard_take rfl rfl ?_; (first | refine s_gtr_t rfl rfl (by omega) (by decide) ?_ | refine s_gtr_f rfl rfl (by omega) (by decide) ?_)) | (refine wl_guard_skipV (by decide) rfl rfl ?_)
        first | refine s_pick_t rfl (ev_bool rfl) (by decide) ?_ | refine s_pick_f rfl (ev_bool rfl) (by decide) ?_
        refine wl_end ?_
        refine wc_cond_t rfl ?_
        refine wc_seq ?_
        refine wc_region ?_
        -- at some 40 := Op.call { callee := Callee.value (Operand.func 8), args := #[], argTypes := #[] }
        refine s_callf (awake_calls _) FnIs.out rfl (by decide) ?_
        rintro e_ w40 ⟨rfl, hb_⟩
        refine ⟨_, rfl, ?_⟩
        replace hh := hh.ext hb_
        refine s_assign (ev_bool rfl) (by decide) ?_
        refine wl_end ?_
        refine wc_ret ?_
        refine b_ret ?_
        refine k_ret ?_
        refine k_ret ?_
        refine b_ret ?_
        refine k_ret ?_
        -- at ('end', 'ret')
        refine ret1 (by first | exact .inr rfl | exact .inl rfl) rfl rfl ?_
        exact ⟨rfl, hh.below⟩
      · by_cases hk12 : 12 < k
        · refine s_move (ev_int rfl) (by decide) ?_
          first | refine s_gtr_t rfl rfl (by omega) (by decide) ?_ | refine s_gtr_f rfl rfl (by omega) (by decide) ?_
          refine s_move (ev_bool rfl) (by decide) ?_
          first | (refine wl_guard_skip (by decide) rfl rfl (by decide) ?_) | (refine wl_guard_take rfl rfl ?_; (refine s_move (ev_int rfl) (by decide) ?_)) | (refine wl_guard_skipV (by decide) rfl rfl ?_)
          first | (refine wl_guard_skip (by decide) rfl rfl (by decide) ?_) | (refine wl_guard_take rfl rfl ?_; (first | refine s_gtr_t rfl rfl (by omega) (by decide) ?_ | refine s_gtr_f rfl rfl (by omega) (by decide) ?_)) | (refine wl_guard_skipV (by decide) rfl rfl ?_)
          first | refine s_pick_t rfl (ev_bool rfl) (by decide) ?_ | refine s_pick_f rfl (ev_bool rfl) (by decide) ?_
          refine wl_end ?_
          refine wc_cond_t rfl ?_
          refine wc_seq ?_
          refine wc_region ?_
          -- at some 40 := Op.call { callee := Callee.value (Operand.func 8), args := #[], argTypes := #[] }
          refine s_callf (awake_calls _) FnIs.out rfl (by decide) ?_
          rintro e_ w40 ⟨rfl, hb_⟩
          refine ⟨_, rfl, ?_⟩
          replace hh := hh.ext hb_
          refine s_assign (ev_bool rfl) (by decide) ?_
          refine wl_end ?_
          refine wc_ret ?_
          refine b_ret ?_
          refine k_ret ?_
          refine k_ret ?_
          refine b_ret ?_
          refine k_ret ?_
          -- at ('end', 'ret')
          refine ret1 (by first | exact .inr rfl | exact .inl rfl) rfl rfl ?_
          exact ⟨rfl, hh.below⟩
        · refine s_move (ev_int rfl) (by decide) ?_
          first | refine s_gtr_t rfl rfl (by omega) (by decide) ?_ | refine s_gtr_f rfl rfl (by omega) (by decide) ?_
          refine s_move (ev_bool rfl) (by decide) ?_
          first | (refine wl_guard_skip (by decide) rfl rfl (by decide) ?_) | (refine wl_guard_take rfl rfl ?_; (refine s_move (ev_int rfl) (by decide) ?_)) | (refine wl_guard_skipV (by decide) rfl rfl ?_)
          first | (refine wl_guard_skip (by decide) rfl rfl (by decide) ?_) | (refine wl_guard_take rfl rfl ?_; (first | refine s_gtr_t rfl rfl (by omega) (by decide) ?_ | refine s_gtr_f rfl rfl (by omega) (by decide) ?_)) | (refine wl_guard_skipV (by decide) rfl rfl ?_)
          first | refine s_pick_t rfl (ev_bool rfl) (by decide) ?_ | refine s_pick_f rfl (ev_bool rfl) (by decide) ?_
          refine wl_end ?_
          refine wc_cond_f rfl ?_
          refine wc_skip ?_
          refine b_norm ?_
          refine k_then ?_
          refine wc_region ?_
          refine s_move (ev_int rfl) (by decide) ?_
          refine s_addi rfl rfl (by omega) (by omega) (by decide) ?_
          refine s_assign (ev_int rfl) (by decide) ?_
          refine wl_nil ?_
          refine k_then ?_
          -- at ('round',)
          refine ⟨⟨k + 1, c29, A29, by omega, rfl, rfl, by rw [hl3]; rfl, by omega, by omega, hh⟩, by show n - (k + 1) < n - k; omega, ?_⟩
          (repeat (first | exact agree_mask _ _ _ | refine agree_upd rfl ?_ | refine agree_mask2 rfl ?_))
    · obtain rfl : k = n := by omega
      have hbd := dsk_bd bs k
      have hdl := length_dsk (bs := bs) (k := k) (by omega)
      generalize hds : dsk bs k = ds at *
      have hok : okN 1 ds = true := okN_of ds 1 hbd (by omega) (by omega)
      have hAl : allL ds = (allX ds).map fX := by simp only [allL, hok, if_true]
      have hAn : (allL ds).length = (allX ds).length := by rw [hAl, List.length_map]
      refine wc_seq ?_
      refine wc_seq ?_
      refine wc_region ?_
      refine s_move (ev_int rfl) (by decide) ?_
      refine s_move (ev_sl rfl) (by decide) ?_
      refine s_len_sl UIs.out rfl (by decide) ?_
      first | refine s_lss_t rfl rfl (by omega) (by decide) ?_ | refine s_lss_f rfl rfl (by omega) (by decide) ?_
      refine wl_end ?_
      refine wc_cond_f rfl ?_
      refine wc_exit ?_
      refine k_exit ?_
      refine k_exit ?_
      refine b_here ?_
      refine k_then ?_
      refine wc_seq ?_
      refine wc_region ?_
      refine s_move (ev_sl rfl) (by decide) ?_
      -- at some 42 := Op.call { callee := Callee.value (Operand.func 23), args := #[Operand.tmp 41], argTypes :=
      refine s_callf (all_calls _ _ _ ds _ (hh.sl_row (i := 0) rfl) (by omega)) FnIs.out rfl (by decide) ?_
      rintro e_ w42 ⟨A42, c42, rfl, hown_, hb_⟩
      refine ⟨_, rfl, ?_⟩
      replace hh := hh.push_new (x := .row _ _ _ _ _ _) hb_ hown_
      refine s_assign (ev_sl rfl) (by decide) ?_
      refine wl_end ?_
      refine wc_seq ?_
      refine wc_seq ?_
      refine wc_region ?_
      refine s_move (ev_sl rfl) (by decide) ?_
      refine s_len_sl UIs.out rfl (by decide) ?_
      refine s_move (ev_int rfl) (by decide) ?_
      first | refine s_neq_t rfl rfl (by omega) (by decide) ?_ | refine s_neq_f rfl rfl (by omega) (by decide) ?_
      refine wl_end ?_
      refine wc_cond_f rfl ?_
      refine wc_skip ?_
      refine k_then ?_
      refine wc_seq ?_
      refine wc_region ?_
      refine s_move (ev_str rfl) (by decide) ?_
      refine s_len_str UIs.out rfl (by decide) ?_
      refine s_move (ev_sl rfl) (by decide) ?_
      refine s_len_sl UIs.out rfl (by decide) ?_
      refine s_eql_v rfl rfl (by decide) ?_
      refine s_assign (ev_bool rfl) (by decide) ?_
      refine wl_end ?_
      refine wc_seq ?_
      refine wc_seq ?_
      refine wc_region ?_
      refine s_assign (ev_int rfl) (by decide) ?_
      refine wl_end ?_
      refine wc_block ?_
      -- at a loop
      refine wc_loop2 [10, 11, 52, 53, 54, 55, 56, 57, 58, 59, 60, 61, 62, 63, 64, 65, 66, 67, 68, 69] 10 11
        (fun b i w' => ∃ (j : Nat) (q : Bool), j ≤ k ∧ i = .int .i64 j ∧ b = .bool q ∧ (q = true ↔ m.size = k ∧ withinL (m.data.toList.take j) (ds.take j) = true) ∧ Hp w [.row A42 (allL ds).length c42 9 1 (strs (allL ds)), .row A' k c' 3 1 (i64s ds)] w')
        (fun _ i _ => k - (intOf i).toNat) ?_ ?_
      · exact ⟨0, _, Nat.zero_le _, rfl, rfl, by simp [withinL]; omega, hh⟩
      · clear hh
        rintro ρ' b i w' ⟨j, q, hj, rfl, rfl, hq, hh⟩
        -- 
        by_cases hgo : j < k ∧ q = true
        · obtain ⟨hjk, rfl⟩ := hgo
          obtain ⟨hq1, hq2⟩ := hq.1 rfl
          obtain ⟨x, hx⟩ := get_of_lt (l := m.data.toList) (k := j) (by omega)
          obtain ⟨d, hd⟩ := get_of_lt (l := ds) (k := j) (by omega)
          have hd2 := i64s_at hd
          have hx8 := x.toNat_lt
          have hws := within_snoc (m.data.toList.take j) (ds.take j) x d (by rw [List.length_take, List.length_take]; omega)
          rw [← take_snoc hx, ← take_snoc hd, hq2, Bool.true_and] at hws
          obtain ⟨g, rfl⟩ := hh.row_some (i := 1) rfl (by omega)
          by_cases hle : (x.toNat : Int) ≤ d
          · refine wc_seq ?_
            refine wc_seq ?_
            refine wc_region ?_
            refine s_move (ev_int rfl) (by decide) ?_
            refine s_move (ev_sl rfl) (by decide) ?_
            refine s_len_sl UIs.out rfl (by decide) ?_
            first | refine s_lss_t rfl rfl (by omega) (by decide) ?_ | refine s_lss_f rfl rfl (by omega) (by decide) ?_
            refine s_move (ev_bool rfl) (by decide) ?_
            first | (refine wl_guard_skip (by decide) rfl rfl (by decide) ?_) | (refine wl_guard_take rfl rfl ?_; (refine s_move (ev_bool rfl) (by decide) ?_)) | (refine wl_guard_skipV (by decide) rfl rfl ?_)
            first | refine s_pick_t rfl (ev_bool rfl) (by decide) ?_ | refine s_pick_f rfl (ev_bool rfl) (by decide) ?_
            refine wl_end ?_
            refine wc_cond_t rfl ?_
            refine wc_skip ?_
            refine k_then ?_
            refine wc_seq ?_
            refine wc_block ?_
            -- at the drawn region 18
            refine wc_drawn 8 [[(1, none)], [(11, none)], [(61, some 0), (62, some 1)], [(63, some 2)], [(6, none)], [(11, none)], [(65, some 4), (66, some 5)], [(67, some 6)]] [(7, 68), (6, 67), (5, 66), (4, 65), (3, 64), (2, 63), (1, 62), (0, 61)] hh mixed (by kernel_rfl) ?_
            refine dx_val (i := 0) (fun ρ1 w1 hj hR => x_move (show ρ1 1 = Value.string _ from hR.1)) ?_
            refine dx_val (i := 1) (fun ρ1 w1 hj hR => x_move (show ρ1 11 = Value.int _ _ from hR.1)) ?_
            refine dx_val (i := 2) (fun ρ1 w1 hj hR => x_index_str UIs.out (show ρ1 61 = Value.string _ from hR.1) (show ρ1 62 = Value.int _ _ from hR.2.1) (by omega) (by assumption)) ?_
            refine dx_val (i := 3) (fun ρ1 w1 hj hR => x_conv_i64 UIs.out UIs.out (show ρ1 63 = Value.int _ _ from hR.1) (by omega) (by omega)) ?_
            refine dx_val (i := 4) (fun ρ1 w1 hj hR => x_move (show ρ1 6 = Value.slice _ _ _ from hR.1)) ?_
            refine dx_val (i := 5) (fun ρ1 w1 hj hR => x_move (show ρ1 11 = Value.int _ _ from hR.1)) ?_
            refine dx_val (i := 6) (fun ρ1 w1 hj hR => x_indexRow UIs.out TIs.size (show ρ1 65 = Value.slice _ _ _ from hR.1) (show ρ1 66 = Value.int _ _ from hR.2.1) rfl (by omega)) ?_
            refine dx_val (i := 7) (fun ρ1 w1 hj hR => x_load1 TIs.out (show ρ1 67 = Value.pointer _ from hR.1) (hj.hp.cell_row (i := 1) rfl (by first | assumption | (simp only [Nat.mul_one]; assumption)))) ?_
            refine dx_nil ?_
            intro f W hJ hV
            have hb_18 := hJ.bl
            obtain ⟨v68, v67, v66, v65, v64, v63, v62, v61, _⟩ := hV
            simp only [updL]
            have e61 : f 0 = _ := v61
            rw [e61]
            have e62 : f 1 = _ := v62
            rw [e62]
            have e63 : f 2 = _ := v63
            rw [e63]
            have e64 : f 3 = _ := v64
            rw [e64]
            have e65 : f 4 = _ := v65
            rw [e65]
            have e66 : f 5 = _ := v66
            rw [e66]
            have e67 : f 6 = _ := v67
            rw [e67]
            have e68 : f 7 = _ := v68
            rw [e68]
            replace hh := hJ.hp
            clear e61 e62 e63 e64 e65 e66 e67 e68 hJ
            first | refine s_leq_t rfl rfl (by omega) (by decide) ?_ | refine s_leq_f rfl rfl (by omega) (by decide) ?_
            refine s_assign (ev_bool rfl) (by decide) ?_
            refine wl_nil ?_
            refine b_norm ?_
            refine k_then ?_
            refine wc_region ?_
            refine s_move (ev_int rfl) (by decide) ?_
            refine s_addi rfl rfl (by omega) (by omega) (by decide) ?_
            refine s_assign (ev_int rfl) (by decide) ?_
            refine wl_nil ?_
            refine k_then ?_
            -- at ('round',)
            refine ⟨⟨j + 1, true, by omega, rfl, rfl, by rw [hws]; simp [hq1, hle], hh⟩, by show k - (j + 1) < k - j; omega, ?_⟩
            (repeat (first | exact agree_mask _ _ _ | refine agree_upd rfl ?_ | refine agree_mask2 rfl ?_))
          · refine wc_seq ?_
            refine wc_seq ?_
            refine wc_region ?_
            refine s_move (ev_int rfl) (by decide) ?_
            refine s_move (ev_sl rfl) (by decide) ?_
            refine s_len_sl UIs.out rfl (by decide) ?_
            first | refine s_lss_t rfl rfl (by omega) (by decide) ?_ | refine s_lss_f rfl rfl (by omega) (by decide) ?_
            refine s_move (ev_bool rfl) (by decide) ?_
            first | (refine wl_guard_skip (by decide) rfl rfl (by decide) ?_) | (refine wl_guard_take rfl rfl ?_; (refine s_move (ev_bool rfl) (by decide) ?_)) | (refine wl_guard_skipV (by decide) rfl rfl ?_)
            first | refine s_pick_t rfl (ev_bool rfl) (by decide) ?_ | refine s_pick_f rfl (ev_bool rfl) (by decide) ?_
            refine wl_end ?_
            refine wc_cond_t rfl ?_
            refine wc_skip ?_
            refine k_then ?_
            refine wc_seq ?_
            refine wc_block ?_
            -- at the drawn region 18
            refine wc_drawn 8 [[(1, none)], [(11, none)], [(61, some 0), (62, some 1)], [(63, some 2)], [(6, none)], [(11, none)], [(65, some 4), (66, some 5)], [(67, some 6)]] [(7, 68), (6, 67), (5, 66), (4, 65), (3, 64), (2, 63), (1, 62), (0, 61)] hh mixed (by kernel_rfl) ?_
            refine dx_val (i := 0) (fun ρ1 w1 hj hR => x_move (show ρ1 1 = Value.string _ from hR.1)) ?_
            refine dx_val (i := 1) (fun ρ1 w1 hj hR => x_move (show ρ1 11 = Value.int _ _ from hR.1)) ?_
            refine dx_val (i := 2) (fun ρ1 w1 hj hR => x_index_str UIs.out (show ρ1 61 = Value.string _ from hR.1) (show ρ1 62 = Value.int _ _ from hR.2.1) (by omega) (by assumption)) ?_
            refine dx_val (i := 3) (fun ρ1 w1 hj hR => x_conv_i64 UIs.out UIs.out (show ρ1 63 = Value.int _ _ from hR.1) (by omega) (by omega)) ?_
            refine dx_val (i := 4) (fun ρ1 w1 hj hR => x_move (show ρ1 6 = Value.slice _ _ _ from hR.1)) ?_
            refine dx_val (i := 5) (fun ρ1 w1 hj hR => x_move (show ρ1 11 = Value.int _ _ from hR.1)) ?_
            refine dx_val (i := 6) (fun ρ1 w1 hj hR => x_indexRow UIs.out TIs.size (show ρ1 65 = Value.slice _ _ _ from hR.1) (show ρ1 66 = Value.int _ _ from hR.2.1) rfl (by omega)) ?_
            refine dx_val (i := 7) (fun ρ1 w1 hj hR => x_load1 TIs.out (show ρ1 67 = Value.pointer _ from hR.1) (hj.hp.cell_row (i := 1) rfl (by first | assumption | (simp only [Nat.mul_one]; assumption)))) ?_
            refine dx_nil ?_
            intro f W hJ hV
            have hb_18 := hJ.bl
            obtain ⟨v68, v67, v66, v65, v64, v63, v62, v61, _⟩ := hV
            simp only [updL]
            have e61 : f 0 = _ := v61
            rw [e61]
            have e62 : f 1 = _ := v62
            rw [e62]
            have e63 : f 2 = _ := v63
            rw [e63]
            have e64 : f 3 = _ := v64
            rw [e64]
            have e65 : f 4 = _ := v65
            rw [e65]
            have e66 : f 5 = _ := v66
            rw [e66]
            have e67 : f 6 = _ := v67
            rw [e67]
            have e68 : f 7 = _ := v68
            rw [e68]
            replace hh := hJ.hp
            clear e61 e62 e63 e64 e65 e66 e67 e68 hJ
            first | refine s_leq_t rfl rfl (by omega) (by decide) ?_ | refine s_leq_f rfl rfl (by omega) (by decide) ?_
            refine s_assign (ev_bool rfl) (by decide) ?_
            refine wl_nil ?_
            refine b_norm ?_
            refine k_then ?_
            refine wc_region ?_
            refine s_move (ev_int rfl) (by decide) ?_
            refine s_addi rfl rfl (by omega) (by omega) (by decide) ?_
            refine s_assign (ev_int rfl) (by decide) ?_
            refine wl_nil ?_
            refine k_then ?_
            -- at ('round',)
            refine ⟨⟨j + 1, false, by omega, rfl, rfl, by rw [hws]; simp [hle], hh⟩, by show k - (j + 1) < k - j; omega, ?_⟩
            (repeat (first | exact agree_mask _ _ _ | refine agree_upd rfl ?_ | refine agree_mask2 rfl ?_))
        · have hqw : q = withinL m.data.toList ds := by
            by_cases hw : withinL m.data.toList ds = true
            · rw [hw, hq]
              have h1 := within_len hw
              exact ⟨by omega, within_take _ _ _ hw⟩
            · rw [Bool.not_eq_true] at hw
              rw [hw]
              cases q with
              | false => rfl
              | true =>
                obtain ⟨hq1, hq2⟩ := hq.1 rfl
                have : j = k := by
                  rcases Nat.lt_or_ge j k with h | h
                  · exact absurd ⟨h, rfl⟩ hgo
                  · omega
                subst this
                rw [List.take_of_length_le (by omega), List.take_of_length_le (by omega), hw] at hq2
                cases hq2
          have hAm : ∀ s : ByteArray, s ∈ allL ds ↔ withinL s.data.toList ds = true := fun s => by rw [hAl]; exact mem_fX hbd s
          subst hqw
          cases hqq : withinL m.data.toList ds with
          | false =>
            by_cases hjk : j < k
            · refine wc_seq ?_
              refine wc_seq ?_
              refine wc_region ?_
              refine s_move (ev_int rfl) (by decide) ?_
              refine s_move (ev_sl rfl) (by decide) ?_
              refine s_len_sl UIs.out rfl (by decide) ?_
              first | refine s_lss_t rfl rfl (by omega) (by decide) ?_ | refine s_lss_f rfl rfl (by omega) (by decide) ?_
              refine s_move (ev_bool rfl) (by decide) ?_
              first | (refine wl_guard_skip (by decide) rfl rfl (by decide) ?_) | (refine wl_guard_take rfl rfl ?_; (refine s_move (ev_bool rfl) (by decide) ?_)) | (refine wl_guard_skipV (by decide) rfl rfl ?_)
              first | refine s_pick_t rfl (ev_bool rfl) (by decide) ?_ | refine s_pick_f rfl (ev_bool rfl) (by decide) ?_
              refine wl_end ?_
              refine wc_cond_f rfl ?_
              refine wc_exit ?_
              refine k_exit ?_
              refine k_exit ?_
              refine b_here ?_
              refine k_then ?_
              refine wc_seq ?_
              refine wc_region ?_
              refine s_assign (ev_bool rfl) (by decide) ?_
              refine wl_end ?_
              refine wc_seq ?_
              refine wc_seq ?_
              refine wc_region ?_
              refine s_assign (ev_int rfl) (by decide) ?_
              refine wl_end ?_
              refine wc_block ?_
              -- at a loop
              refine wc_loop2 [4, 12, 13, 70, 71, 72, 73, 74, 75, 76, 77, 78, 79, 80, 81, 82, 83, 84, 85, 86, 87, 88, 89, 90, 91, 92, 93, 94, 95, 96, 97] 12 13
                (fun b i w' => ∃ (j : Nat) (q : Bool), j ≤ (allL ds).length ∧ i = .int .i64 j ∧ b = .bool q ∧ (q = true ↔ m ∈ (allL ds).take j) ∧ Hp w [.row A42 (allL ds).length c42 9 1 (strs (allL ds)), .row A' k c' 3 1 (i64s ds)] w')
                (fun _ i _ => (allL ds).length - (intOf i).toNat) ?_ ?_
              · exact ⟨0, _, Nat.zero_le _, rfl, rfl, by simp, hh⟩
              · clear hh
                rintro ρ2 b2 i2 w2 ⟨i, q, hi, rfl, rfl, hq, hh⟩
                -- 
                by_cases hlt2 : i < (allL ds).length
                · obtain ⟨x, hx⟩ := get_of_lt hlt2
                  have hx2 := strs_at hx
                  have hms := mem_take_step (m := m) hx
                  rw [← hq] at hms
                  obtain ⟨g, rfl⟩ := hh.row_some (i := 0) rfl (by omega)
                  by_cases hi0 : i = 0
                  · subst hi0
                    refine wc_seq ?_
                    refine wc_seq ?_
                    refine wc_region ?_
                    refine s_move (ev_int rfl) (by decide) ?_
                    refine s_move (ev_int rfl) (by decide) ?_
                    first | refine s_lss_t rfl rfl (by omega) (by decide) ?_ | refine s_lss_f rfl rfl (by omega) (by decide) ?_
                    refine wl_end ?_
                    refine wc_cond_t rfl ?_
                    refine wc_skip ?_
                    refine k_then ?_
                    refine wc_seq ?_
                    refine wc_block ?_
                    refine wc_seq ?_
                    refine wc_seq ?_
                    -- at the drawn region 23
                    refine wc_drawn 12 [[(13, none)], [(75, some 0)], [(76, some 1)], [(9, none), (77, some 2)], [(13, none), (77, some 2)], [(79, some 4), (77, some 2)], [(78, some 3), (80, some 5), (77, some 2)], [(81, some 6), (77, some 2)], [(9, none), (77, some 2)], [(13, none), (77, some 2)], [(83, some 8), (84, some 9), (77, some 2)], [(85, some 10), (77, some 2)]] [(11, 86), (10, 85), (9, 84), (8, 83), (7, 82), (6, 81), (5, 80), (4, 79), (3, 78), (2, 77), (1, 76), (0, 75)] hh mixed (by kernel_rfl) ?_
                    refine dx_val (i := 0) (fun ρ1 w1 hj hR => x_move (show ρ1 13 = Value.int _ _ from hR.1)) ?_
                    first | refine dx_val (i := 1) (fun ρ1 w1 hj hR => x_gtr_t (show ρ1 75 = Value.int _ _ from hR.1) rfl (by omega)) ?_ | refine dx_val (i := 1) (fun ρ1 w1 hj hR => x_gtr_f (show ρ1 75 = Value.int _ _ from hR.1) rfl (by omega)) ?_
                    refine dx_val (i := 2) (fun ρ1 w1 hj hR => x_move (show ρ1 76 = Value.bool _ from hR.1)) ?_
                    first | refine dx_skip (i := 3) rfl (fun ρ1 w1 hj hR => (show ρ1 77 = Value.bool _ from hR.2.1)) (by decide) ?_ | refine dx_take (i := 3) rfl (fun ρ1 w1 hj hR => (show ρ1 77 = Value.bool _ from hR.2.1)) (fun ρ1 w1 hj hR => x_move (show ρ1 9 = Value.slice _ _ _ from hR.1)) ?_
                    first | refine dx_skip (i := 4) rfl (fun ρ1 w1 hj hR => (show ρ1 77 = Value.bool _ from hR.2.1)) (by decide) ?_ | refine dx_take (i := 4) rfl (fun ρ1 w1 hj hR => (show ρ1 77 = Value.bool _ from hR.2.1)) (fun ρ1 w1 hj hR => x_move (show ρ1 13 = Value.int _ _ from hR.1)) ?_
                    first | refine dx_skip (i := 5) rfl (fun ρ1 w1 hj hR => (show ρ1 77 = Value.bool _ from hR.2.1)) (by decide) ?_ | refine dx_take (i := 5) rfl (fun ρ1 w1 hj hR => (show ρ1 77 = Value.bool _ from hR.2.1)) (fun ρ1 w1 hj hR => x_subi (show ρ1 79 = Value.int _ _ from hR.1) rfl (by omega) (by omega)) ?_
                    first | refine dx_skip (i := 6) rfl (fun ρ1 w1 hj hR => (show ρ1 77 = Value.bool _ from hR.2.2.1)) (by decide) ?_ | refine dx_take (i := 6) rfl (fun ρ1 w1 hj hR => (show ρ1 77 = Value.bool _ from hR.2.2.1)) (fun ρ1 w1 hj hR => x_indexRow UIs.out TIs.size (show ρ1 78 = Value.slice _ _ _ from hR.1) (show ρ1 80 = Value.int _ _ from hR.2.1) rfl (by omega)) ?_
                    first | refine dx_skip (i := 7) rfl (fun ρ1 w1 hj hR => (show ρ1 77 = Value.bool _ from hR.2.1)) (by decide) ?_ | refine dx_take (i := 7) rfl (fun ρ1 w1 hj hR => (show ρ1 77 = Value.bool _ from hR.2.1)) (fun ρ1 w1 hj hR => x_load1 TIs.out (show ρ1 81 = Value.pointer _ from hR.1) (hj.hp.cell_row (i := 0) rfl (by first | assumption | (simp only [Nat.mul_one]; assumption)))) ?_
                    first | refine dx_skip (i := 8) rfl (fun ρ1 w1 hj hR => (show ρ1 77 = Value.bool _ from hR.2.1)) (by decide) ?_ | refine dx_take (i := 8) rfl (fun ρ1 w1 hj hR => (show ρ1 77 = Value.bool _ from hR.2.1)) (fun ρ1 w1 hj hR => x_move (show ρ1 9 = Value.slice _ _ _ from hR.1)) ?_
                    first | refine dx_skip (i := 9) rfl (fun ρ1 w1 hj hR => (show ρ1 77 = Value.bool _ from hR.2.1)) (by decide) ?_ | refine dx_take (i := 9) rfl (fun ρ1 w1 hj hR => (show ρ1 77 = Value.bool _ from hR.2.1)) (fun ρ1 w1 hj hR => x_move (show ρ1 13 = Value.int _ _ from hR.1)) ?_
                    first | refine dx_skip (i := 10) rfl (fun ρ1 w1 hj hR => (show ρ1 77 = Value.bool _ from hR.2.2.1)) (by decide) ?_ | refine dx_take (i := 10) rfl (fun ρ1 w1 hj hR => (show ρ1 77 = Value.bool _ from hR.2.2.1)) (fun ρ1 w1 hj hR => x_indexRow UIs.out TIs.size (show ρ1 83 = Value.slice _ _ _ from hR.1) (show ρ1 84 = Value.int _ _ from hR.2.1) rfl (by omega)) ?_
                    first | refine dx_skip (i := 11) rfl (fun ρ1 w1 hj hR => (show ρ1 77 = Value.bool _ from hR.2.1)) (by decide) ?_ | refine dx_take (i := 11) rfl (fun ρ1 w1 hj hR => (show ρ1 77 = Value.bool _ from hR.2.1)) (fun ρ1 w1 hj hR => x_load1 TIs.out (show ρ1 85 = Value.pointer _ from hR.1) (hj.hp.cell_row (i := 0) rfl (by first | assumption | (simp only [Nat.mul_one]; assumption)))) ?_
                    refine dx_nil ?_
                    intro f W hJ hV
                    have hb_23 := hJ.bl
                    obtain ⟨v86, v85, v84, v83, v82, v81, v80, v79, v78, v77, v76, v75, _⟩ := hV
                    simp only [updL]
                    have e75 : f 0 = _ := v75
                    rw [e75]
                    have e76 : f 1 = _ := v76
                    rw [e76]
                    have e77 : f 2 = _ := v77
                    rw [e77]
                    have e78 : f 3 = _ := v78
                    rw [e78]
                    have e79 : f 4 = _ := v79
                    rw [e79]
                    have e80 : f 5 = _ := v80
                    rw [e80]
                    have e81 : f 6 = _ := v81
                    rw [e81]
                    have e82 : f 7 = _ := v82
                    rw [e82]
                    have e83 : f 8 = _ := v83
                    rw [e83]
                    have e84 : f 9 = _ := v84
                    rw [e84]
                    have e85 : f 10 = _ := v85
                    rw [e85]
                    have e86 : f 11 = _ := v86
                    rw [e86]
                    replace hh := hJ.hp
                    clear e75 e76 e77 e78 e79 e80 e81 e82 e83 e84 e85 e86 hJ
                    cases q with
                    | true =>
                      first | (refine wl_guard_skip (by decide) rfl rfl (by decide) ?_) | (refine wl_guard_take rfl rfl ?_; (refine s_geq_str rfl rfl (by decide) ?_)) | (refine wl_guard_skipV (by decide) rfl rfl ?_)
                      first | refine s_pick_t rfl (ev_bool rfl) (by decide) ?_ | refine s_pick_f rfl (ev_bool rfl) (by decide) ?_
                      refine wl_end ?_
                      refine wc_cond_f rfl ?_
                      refine wc_skip ?_
                      refine k_then ?_
                      refine wc_region ?_
                      refine s_move (ev_bool rfl) (by decide) ?_
                      refine s_move (ev_bool rfl) (by decide) ?_
                      first | (refine wl_guard_skip (by decide) rfl rfl (by decide) ?_) | (refine wl_guard_take rfl rfl ?_; (refine s_move (ev_sl rfl) (by decide) ?_)) | (refine wl_guard_skipV (by decide) rfl rfl ?_)
                      first | (refine wl_guard_skip (by decide) rfl rfl (by decide) ?_) | (refine wl_guard_take rfl rfl ?_; (refine s_move (ev_int rfl) (by decide) ?_)) | (refine wl_guard_skipV (by decide) rfl rfl ?_)
                      first | (refine wl_guard_skip (by decide) rfl rfl (by decide) ?_) | (refine wl_guard_take rfl rfl ?_; (refine s_indexRow UIs.out TIs.size rfl rfl rfl (by omega) (by decide) ?_)) | (refine wl_guard_skipV (by decide) rfl rfl ?_)
                      first | (refine wl_guard_skip (by decide) rfl rfl (by decide) ?_) | (refine wl_guard_take rfl rfl ?_; (refine s_load1 TIs.out rfl (hh.cell_row (i := 0) rfl (by first | assumption | (simp only [Nat.mul_one]; assumption))) (by decide) ?_)) | (refine wl_guard_skipV (by decide) rfl rfl ?_)
                      first | (refine wl_guard_skip (by decide) rfl rfl (by decide) ?_) | (refine wl_guard_take rfl rfl ?_; (refine s_move (ev_str rfl) (by decide) ?_)) | (refine wl_guard_skipV (by decide) rfl rfl ?_)
                      first | (refine wl_guard_skip (by decide) rfl rfl (by decide) ?_) | (refine wl_guard_take rfl rfl ?_; (first | refine s_eql_str_t rfl rfl (by first | rfl | assumption | decide) (by decide) ?_ | refine s_eql_str_f rfl rfl (by first | assumption | decide) (by decide) ?_)) | (refine wl_guard_skipV (by decide) rfl rfl ?_)
                      first | refine s_pick_t rfl (ev_bool rfl) (by decide) ?_ | refine s_pick_f rfl (ev_bool rfl) (by decide) ?_
                      refine s_assign (ev_bool rfl) (by decide) ?_
                      refine wl_nil ?_
                      refine b_norm ?_
                      refine k_then ?_
                      refine wc_region ?_
                      refine s_move (ev_int rfl) (by decide) ?_
                      refine s_addi rfl rfl (by omega) (by omega) (by decide) ?_
                      refine s_assign (ev_int rfl) (by decide) ?_
                      refine wl_nil ?_
                      refine k_then ?_
                      -- at ('round',)
                      refine ⟨⟨0 + 1, true, by omega, rfl, rfl, by rw [hms]; simp, hh⟩, by show (allL ds).length - (0 + 1) < (allL ds).length - 0; omega, ?_⟩
                      (repeat (first | exact agree_mask _ _ _ | refine agree_upd rfl ?_ | refine agree_mask2 rfl ?_))
                    | false =>
                      by_cases hxm : x = m
                      · first | (refine wl_guard_skip (by decide) rfl rfl (by decide) ?_) | (refine wl_guard_take rfl rfl ?_; (refine s_geq_str rfl rfl (by decide) ?_)) | (refine wl_guard_skipV (by decide) rfl rfl ?_)
                        first | refine s_pick_t rfl (ev_bool rfl) (by decide) ?_ | refine s_pick_f rfl (ev_bool rfl) (by decide) ?_
                        refine wl_end ?_
                        refine wc_cond_f rfl ?_
                        refine wc_skip ?_
                        refine k_then ?_
                        refine wc_region ?_
                        refine s_move (ev_bool rfl) (by decide) ?_
                        refine s_move (ev_bool rfl) (by decide) ?_
                        first | (refine wl_guard_skip (by decide) rfl rfl (by decide) ?_) | (refine wl_guard_take rfl rfl ?_; (refine s_move (ev_sl rfl) (by decide) ?_)) | (refine wl_guard_skipV (by decide) rfl rfl ?_)
                        first | (refine wl_guard_skip (by decide) rfl rfl (by decide) ?_) | (refine wl_guard_take rfl rfl ?_; (refine s_move (ev_int rfl) (by decide) ?_)) | (refine wl_guard_skipV (by decide) rfl rfl ?_)
                        first | (refine wl_guard_skip (by decide) rfl rfl (by decide) ?_) | (refine wl_guard_take rfl rfl ?_; (refine s_indexRow UIs.out TIs.size rfl rfl rfl (by omega) (by decide) ?_)) | (refine wl_guard_skipV (by decide) rfl rfl ?_)
                        first | (refine wl_guard_skip (by decide) rfl rfl (by decide) ?_) | (refine wl_guard_take rfl rfl ?_; (refine s_load1 TIs.out rfl (hh.cell_row (i := 0) rfl (by first | assumption | (simp only [Nat.mul_one]; assumption))) (by decide) ?_)) | (refine wl_guard_skipV (by decide) rfl rfl ?_)
                        first | (refine wl_guard_skip (by decide) rfl rfl (by decide) ?_) | (refine wl_guard_take rfl rfl ?_; (refine s_move (ev_str rfl) (by decide) ?_)) | (refine wl_guard_skipV (by decide) rfl rfl ?_)
                        first | (refine wl_guard_skip (by decide) rfl rfl (by decide) ?_) | (refine wl_guard_take rfl rfl ?_; (first | refine s_eql_str_t rfl rfl (by first | rfl | assumption | decide) (by decide) ?_ | refine s_eql_str_f rfl rfl (by first | assumption | decide) (by decide) ?_)) | (refine wl_guard_skipV (by decide) rfl rfl ?_)
                        first | refine s_pick_t rfl (ev_bool rfl) (by decide) ?_ | refine s_pick_f rfl (ev_bool rfl) (by decide) ?_
                        refine s_assign (ev_bool rfl) (by decide) ?_
                        refine wl_nil ?_
                        refine b_norm ?_
                        refine k_then ?_
                        refine wc_region ?_
                        refine s_move (ev_int rfl) (by decide) ?_
                        refine s_addi rfl rfl (by omega) (by omega) (by decide) ?_
                        refine s_assign (ev_int rfl) (by decide) ?_
                        refine wl_nil ?_
                        refine k_then ?_
                        -- at ('round',)
                        refine ⟨⟨0 + 1, true, by omega, rfl, rfl, by rw [hms]; simp [hxm], hh⟩, by show (allL ds).length - (0 + 1) < (allL ds).length - 0; omega, ?_⟩
                        (repeat (first | exact agree_mask _ _ _ | refine agree_upd rfl ?_ | refine agree_mask2 rfl ?_))
                      · first | (refine wl_guard_skip (by decide) rfl rfl (by decide) ?_) | (refine wl_guard_take rfl rfl ?_; (refine s_geq_str rfl rfl (by decide) ?_)) | (refine wl_guard_skipV (by decide) rfl rfl ?_)
                        first | refine s_pick_t rfl (ev_bool rfl) (by decide) ?_ | refine s_pick_f rfl (ev_bool rfl) (by decide) ?_
                        refine wl_end ?_
                        refine wc_cond_f rfl ?_
                        refine wc_skip ?_
                        refine k_then ?_
                        refine wc_region ?_
                        refine s_move (ev_bool rfl) (by decide) ?_
                        refine s_move (ev_bool rfl) (by decide) ?_
                        first | (refine wl_guard_skip (by decide) rfl rfl (by decide) ?_) | (refine wl_guard_take rfl rfl ?_; (refine s_move (ev_sl rfl) (by decide) ?_)) | (refine wl_guard_skipV (by decide) rfl rfl ?_)
                        first | (refine wl_guard_skip (by decide) rfl rfl (by decide) ?_) | (refine wl_guard_take rfl rfl ?_; (refine s_move (ev_int rfl) (by decide) ?_)) | (refine wl_guard_skipV (by decide) rfl rfl ?_)
                        first | (refine wl_guard_skip (by decide) rfl rfl (by decide) ?_) | (refine wl_guard_take rfl rfl ?_; (refine s_indexRow UIs.out TIs.size rfl rfl rfl (by omega) (by decide) ?_)) | (refine wl_guard_skipV (by decide) rfl rfl ?_)
                        first | (refine wl_guard_skip (by decide) rfl rfl (by decide) ?_) | (refine wl_guard_take rfl rfl ?_; (refine s_load1 TIs.out rfl (hh.cell_row (i := 0) rfl (by first | assumption | (simp only [Nat.mul_one]; assumption))) (by decide) ?_)) | (refine wl_guard_skipV (by decide) rfl rfl ?_)
                        first | (refine wl_guard_skip (by decide) rfl rfl (by decide) ?_) | (refine wl_guard_take rfl rfl ?_; (refine s_move (ev_str rfl) (by decide) ?_)) | (refine wl_guard_skipV (by decide) rfl rfl ?_)
                        first | (refine wl_guard_skip (by decide) rfl rfl (by decide) ?_) | (refine wl_guard_take rfl rfl ?_; (first | refine s_eql_str_t rfl rfl (by first | rfl | assumption | decide) (by decide) ?_ | refine s_eql_str_f rfl rfl (by first | assumption | decide) (by decide) ?_)) | (refine wl_guard_skipV (by decide) rfl rfl ?_)
                        first | refine s_pick_t rfl (ev_bool rfl) (by decide) ?_ | refine s_pick_f rfl (ev_bool rfl) (by decide) ?_
                        refine s_assign (ev_bool rfl) (by decide) ?_
                        refine wl_nil ?_
                        refine b_norm ?_
                        refine k_then ?_
                        refine wc_region ?_
                        refine s_move (ev_int rfl) (by decide) ?_
                        refine s_addi rfl rfl (by omega) (by omega) (by decide) ?_
                        refine s_assign (ev_int rfl) (by decide) ?_
                        refine wl_nil ?_
                        refine k_then ?_
                        -- at ('round',)
                        refine ⟨⟨0 + 1, false, by omega, rfl, rfl, by rw [hms]; simp [hxm], hh⟩, by show (allL ds).length - (0 + 1) < (allL ds).length - 0; omega, ?_⟩
                        (repeat (first | exact agree_mask _ _ _ | refine agree_upd rfl ?_ | refine agree_mask2 rfl ?_))
                  · obtain ⟨j2, rfl⟩ : ∃ j2, i = j2 + 1 := ⟨i - 1, by omega⟩
                    obtain ⟨y, hy⟩ := get_of_lt (l := allL ds) (k := j2) (by omega)
                    have hy2 := strs_at hy
                    have hls : Op.bytesLess y.toList x.toList = true := by
                      rw [hAl] at hx hy
                      exact rise_fX hbd hy hx
                    refine wc_seq ?_
                    refine wc_seq ?_
                    refine wc_region ?_
                    refine s_move (ev_int rfl) (by decide) ?_
                    refine s_move (ev_int rfl) (by decide) ?_
                    first | refine s_lss_t rfl rfl (by omega) (by decide) ?_ | refine s_lss_f rfl rfl (by omega) (by decide) ?_
                    refine wl_end ?_
                    refine wc_cond_t rfl ?_
                    refine wc_skip ?_
                    refine k_then ?_
                    refine wc_seq ?_
                    refine wc_block ?_
                    refine wc_seq ?_
                    refine wc_seq ?_
                    -- at the drawn region 23
                    refine wc_drawn 12 [[(13, none)], [(75, some 0)], [(76, some 1)], [(9, none), (77, some 2)], [(13, none), (77, some 2)], [(79, some 4), (77, some 2)], [(78, some 3), (80, some 5), (77, some 2)], [(81, some 6), (77, some 2)], [(9, none), (77, some 2)], [(13, none), (77, some 2)], [(83, some 8), (84, some 9), (77, some 2)], [(85, some 10), (77, some 2)]] [(11, 86), (10, 85), (9, 84), (8, 83), (7, 82), (6, 81), (5, 80), (4, 79), (3, 78), (2, 77), (1, 76), (0, 75)] hh mixed (by kernel_rfl) ?_
                    refine dx_val (i := 0) (fun ρ1 w1 hj hR => x_move (show ρ1 13 = Value.int _ _ from hR.1)) ?_
                    first | refine dx_val (i := 1) (fun ρ1 w1 hj hR => x_gtr_t (show ρ1 75 = Value.int _ _ from hR.1) rfl (by omega)) ?_ | refine dx_val (i := 1) (fun ρ1 w1 hj hR => x_gtr_f (show ρ1 75 = Value.int _ _ from hR.1) rfl (by omega)) ?_
                    refine dx_val (i := 2) (fun ρ1 w1 hj hR => x_move (show ρ1 76 = Value.bool _ from hR.1)) ?_
                    first | refine dx_skip (i := 3) rfl (fun ρ1 w1 hj hR => (show ρ1 77 = Value.bool _ from hR.2.1)) (by decide) ?_ | refine dx_take (i := 3) rfl (fun ρ1 w1 hj hR => (show ρ1 77 = Value.bool _ from hR.2.1)) (fun ρ1 w1 hj hR => x_move (show ρ1 9 = Value.slice _ _ _ from hR.1)) ?_
                    first | refine dx_skip (i := 4) rfl (fun ρ1 w1 hj hR => (show ρ1 77 = Value.bool _ from hR.2.1)) (by decide) ?_ | refine dx_take (i := 4) rfl (fun ρ1 w1 hj hR => (show ρ1 77 = Value.bool _ from hR.2.1)) (fun ρ1 w1 hj hR => x_move (show ρ1 13 = Value.int _ _ from hR.1)) ?_
                    first | refine dx_skip (i := 5) rfl (fun ρ1 w1 hj hR => (show ρ1 77 = Value.bool _ from hR.2.1)) (by decide) ?_ | refine dx_take (i := 5) rfl (fun ρ1 w1 hj hR => (show ρ1 77 = Value.bool _ from hR.2.1)) (fun ρ1 w1 hj hR => x_subi (show ρ1 79 = Value.int _ _ from hR.1) rfl (by omega) (by omega)) ?_
                    first | refine dx_skip (i := 6) rfl (fun ρ1 w1 hj hR => (show ρ1 77 = Value.bool _ from hR.2.2.1)) (by decide) ?_ | refine dx_take (i := 6) rfl (fun ρ1 w1 hj hR => (show ρ1 77 = Value.bool _ from hR.2.2.1)) (fun ρ1 w1 hj hR => x_indexRow (k := j2) UIs.out TIs.size (show ρ1 78 = Value.slice _ _ _ from hR.1) (show ρ1 80 = Value.int _ _ from hR.2.1) (by omega) (by omega)) ?_
                    first | refine dx_skip (i := 7) rfl (fun ρ1 w1 hj hR => (show ρ1 77 = Value.bool _ from hR.2.1)) (by decide) ?_ | refine dx_take (i := 7) rfl (fun ρ1 w1 hj hR => (show ρ1 77 = Value.bool _ from hR.2.1)) (fun ρ1 w1 hj hR => x_load1 TIs.out (show ρ1 81 = Value.pointer _ from hR.1) (hj.hp.cell_row (i := 0) rfl (by first | assumption | (simp only [Nat.mul_one]; assumption)))) ?_
                    first | refine dx_skip (i := 8) rfl (fun ρ1 w1 hj hR => (show ρ1 77 = Value.bool _ from hR.2.1)) (by decide) ?_ | refine dx_take (i := 8) rfl (fun ρ1 w1 hj hR => (show ρ1 77 = Value.bool _ from hR.2.1)) (fun ρ1 w1 hj hR => x_move (show ρ1 9 = Value.slice _ _ _ from hR.1)) ?_
                    first | refine dx_skip (i := 9) rfl (fun ρ1 w1 hj hR => (show ρ1 77 = Value.bool _ from hR.2.1)) (by decide) ?_ | refine dx_take (i := 9) rfl (fun ρ1 w1 hj hR => (show ρ1 77 = Value.bool _ from hR.2.1)) (fun ρ1 w1 hj hR => x_move (show ρ1 13 = Value.int _ _ from hR.1)) ?_
                    first | refine dx_skip (i := 10) rfl (fun ρ1 w1 hj hR => (show ρ1 77 = Value.bool _ from hR.2.2.1)) (by decide) ?_ | refine dx_take (i := 10) rfl (fun ρ1 w1 hj hR => (show ρ1 77 = Value.bool _ from hR.2.2.1)) (fun ρ1 w1 hj hR => x_indexRow UIs.out TIs.size (show ρ1 83 = Value.slice _ _ _ from hR.1) (show ρ1 84 = Value.int _ _ from hR.2.1) rfl (by omega)) ?_
                    first | refine dx_skip (i := 11) rfl (fun ρ1 w1 hj hR => (show ρ1 77 = Value.bool _ from hR.2.1)) (by decide) ?_ | refine dx_take (i := 11) rfl (fun ρ1 w1 hj hR => (show ρ1 77 = Value.bool _ from hR.2.1)) (fun ρ1 w1 hj hR => x_load1 TIs.out (show ρ1 85 = Value.pointer _ from hR.1) (hj.hp.cell_row (i := 0) rfl (by first | assumption | (simp only [Nat.mul_one]; assumption)))) ?_
                    refine dx_nil ?_
                    intro f W hJ hV
                    have hb_23 := hJ.bl
                    obtain ⟨v86, v85, v84, v83, v82, v81, v80, v79, v78, v77, v76, v75, _⟩ := hV
                    simp only [updL]
                    have e75 : f 0 = _ := v75
                    rw [e75]
                    have e76 : f 1 = _ := v76
                    rw [e76]
                    have e77 : f 2 = _ := v77
                    rw [e77]
                    have e78 : f 3 = _ := v78
                    rw [e78]
                    have e79 : f 4 = _ := v79
                    rw [e79]
                    have e80 : f 5 = _ := v80
                    rw [e80]
                    have e81 : f 6 = _ := v81
                    rw [e81]
                    have e82 : f 7 = _ := v82
                    rw [e82]
                    have e83 : f 8 = _ := v83
                    rw [e83]
                    have e84 : f 9 = _ := v84
                    rw [e84]
                    have e85 : f 10 = _ := v85
                    rw [e85]
                    have e86 : f 11 = _ := v86
                    rw [e86]
                    replace hh := hJ.hp
                    clear e75 e76 e77 e78 e79 e80 e81 e82 e83 e84 e85 e86 hJ
                    first | (refine wl_guard_skip (by decide) rfl rfl (by decide) ?_) | (refine wl_guard_take rfl rfl ?_; (refine s_geq_str rfl rfl (by decide) ?_)) | (refine wl_guard_skipV (by decide) rfl rfl ?_)
                    -- at some 88
                    rw [hls]
                    cases q with
                    | true =>
                      first | refine s_pick_t rfl (ev_bool rfl) (by decide) ?_ | refine s_pick_f rfl (ev_bool rfl) (by decide) ?_
                      refine wl_end ?_
                      refine wc_cond_f rfl ?_
                      refine wc_skip ?_
                      refine k_then ?_
                      refine wc_region ?_
                      refine s_move (ev_bool rfl) (by decide) ?_
                      refine s_move (ev_bool rfl) (by decide) ?_
                      first | (refine wl_guard_skip (by decide) rfl rfl (by decide) ?_) | (refine wl_guard_take rfl rfl ?_; (refine s_move (ev_sl rfl) (by decide) ?_)) | (refine wl_guard_skipV (by decide) rfl rfl ?_)
                      first | (refine wl_guard_skip (by decide) rfl rfl (by decide) ?_) | (refine wl_guard_take rfl rfl ?_; (refine s_move (ev_int rfl) (by decide) ?_)) | (refine wl_guard_skipV (by decide) rfl rfl ?_)
                      first | (refine wl_guard_skip (by decide) rfl rfl (by decide) ?_) | (refine wl_guard_take rfl rfl ?_; (refine s_indexRow UIs.out TIs.size rfl rfl rfl (by omega) (by decide) ?_)) | (refine wl_guard_skipV (by decide) rfl rfl ?_)
                      first | (refine wl_guard_skip (by decide) rfl rfl (by decide) ?_) | (refine wl_guard_take rfl rfl ?_; (refine s_load1 TIs.out rfl (hh.cell_row (i := 0) rfl (by first | assumption | (simp only [Nat.mul_one]; assumption))) (by decide) ?_)) | (refine wl_guard_skipV (by decide) rfl rfl ?_)
                      first | (refine wl_guard_skip (by decide) rfl rfl (by decide) ?_) | (refine wl_guard_take rfl rfl ?_; (refine s_move (ev_str rfl) (by decide) ?_)) | (refine wl_guard_skipV (by decide) rfl rfl ?_)
                      first | (refine wl_guard_skip (by decide) rfl rfl (by decide) ?_) | (refine wl_guard_take rfl rfl ?_; (first | refine s_eql_str_t rfl rfl (by first | rfl | assumption | decide) (by decide) ?_ | refine s_eql_str_f rfl rfl (by first | assumption | decide) (by decide) ?_)) | (refine wl_guard_skipV (by decide) rfl rfl ?_)
                      first | refine s_pick_t rfl (ev_bool rfl) (by decide) ?_ | refine s_pick_f rfl (ev_bool rfl) (by decide) ?_
                      refine s_assign (ev_bool rfl) (by decide) ?_
                      refine wl_nil ?_
                      refine b_norm ?_
                      refine k_then ?_
                      refine wc_region ?_
                      refine s_move (ev_int rfl) (by decide) ?_
                      refine s_addi rfl rfl (by omega) (by omega) (by decide) ?_
                      refine s_assign (ev_int rfl) (by decide) ?_
                      refine wl_nil ?_
                      refine k_then ?_
                      -- at ('round',)
                      refine ⟨⟨(j2 + 1) + 1, true, by omega, rfl, rfl, by rw [hms]; simp, hh⟩, by show (allL ds).length - ((j2 + 1) + 1) < (allL ds).length - (j2 + 1); omega, ?_⟩
                      (repeat (first | exact agree_mask _ _ _ | refine agree_upd rfl ?_ | refine agree_mask2 rfl ?_))
                    | false =>
                      by_cases hxm : x = m
                      · first | refine s_pick_t rfl (ev_bool rfl) (by decide) ?_ | refine s_pick_f rfl (ev_bool rfl) (by decide) ?_
                        refine wl_end ?_
                        refine wc_cond_f rfl ?_
                        refine wc_skip ?_
                        refine k_then ?_
                        refine wc_region ?_
                        refine s_move (ev_bool rfl) (by decide) ?_
                        refine s_move (ev_bool rfl) (by decide) ?_
                        first | (refine wl_guard_skip (by decide) rfl rfl (by decide) ?_) | (refine wl_guard_take rfl rfl ?_; (refine s_move (ev_sl rfl) (by decide) ?_)) | (refine wl_guard_skipV (by decide) rfl rfl ?_)
                        first | (refine wl_guard_skip (by decide) rfl rfl (by decide) ?_) | (refine wl_guard_take rfl rfl ?_; (refine s_move (ev_int rfl) (by decide) ?_)) | (refine wl_guard_skipV (by decide) rfl rfl ?_)
                        first | (refine wl_guard_skip (by decide) rfl rfl (by decide) ?_) | (refine wl_guard_take rfl rfl ?_; (refine s_indexRow UIs.out TIs.size rfl rfl rfl (by omega) (by decide) ?_)) | (refine wl_guard_skipV (by decide) rfl rfl ?_)
                        first | (refine wl_guard_skip (by decide) rfl rfl (by decide) ?_) | (refine wl_guard_take rfl rfl ?_; (refine s_load1 TIs.out rfl (hh.cell_row (i := 0) rfl (by first | assumption | (simp only [Nat.mul_one]; assumption))) (by decide) ?_)) | (refine wl_guard_skipV (by decide) rfl rfl ?_)
                        first | (refine wl_guard_skip (by decide) rfl rfl (by decide) ?_) | (refine wl_guard_take rfl rfl ?_; (refine s_move (ev_str rfl) (by decide) ?_)) | (refine wl_guard_skipV (by decide) rfl rfl ?_)
                        first | (refine wl_guard_skip (by decide) rfl rfl (by decide) ?_) | (refine wl_guard_take rfl rfl ?_; (first | refine s_eql_str_t rfl rfl (by first | rfl | assumption | decide) (by decide) ?_ | refine s_eql_str_f rfl rfl (by first | assumption | decide) (by decide) ?_)) | (refine wl_guard_skipV (by decide) rfl rfl ?_)
                        first | refine s_pick_t rfl (ev_bool rfl) (by decide) ?_ | refine s_pick_f rfl (ev_bool rfl) (by decide) ?_
                        refine s_assign (ev_bool rfl) (by decide) ?_
                        refine wl_nil ?_
                        refine b_norm ?_
                        refine k_then ?_
                        refine wc_region ?_
                        refine s_move (ev_int rfl) (by decide) ?_
                        refine s_addi rfl rfl (by omega) (by omega) (by decide) ?_
                        refine s_assign (ev_int rfl) (by decide) ?_
                        refine wl_nil ?_
                        refine k_then ?_
                        -- at ('round',)
                        refine ⟨⟨(j2 + 1) + 1, true, by omega, rfl, rfl, by rw [hms]; simp [hxm], hh⟩, by show (allL ds).length - ((j2 + 1) + 1) < (allL ds).length - (j2 + 1); omega, ?_⟩
                        (repeat (first | exact agree_mask _ _ _ | refine agree_upd rfl ?_ | refine agree_mask2 rfl ?_))
                      · first | refine s_pick_t rfl (ev_bool rfl) (by decide) ?_ | refine s_pick_f rfl (ev_bool rfl) (by decide) ?_
                        refine wl_end ?_
                        refine wc_cond_f rfl ?_
                        refine wc_skip ?_
                        refine k_then ?_
                        refine wc_region ?_
                        refine s_move (ev_bool rfl) (by decide) ?_
                        refine s_move (ev_bool rfl) (by decide) ?_
                        first | (refine wl_guard_skip (by decide) rfl rfl (by decide) ?_) | (refine wl_guard_take rfl rfl ?_; (refine s_move (ev_sl rfl) (by decide) ?_)) | (refine wl_guard_skipV (by decide) rfl rfl ?_)
                        first | (refine wl_guard_skip (by decide) rfl rfl (by decide) ?_) | (refine wl_guard_take rfl rfl ?_; (refine s_move (ev_int rfl) (by decide) ?_)) | (refine wl_guard_skipV (by decide) rfl rfl ?_)
                        first | (refine wl_guard_skip (by decide) rfl rfl (by decide) ?_) | (refine wl_guard_take rfl rfl ?_; (refine s_indexRow UIs.out TIs.size rfl rfl rfl (by omega) (by decide) ?_)) | (refine wl_guard_skipV (by decide) rfl rfl ?_)
                        first | (refine wl_guard_skip (by decide) rfl rfl (by decide) ?_) | (refine wl_guard_take rfl rfl ?_; (refine s_load1 TIs.out rfl (hh.cell_row (i := 0) rfl (by first | assumption | (simp only [Nat.mul_one]; assumption))) (by decide) ?_)) | (refine wl_guard_skipV (by decide) rfl rfl ?_)
                        first | (refine wl_guard_skip (by decide) rfl rfl (by decide) ?_) | (refine wl_guard_take rfl rfl ?_; (refine s_move (ev_str rfl) (by decide) ?_)) | (refine wl_guard_skipV (by decide) rfl rfl ?_)
                        first | (refine wl_guard_skip (by decide) rfl rfl (by decide) ?_) | (refine wl_guard_take rfl rfl ?_; (first | refine s_eql_str_t rfl rfl (by first | rfl | assumption | decide) (by decide) ?_ | refine s_eql_str_f rfl rfl (by first | assumption | decide) (by decide) ?_)) | (refine wl_guard_skipV (by decide) rfl rfl ?_)
                        first | refine s_pick_t rfl (ev_bool rfl) (by decide) ?_ | refine s_pick_f rfl (ev_bool rfl) (by decide) ?_
                        refine s_assign (ev_bool rfl) (by decide) ?_
                        refine wl_nil ?_
                        refine b_norm ?_
                        refine k_then ?_
                        refine wc_region ?_
                        refine s_move (ev_int rfl) (by decide) ?_
                        refine s_addi rfl rfl (by omega) (by omega) (by decide) ?_
                        refine s_assign (ev_int rfl) (by decide) ?_
                        refine wl_nil ?_
                        refine k_then ?_
                        -- at ('round',)
                        refine ⟨⟨(j2 + 1) + 1, false, by omega, rfl, rfl, by rw [hms]; simp [hxm], hh⟩, by show (allL ds).length - ((j2 + 1) + 1) < (allL ds).length - (j2 + 1); omega, ?_⟩
                        (repeat (first | exact agree_mask _ _ _ | refine agree_upd rfl ?_ | refine agree_mask2 rfl ?_))
                · obtain rfl : i = (allL ds).length := by omega
                  rw [List.take_length, hAm] at hq
                  obtain rfl : q = withinL m.data.toList ds := by rw [Bool.eq_iff_iff, hq]
                  refine wc_seq ?_
                  refine wc_seq ?_
                  refine wc_region ?_
                  refine s_move (ev_int rfl) (by decide) ?_
                  refine s_move (ev_int rfl) (by decide) ?_
                  first | refine s_lss_t rfl rfl (by omega) (by decide) ?_ | refine s_lss_f rfl rfl (by omega) (by decide) ?_
                  refine wl_end ?_
                  refine wc_cond_f rfl ?_
                  refine wc_exit ?_
                  refine k_exit ?_
                  refine k_exit ?_
                  refine b_here ?_
                  refine k_then ?_
                  refine wc_seq ?_
                  refine wc_region ?_
                  refine s_move (ev_bool rfl) (by decide) ?_
                  refine s_move (ev_bool rfl) (by decide) ?_
                  refine s_eql_bool UIs.out rfl rfl (by decide) ?_
                  refine s_move (ev_bool rfl) (by decide) ?_
                  -- at guarded Op.call { callee := Callee.value (Operand.func 8), args := #[], argTypes := #[] 
                  rw [hqq]
                  -- at guarded Op.call { callee := Callee.value (Operand.func 8), args := #[], argTypes := #[] 
                  refine wl_guard_take rfl rfl ?_
                  refine s_callf (awake_calls _) FnIs.out rfl (by decide) ?_
                  rintro e_ w102 ⟨rfl, hb_⟩
                  refine ⟨_, rfl, ?_⟩
                  replace hh := hh.ext hb_
                  first | refine s_pick_t rfl (ev_bool rfl) (by decide) ?_ | refine s_pick_f rfl (ev_bool rfl) (by decide) ?_
                  refine s_assign (ev_bool rfl) (by decide) ?_
                  refine wl_end ?_
                  refine wc_ret ?_
                  -- at ('end', 'ret')
                  refine ret1 (by first | exact .inr rfl | exact .inl rfl) rfl rfl ?_
                  exact ⟨rfl, hh.below⟩
            · refine wc_seq ?_
              refine wc_seq ?_
              refine wc_region ?_
              refine s_move (ev_int rfl) (by decide) ?_
              refine s_move (ev_sl rfl) (by decide) ?_
              refine s_len_sl UIs.out rfl (by decide) ?_
              first | refine s_lss_t rfl rfl (by omega) (by decide) ?_ | refine s_lss_f rfl rfl (by omega) (by decide) ?_
              refine s_move (ev_bool rfl) (by decide) ?_
              first | (refine wl_guard_skip (by decide) rfl rfl (by decide) ?_) | (refine wl_guard_take rfl rfl ?_; (refine s_move (ev_bool rfl) (by decide) ?_)) | (refine wl_guard_skipV (by decide) rfl rfl ?_)
              first | refine s_pick_t rfl (ev_bool rfl) (by decide) ?_ | refine s_pick_f rfl (ev_bool rfl) (by decide) ?_
              refine wl_end ?_
              refine wc_cond_f rfl ?_
              refine wc_exit ?_
              refine k_exit ?_
              refine k_exit ?_
              refine b_here ?_
              refine k_then ?_
              refine wc_seq ?_
              refine wc_region ?_
              refine s_assign (ev_bool rfl) (by decide) ?_
              refine wl_end ?_
              refine wc_seq ?_
              refine wc_seq ?_
              refine wc_region ?_
              refine s_assign (ev_int rfl) (by decide) ?_
              refine wl_end ?_
              refine wc_block ?_
              -- at a loop
              refine wc_loop2 [4, 12, 13, 70, 71, 72, 73, 74, 75, 76, 77, 78, 79, 80, 81, 82, 83, 84, 85, 86, 87, 88, 89, 90, 91, 92, 93, 94, 95, 96, 97] 12 13
                (fun b i w' => ∃ (j : Nat) (q : Bool), j ≤ (allL ds).length ∧ i = .int .i64 j ∧ b = .bool q ∧ (q = true ↔ m ∈ (allL ds).take j) ∧ Hp w [.row A42 (allL ds).length c42 9 1 (strs (allL ds)), .row A' k c' 3 1 (i64s ds)] w')
                (fun _ i _ => (allL ds).length - (intOf i).toNat) ?_ ?_
              · exact ⟨0, _, Nat.zero_le _, rfl, rfl, by simp, hh⟩
              · clear hh
                rintro ρ2 b2 i2 w2 ⟨i, q, hi, rfl, rfl, hq, hh⟩
                -- 
                by_cases hlt2 : i < (allL ds).length
                · obtain ⟨x, hx⟩ := get_of_lt hlt2
                  have hx2 := strs_at hx
                  have hms := mem_take_step (m := m) hx
                  rw [← hq] at hms
                  obtain ⟨g, rfl⟩ := hh.row_some (i := 0) rfl (by omega)
                  by_cases hi0 : i = 0
                  · subst hi0
                    refine wc_seq ?_
                    refine wc_seq ?_
                    refine wc_region ?_
                    refine s_move (ev_int rfl) (by decide) ?_
                    refine s_move (ev_int rfl) (by decide) ?_
                    first | refine s_lss_t rfl rfl (by omega) (by decide) ?_ | refine s_lss_f rfl rfl (by omega) (by decide) ?_
                    refine wl_end ?_
                    refine wc_cond_t rfl ?_
                    refine wc_skip ?_
                    refine k_then ?_
                    refine wc_seq ?_
                    refine wc_block ?_
                    refine wc_seq ?_
                    refine wc_seq ?_
                    -- at the drawn region 23
                    refine wc_drawn 12 [[(13, none)], [(75, some 0)], [(76, some 1)], [(9, none), (77, some 2)], [(13, none), (77, some 2)], [(79, some 4), (77, some 2)], [(78, some 3), (80, some 5), (77, some 2)], [(81, some 6), (77, some 2)], [(9, none), (77, some 2)], [(13, none), (77, some 2)], [(83, some 8), (84, some 9), (77, some 2)], [(85, some 10), (77, some 2)]] [(11, 86), (10, 85), (9, 84), (8, 83), (7, 82), (6, 81), (5, 80), (4, 79), (3, 78), (2, 77), (1, 76), (0, 75)] hh mixed (by kernel_rfl) ?_
                    refine dx_val (i := 0) (fun ρ1 w1 hj hR => x_move (show ρ1 13 = Value.int _ _ from hR.1)) ?_
                    first | refine dx_val (i := 1) (fun ρ1 w1 hj hR => x_gtr_t (show ρ1 75 = Value.int _ _ from hR.1) rfl (by omega)) ?_ | refine dx_val (i := 1) (fun ρ1 w1 hj hR => x_gtr_f (show ρ1 75 = Value.int _ _ from hR.1) rfl (by omega)) ?_
                    refine dx_val (i := 2) (fun ρ1 w1 hj hR => x_move (show ρ1 76 = Value.bool _ from hR.1)) ?_
                    first | refine dx_skip (i := 3) rfl (fun ρ1 w1 hj hR => (show ρ1 77 = Value.bool _ from hR.2.1)) (by decide) ?_ | refine dx_take (i := 3) rfl (fun ρ1 w1 hj hR => (show ρ1 77 = Value.bool _ from hR.2.1)) (fun ρ1 w1 hj hR => x_move (show ρ1 9 = Value.slice _ _ _ from hR.1)) ?_
                    first | refine dx_skip (i := 4) rfl (fun ρ1 w1 hj hR => (show ρ1 77 = Value.bool _ from hR.2.1)) (by decide) ?_ | refine dx_take (i := 4) rfl (fun ρ1 w1 hj hR => (show ρ1 77 = Value.bool _ from hR.2.1)) (fun ρ1 w1 hj hR => x_move (show ρ1 13 = Value.int _ _ from hR.1)) ?_
                    first | refine dx_skip (i := 5) rfl (fun ρ1 w1 hj hR => (show ρ1 77 = Value.bool _ from hR.2.1)) (by decide) ?_ | refine dx_take (i := 5) rfl (fun ρ1 w1 hj hR => (show ρ1 77 = Value.bool _ from hR.2.1)) (fun ρ1 w1 hj hR => x_subi (show ρ1 79 = Value.int _ _ from hR.1) rfl (by omega) (by omega)) ?_
                    first | refine dx_skip (i := 6) rfl (fun ρ1 w1 hj hR => (show ρ1 77 = Value.bool _ from hR.2.2.1)) (by decide) ?_ | refine dx_take (i := 6) rfl (fun ρ1 w1 hj hR => (show ρ1 77 = Value.bool _ from hR.2.2.1)) (fun ρ1 w1 hj hR => x_indexRow UIs.out TIs.size (show ρ1 78 = Value.slice _ _ _ from hR.1) (show ρ1 80 = Value.int _ _ from hR.2.1) rfl (by omega)) ?_
                    first | refine dx_skip (i := 7) rfl (fun ρ1 w1 hj hR => (show ρ1 77 = Value.bool _ from hR.2.1)) (by decide) ?_ | refine dx_take (i := 7) rfl (fun ρ1 w1 hj hR => (show ρ1 77 = Value.bool _ from hR.2.1)) (fun ρ1 w1 hj hR => x_load1 TIs.out (show ρ1 81 = Value.pointer _ from hR.1) (hj.hp.cell_row (i := 0) rfl (by first | assumption | (simp only [Nat.mul_one]; assumption)))) ?_
                    first | refine dx_skip (i := 8) rfl (fun ρ1 w1 hj hR => (show ρ1 77 = Value.bool _ from hR.2.1)) (by decide) ?_ | refine dx_take (i := 8) rfl (fun ρ1 w1 hj hR => (show ρ1 77 = Value.bool _ from hR.2.1)) (fun ρ1 w1 hj hR => x_move (show ρ1 9 = Value.slice _ _ _ from hR.1)) ?_
                    first | refine dx_skip (i := 9) rfl (fun ρ1 w1 hj hR => (show ρ1 77 = Value.bool _ from hR.2.1)) (by decide) ?_ | refine dx_take (i := 9) rfl (fun ρ1 w1 hj hR => (show ρ1 77 = Value.bool _ from hR.2.1)) (fun ρ1 w1 hj hR => x_move (show ρ1 13 = Value.int _ _ from hR.1)) ?_
                    first | refine dx_skip (i := 10) rfl (fun ρ1 w1 hj hR => (show ρ1 77 = Value.bool _ from hR.2.2.1)) (by decide) ?_ | refine dx_take (i := 10) rfl (fun ρ1 w1 hj hR => (show ρ1 77 = Value.bool _ from hR.2.2.1)) (fun ρ1 w1 hj hR => x_indexRow UIs.out TIs.size (show ρ1 83 = Value.slice _ _ _ from hR.1) (show ρ1 84 = Value.int _ _ from hR.2.1) rfl (by omega)) ?_
                    first | refine dx_skip (i := 11) rfl (fun ρ1 w1 hj hR => (show ρ1 77 = Value.bool _ from hR.2.1)) (by decide) ?_ | refine dx_take (i := 11) rfl (fun ρ1 w1 hj hR => (show ρ1 77 = Value.bool _ from hR.2.1)) (fun ρ1 w1 hj hR => x_load1 TIs.out (show ρ1 85 = Value.pointer _ from hR.1) (hj.hp.cell_row (i := 0) rfl (by first | assumption | (simp only [Nat.mul_one]; assumption)))) ?_
                    refine dx_nil ?_
                    intro f W hJ hV
                    have hb_23 := hJ.bl
                    obtain ⟨v86, v85, v84, v83, v82, v81, v80, v79, v78, v77, v76, v75, _⟩ := hV
                    simp only [updL]
                    have e75 : f 0 = _ := v75
                    rw [e75]
                    have e76 : f 1 = _ := v76
                    rw [e76]
                    have e77 : f 2 = _ := v77
                    rw [e77]
                    have e78 : f 3 = _ := v78
                    rw [e78]
                    have e79 : f 4 = _ := v79
                    rw [e79]
                    have e80 : f 5 = _ := v80
                    rw [e80]
                    have e81 : f 6 = _ := v81
                    rw [e81]
                    have e82 : f 7 = _ := v82
                    rw [e82]
                    have e83 : f 8 = _ := v83
                    rw [e83]
                    have e84 : f 9 = _ := v84
                    rw [e84]
                    have e85 : f 10 = _ := v85
                    rw [e85]
                    have e86 : f 11 = _ := v86
                    rw [e86]
                    replace hh := hJ.hp
                    clear e75 e76 e77 e78 e79 e80 e81 e82 e83 e84 e85 e86 hJ
                    cases q with
                    | true =>
                      first | (refine wl_guard_skip (by decide) rfl rfl (by decide) ?_) | (refine wl_guard_take rfl rfl ?_; (refine s_geq_str rfl rfl (by decide) ?_)) | (refine wl_guard_skipV (by decide) rfl rfl ?_)
                      first | refine s_pick_t rfl (ev_bool rfl) (by decide) ?_ | refine s_pick_f rfl (ev_bool rfl) (by decide) ?_
                      refine wl_end ?_
                      refine wc_cond_f rfl ?_
                      refine wc_skip ?_
                      refine k_then ?_
                      refine wc_region ?_
                      refine s_move (ev_bool rfl) (by decide) ?_
                      refine s_move (ev_bool rfl) (by decide) ?_
                      first | (refine wl_guard_skip (by decide) rfl rfl (by decide) ?_) | (refine wl_guard_take rfl rfl ?_; (refine s_move (ev_sl rfl) (by decide) ?_)) | (refine wl_guard_skipV (by decide) rfl rfl ?_)
                      first | (refine wl_guard_skip (by decide) rfl rfl (by decide) ?_) | (refine wl_guard_take rfl rfl ?_; (refine s_move (ev_int rfl) (by decide) ?_)) | (refine wl_guard_skipV (by decide) rfl rfl ?_)
                      first | (refine wl_guard_skip (by decide) rfl rfl (by decide) ?_) | (refine wl_guard_take rfl rfl ?_; (refine s_indexRow UIs.out TIs.size rfl rfl rfl (by omega) (by decide) ?_)) | (refine wl_guard_skipV (by decide) rfl rfl ?_)
                      first | (refine wl_guard_skip (by decide) rfl rfl (by decide) ?_) | (refine wl_guard_take rfl rfl ?_; (refine s_load1 TIs.out rfl (hh.cell_row (i := 0) rfl (by first | assumption | (simp only [Nat.mul_one]; assumption))) (by decide) ?_)) | (refine wl_guard_skipV (by decide) rfl rfl ?_)
                      first | (refine wl_guard_skip (by decide) rfl rfl (by decide) ?_) | (refine wl_guard_take rfl rfl ?_; (refine s_move (ev_str rfl) (by decide) ?_)) | (refine wl_guard_skipV (by decide) rfl rfl ?_)
                      first | (refine wl_guard_skip (by decide) rfl rfl (by decide) ?_) | (refine wl_guard_take rfl rfl ?_; (first | refine s_eql_str_t rfl rfl (by first | rfl | assumption | decide) (by decide) ?_ | refine s_eql_str_f rfl rfl (by first | assumption | decide) (by decide) ?_)) | (refine wl_guard_skipV (by decide) rfl rfl ?_)
                      first | refine s_pick_t rfl (ev_bool rfl) (by decide) ?_ | refine s_pick_f rfl (ev_bool rfl) (by decide) ?_
                      refine s_assign (ev_bool rfl) (by decide) ?_
                      refine wl_nil ?_
                      refine b_norm ?_
                      refine k_then ?_
                      refine wc_region ?_
                      refine s_move (ev_int rfl) (by decide) ?_
                      refine s_addi rfl rfl (by omega) (by omega) (by decide) ?_
                      refine s_assign (ev_int rfl) (by decide) ?_
                      refine wl_nil ?_
                      refine k_then ?_
                      -- at ('round',)
                      refine ⟨⟨0 + 1, true, by omega, rfl, rfl, by rw [hms]; simp, hh⟩, by show (allL ds).length - (0 + 1) < (allL ds).length - 0; omega, ?_⟩
                      (repeat (first | exact agree_mask _ _ _ | refine agree_upd rfl ?_ | refine agree_mask2 rfl ?_))
                    | false =>
                      by_cases hxm : x = m
                      · first | (refine wl_guard_skip (by decide) rfl rfl (by decide) ?_) | (refine wl_guard_take rfl rfl ?_; (refine s_geq_str rfl rfl (by decide) ?_)) | (refine wl_guard_skipV (by decide) rfl rfl ?_)
                        first | refine s_pick_t rfl (ev_bool rfl) (by decide) ?_ | refine s_pick_f rfl (ev_bool rfl) (by decide) ?_
                        refine wl_end ?_
                        refine wc_cond_f rfl ?_
                        refine wc_skip ?_
                        refine k_then ?_
                        refine wc_region ?_
                        refine s_move (ev_bool rfl) (by decide) ?_
                        refine s_move (ev_bool rfl) (by decide) ?_
                        first | (refine wl_guard_skip (by decide) rfl rfl (by decide) ?_) | (refine wl_guard_take rfl rfl ?_; (refine s_move (ev_sl rfl) (by decide) ?_)) | (refine wl_guard_skipV (by decide) rfl rfl ?_)
                        first | (refine wl_guard_skip (by decide) rfl rfl (by decide) ?_) | (refine wl_guard_take rfl rfl ?_; (refine s_move (ev_int rfl) (by decide) ?_)) | (refine wl_guard_skipV (by decide) rfl rfl ?_)
                        first | (refine wl_guard_skip (by decide) rfl rfl (by decide) ?_) | (refine wl_guard_take rfl rfl ?_; (refine s_indexRow UIs.out TIs.size rfl rfl rfl (by omega) (by decide) ?_)) | (refine wl_guard_skipV (by decide) rfl rfl ?_)
                        first | (refine wl_guard_skip (by decide) rfl rfl (by decide) ?_) | (refine wl_guard_take rfl rfl ?_; (refine s_load1 TIs.out rfl (hh.cell_row (i := 0) rfl (by first | assumption | (simp only [Nat.mul_one]; assumption))) (by decide) ?_)) | (refine wl_guard_skipV (by decide) rfl rfl ?_)
                        first | (refine wl_guard_skip (by decide) rfl rfl (by decide) ?_) | (refine wl_guard_take rfl rfl ?_; (refine s_move (ev_str rfl) (by decide) ?_)) | (refine wl_guard_skipV (by decide) rfl rfl ?_)
                        first | (refine wl_guard_skip (by decide) rfl rfl (by decide) ?_) | (refine wl_guard_take rfl rfl ?_; (first | refine s_eql_str_t rfl rfl (by first | rfl | assumption | decide) (by decide) ?_ | refine s_eql_str_f rfl rfl (by first | assumption | decide) (by decide) ?_)) | (refine wl_guard_skipV (by decide) rfl rfl ?_)
                        first | refine s_pick_t rfl (ev_bool rfl) (by decide) ?_ | refine s_pick_f rfl (ev_bool rfl) (by decide) ?_
                        refine s_assign (ev_bool rfl) (by decide) ?_
                        refine wl_nil ?_
                        refine b_norm ?_
                        refine k_then ?_
                        refine wc_region ?_
                        refine s_move (ev_int rfl) (by decide) ?_
                        refine s_addi rfl rfl (by omega) (by omega) (by decide) ?_
                        refine s_assign (ev_int rfl) (by decide) ?_
                        refine wl_nil ?_
                        refine k_then ?_
                        -- at ('round',)
                        refine ⟨⟨0 + 1, true, by omega, rfl, rfl, by rw [hms]; simp [hxm], hh⟩, by show (allL ds).length - (0 + 1) < (allL ds).length - 0; omega, ?_⟩
                        (repeat (first | exact agree_mask _ _ _ | refine agree_upd rfl ?_ | refine agree_mask2 rfl ?_))
                      · first | (refine wl_guard_skip (by decide) rfl rfl (by decide) ?_) | (refine wl_guard_take rfl rfl ?_; (refine s_geq_str rfl rfl (by decide) ?_)) | (refine wl_guard_skipV (by decide) rfl rfl ?_)
                        first | refine s_pick_t rfl (ev_bool rfl) (by decide) ?_ | refine s_pick_f rfl (ev_bool rfl) (by decide) ?_
                        refine wl_end ?_
                        refine wc_cond_f rfl ?_
                        refine wc_skip ?_
                        refine k_then ?_
                        refine wc_region ?_
                        refine s_move (ev_bool rfl) (by decide) ?_
                        refine s_move (ev_bool rfl) (by decide) ?_
                        first | (refine wl_guard_skip (by decide) rfl rfl (by decide) ?_) | (refine wl_guard_take rfl rfl ?_; (refine s_move (ev_sl rfl) (by decide) ?_)) | (refine wl_guard_skipV (by decide) rfl rfl ?_)
                        first | (refine wl_guard_skip (by decide) rfl rfl (by decide) ?_) | (refine wl_guard_take rfl rfl ?_; (refine s_move (ev_int rfl) (by decide) ?_)) | (refine wl_guard_skipV (by decide) rfl rfl ?_)
                        first | (refine wl_guard_skip (by decide) rfl rfl (by decide) ?_) | (refine wl_guard_take rfl rfl ?_; (refine s_indexRow UIs.out TIs.size rfl rfl rfl (by omega) (by decide) ?_)) | (refine wl_guard_skipV (by decide) rfl rfl ?_)
                        first | (refine wl_guard_skip (by decide) rfl rfl (by decide) ?_) | (refine wl_guard_take rfl rfl ?_; (refine s_load1 TIs.out rfl (hh.cell_row (i := 0) rfl (by first | assumption | (simp only [Nat.mul_one]; assumption))) (by decide) ?_)) | (refine wl_guard_skipV (by decide) rfl rfl ?_)
                        first | (refine wl_guard_skip (by decide) rfl rfl (by decide) ?_) | (refine wl_guard_take rfl rfl ?_; (refine s_move (ev_str rfl) (by decide) ?_)) | (refine wl_guard_skipV (by decide) rfl rfl ?_)
                        first | (refine wl_guard_skip (by decide) rfl rfl (by decide) ?_) | (refine wl_guard_take rfl rfl ?_; (first | refine s_eql_str_t rfl rfl (by first | rfl | assumption | decide) (by decide) ?_ | refine s_eql_str_f rfl rfl (by first | assumption | decide) (by decide) ?_)) | (refine wl_guard_skipV (by decide) rfl rfl ?_)
                        first | refine s_pick_t rfl (ev_bool rfl) (by decide) ?_ | refine s_pick_f rfl (ev_bool rfl) (by decide) ?_
                        refine s_assign (ev_bool rfl) (by decide) ?_
                        refine wl_nil ?_
                        refine b_norm ?_
                        refine k_then ?_
                        refine wc_region ?_
                        refine s_move (ev_int rfl) (by decide) ?_
                        refine s_addi rfl rfl (by omega) (by omega) (by decide) ?_
                        refine s_assign (ev_int rfl) (by decide) ?_
                        refine wl_nil ?_
                        refine k_then ?_
                        -- at ('round',)
                        refine ⟨⟨0 + 1, false, by omega, rfl, rfl, by rw [hms]; simp [hxm], hh⟩, by show (allL ds).length - (0 + 1) < (allL ds).length - 0; omega, ?_⟩
                        (repeat (first | exact agree_mask _ _ _ | refine agree_upd rfl ?_ | refine agree_mask2 rfl ?_))
                  · obtain ⟨j2, rfl⟩ : ∃ j2, i = j2 + 1 := ⟨i - 1, by omega⟩
                    obtain ⟨y, hy⟩ := get_of_lt (l := allL ds) (k := j2) (by omega)
                    have hy2 := strs_at hy
                    have hls : Op.bytesLess y.toList x.toList = true := by
                      rw [hAl] at hx hy
                      exact rise_fX hbd hy hx
                    refine wc_seq ?_
                    refine wc_seq ?_
                    refine wc_region ?_
                    refine s_move (ev_int rfl) (by decide) ?_
                    refine s_move (ev_int rfl) (by decide) ?_
                    first | refine s_lss_t rfl rfl (by omega) (by decide) ?_ | refine s_lss_f rfl rfl (by omega) (by decide) ?_
                    refine wl_end ?_
                    refine wc_cond_t rfl ?_
                    refine wc_skip ?_
                    refine k_then ?_
                    refine wc_seq ?_
                    refine wc_block ?_
                    refine wc_seq ?_
                    refine wc_seq ?_
                    -- at the drawn region 23
                    refine wc_drawn 12 [[(13, none)], [(75, some 0)], [(76, some 1)], [(9, none), (77, some 2)], [(13, none), (77, some 2)], [(79, some 4), (77, some 2)], [(78, some 3), (80, some 5), (77, some 2)], [(81, some 6), (77, some 2)], [(9, none), (77, some 2)], [(13, none), (77, some 2)], [(83, some 8), (84, some 9), (77, some 2)], [(85, some 10), (77, some 2)]] [(11, 86), (10, 85), (9, 84), (8, 83), (7, 82), (6, 81), (5, 80), (4, 79), (3, 78), (2, 77), (1, 76), (0, 75)] hh mixed (by kernel_rfl) ?_
                    refine dx_val (i := 0) (fun ρ1 w1 hj hR => x_move (show ρ1 13 = Value.int _ _ from hR.1)) ?_
                    first | refine dx_val (i := 1) (fun ρ1 w1 hj hR => x_gtr_t (show ρ1 75 = Value.int _ _ from hR.1) rfl (by omega)) ?_ | refine dx_val (i := 1) (fun ρ1 w1 hj hR => x_gtr_f (show ρ1 75 = Value.int _ _ from hR.1) rfl (by omega)) ?_
                    refine dx_val (i := 2) (fun ρ1 w1 hj hR => x_move (show ρ1 76 = Value.bool _ from hR.1)) ?_
                    first | refine dx_skip (i := 3) rfl (fun ρ1 w1 hj hR => (show ρ1 77 = Value.bool _ from hR.2.1)) (by decide) ?_ | refine dx_take (i := 3) rfl (fun ρ1 w1 hj hR => (show ρ1 77 = Value.bool _ from hR.2.1)) (fun ρ1 w1 hj hR => x_move (show ρ1 9 = Value.slice _ _ _ from hR.1)) ?_
                    first | refine dx_skip (i := 4) rfl (fun ρ1 w1 hj hR => (show ρ1 77 = Value.bool _ from hR.2.1)) (by decide) ?_ | refine dx_take (i := 4) rfl (fun ρ1 w1 hj hR => (show ρ1 77 = Value.bool _ from hR.2.1)) (fun ρ1 w1 hj hR => x_move (show ρ1 13 = Value.int _ _ from hR.1)) ?_
                    first | refine dx_skip (i := 5) rfl (fun ρ1 w1 hj hR => (show ρ1 77 = Value.bool _ from hR.2.1)) (by decide) ?_ | refine dx_take (i := 5) rfl (fun ρ1 w1 hj hR => (show ρ1 77 = Value.bool _ from hR.2.1)) (fun ρ1 w1 hj hR => x_subi (show ρ1 79 = Value.int _ _ from hR.1) rfl (by omega) (by omega)) ?_
                    first | refine dx_skip (i := 6) rfl (fun ρ1 w1 hj hR => (show ρ1 77 = Value.bool _ from hR.2.2.1)) (by decide) ?_ | refine dx_take (i := 6) rfl (fun ρ1 w1 hj hR => (show ρ1 77 = Value.bool _ from hR.2.2.1)) (fun ρ1 w1 hj hR => x_indexRow (k := j2) UIs.out TIs.size (show ρ1 78 = Value.slice _ _ _ from hR.1) (show ρ1 80 = Value.int _ _ from hR.2.1) (by omega) (by omega)) ?_
                    first | refine dx_skip (i := 7) rfl (fun ρ1 w1 hj hR => (show ρ1 77 = Value.bool _ from hR.2.1)) (by decide) ?_ | refine dx_take (i := 7) rfl (fun ρ1 w1 hj hR => (show ρ1 77 = Value.bool _ from hR.2.1)) (fun ρ1 w1 hj hR => x_load1 TIs.out (show ρ1 81 = Value.pointer _ from hR.1) (hj.hp.cell_row (i := 0) rfl (by first | assumption | (simp only [Nat.mul_one]; assumption)))) ?_
                    first | refine dx_skip (i := 8) rfl (fun ρ1 w1 hj hR => (show ρ1 77 = Value.bool _ from hR.2.1)) (by decide) ?_ | refine dx_take (i := 8) rfl (fun ρ1 w1 hj hR => (show ρ1 77 = Value.bool _ from hR.2.1)) (fun ρ1 w1 hj hR => x_move (show ρ1 9 = Value.slice _ _ _ from hR.1)) ?_
                    first | refine dx_skip (i := 9) rfl (fun ρ1 w1 hj hR => (show ρ1 77 = Value.bool _ from hR.2.1)) (by decide) ?_ | refine dx_take (i := 9) rfl (fun ρ1 w1 hj hR => (show ρ1 77 = Value.bool _ from hR.2.1)) (fun ρ1 w1 hj hR => x_move (show ρ1 13 = Value.int _ _ from hR.1)) ?_
                    first | refine dx_skip (i := 10) rfl (fun ρ1 w1 hj hR => (show ρ1 77 = Value.bool _ from hR.2.2.1)) (by decide) ?_ | refine dx_take (i := 10) rfl (fun ρ1 w1 hj hR => (show ρ1 77 = Value.bool _ from hR.2.2.1)) (fun ρ1 w1 hj hR => x_indexRow UIs.out TIs.size (show ρ1 83 = Value.slice _ _ _ from hR.1) (show ρ1 84 = Value.int _ _ from hR.2.1) rfl (by omega)) ?_
                    first | refine dx_skip (i := 11) rfl (fun ρ1 w1 hj hR => (show ρ1 77 = Value.bool _ from hR.2.1)) (by decide) ?_ | refine dx_take (i := 11) rfl (fun ρ1 w1 hj hR => (show ρ1 77 = Value.bool _ from hR.2.1)) (fun ρ1 w1 hj hR => x_load1 TIs.out (show ρ1 85 = Value.pointer _ from hR.1) (hj.hp.cell_row (i := 0) rfl (by first | assumption | (simp only [Nat.mul_one]; assumption)))) ?_
                    refine dx_nil ?_
                    intro f W hJ hV
                    have hb_23 := hJ.bl
                    obtain ⟨v86, v85, v84, v83, v82, v81, v80, v79, v78, v77, v76, v75, _⟩ := hV
                    simp only [updL]
                    have e75 : f 0 = _ := v75
                    rw [e75]
                    have e76 : f 1 = _ := v76
                    rw [e76]
                    have e77 : f 2 = _ := v77
                    rw [e77]
                    have e78 : f 3 = _ := v78
                    rw [e78]
                    have e79 : f 4 = _ := v79
                    rw [e79]
                    have e80 : f 5 = _ := v80
                    rw [e80]
                    have e81 : f 6 = _ := v81
                    rw [e81]
                    have e82 : f 7 = _ := v82
                    rw [e82]
                    have e83 : f 8 = _ := v83
                    rw [e83]
                    have e84 : f 9 = _ := v84
                    rw [e84]
                    have e85 : f 10 = _ := v85
                    rw [e85]
                    have e86 : f 11 = _ := v86
                    rw [e86]
                    replace hh := hJ.hp
                    clear e75 e76 e77 e78 e79 e80 e81 e82 e83 e84 e85 e86 hJ
                    first | (refine wl_guard_skip (by decide) rfl rfl (by decide) ?_) | (refine wl_guard_take rfl rfl ?_; (refine s_geq_str rfl rfl (by decide) ?_)) | (refine wl_guard_skipV (by decide) rfl rfl ?_)
                    -- at some 88
                    rw [hls]
                    cases q with
                    | true =>
                      first | refine s_pick_t rfl (ev_bool rfl) (by decide) ?_ | refine s_pick_f rfl (ev_bool rfl) (by decide) ?_
                      refine wl_end ?_
                      refine wc_cond_f rfl ?_
                      refine wc_skip ?_
                      refine k_then ?_
                      refine wc_region ?_
                      refine s_move (ev_bool rfl) (by decide) ?_
                      refine s_move (ev_bool rfl) (by decide) ?_
                      first | (refine wl_guard_skip (by decide) rfl rfl (by decide) ?_) | (refine wl_guard_take rfl rfl ?_; (refine s_move (ev_sl rfl) (by decide) ?_)) | (refine wl_guard_skipV (by decide) rfl rfl ?_)
                      first | (refine wl_guard_skip (by decide) rfl rfl (by decide) ?_) | (refine wl_guard_take rfl rfl ?_; (refine s_move (ev_int rfl) (by decide) ?_)) | (refine wl_guard_skipV (by decide) rfl rfl ?_)
                      first | (refine wl_guard_skip (by decide) rfl rfl (by decide) ?_) | (refine wl_guard_take rfl rfl ?_; (refine s_indexRow UIs.out TIs.size rfl rfl rfl (by omega) (by decide) ?_)) | (refine wl_guard_skipV (by decide) rfl rfl ?_)
                      first | (refine wl_guard_skip (by decide) rfl rfl (by decide) ?_) | (refine wl_guard_take rfl rfl ?_; (refine s_load1 TIs.out rfl (hh.cell_row (i := 0) rfl (by first | assumption | (simp only [Nat.mul_one]; assumption))) (by decide) ?_)) | (refine wl_guard_skipV (by decide) rfl rfl ?_)
                      first | (refine wl_guard_skip (by decide) rfl rfl (by decide) ?_) | (refine wl_guard_take rfl rfl ?_; (refine s_move (ev_str rfl) (by decide) ?_)) | (refine wl_guard_skipV (by decide) rfl rfl ?_)
                      first | (refine wl_guard_skip (by decide) rfl rfl (by decide) ?_) | (refine wl_guard_take rfl rfl ?_; (first | refine s_eql_str_t rfl rfl (by first | rfl | assumption | decide) (by decide) ?_ | refine s_eql_str_f rfl rfl (by first | assumption | decide) (by decide) ?_)) | (refine wl_guard_skipV (by decide) rfl rfl ?_)
                      first | refine s_pick_t rfl (ev_bool rfl) (by decide) ?_ | refine s_pick_f rfl (ev_bool rfl) (by decide) ?_
                      refine s_assign (ev_bool rfl) (by decide) ?_
                      refine wl_nil ?_
                      refine b_norm ?_
                      refine k_then ?_
                      refine wc_region ?_
                      refine s_move (ev_int rfl) (by decide) ?_
                      refine s_addi rfl rfl (by omega) (by omega) (by decide) ?_
                      refine s_assign (ev_int rfl) (by decide) ?_
                      refine wl_nil ?_
                      refine k_then ?_
                      -- at ('round',)
                      refine ⟨⟨(j2 + 1) + 1, true, by omega, rfl, rfl, by rw [hms]; simp, hh⟩, by show (allL ds).length - ((j2 + 1) + 1) < (allL ds).length - (j2 + 1); omega, ?_⟩
                      (repeat (first | exact agree_mask _ _ _ | refine agree_upd rfl ?_ | refine agree_mask2 rfl ?_))
                    | false =>
                      by_cases hxm : x = m
                      · first | refine s_pick_t rfl (ev_bool rfl) (by decide) ?_ | refine s_pick_f rfl (ev_bool rfl) (by decide) ?_
                        refine wl_end ?_
                        refine wc_cond_f rfl ?_
                        refine wc_skip ?_
                        refine k_then ?_
                        refine wc_region ?_
                        refine s_move (ev_bool rfl) (by decide) ?_
                        refine s_move (ev_bool rfl) (by decide) ?_
                        first | (refine wl_guard_skip (by decide) rfl rfl (by decide) ?_) | (refine wl_guard_take rfl rfl ?_; (refine s_move (ev_sl rfl) (by decide) ?_)) | (refine wl_guard_skipV (by decide) rfl rfl ?_)
                        first | (refine wl_guard_skip (by decide) rfl rfl (by decide) ?_) | (refine wl_guard_take rfl rfl ?_; (refine s_move (ev_int rfl) (by decide) ?_)) | (refine wl_guard_skipV (by decide) rfl rfl ?_)
                        first | (refine wl_guard_skip (by decide) rfl rfl (by decide) ?_) | (refine wl_guard_take rfl rfl ?_; (refine s_indexRow UIs.out TIs.size rfl rfl rfl (by omega) (by decide) ?_)) | (refine wl_guard_skipV (by decide) rfl rfl ?_)
                        first | (refine wl_guard_skip (by decide) rfl rfl (by decide) ?_) | (refine wl_guard_take rfl rfl ?_; (refine s_load1 TIs.out rfl (hh.cell_row (i := 0) rfl (by first | assumption | (simp only [Nat.mul_one]; assumption))) (by decide) ?_)) | (refine wl_guard_skipV (by decide) rfl rfl ?_)
                        first | (refine wl_guard_skip (by decide) rfl rfl (by decide) ?_) | (refine wl_guard_take rfl rfl ?_; (refine s_move (ev_str rfl) (by decide) ?_)) | (refine wl_guard_skipV (by decide) rfl rfl ?_)
                        first | (refine wl_guard_skip (by decide) rfl rfl (by decide) ?_) | (refine wl_guard_take rfl rfl ?_; (first | refine s_eql_str_t rfl rfl (by first | rfl | assumption | decide) (by decide) ?_ | refine s_eql_str_f rfl rfl (by first | assumption | decide) (by decide) ?_)) | (refine wl_guard_skipV (by decide) rfl rfl ?_)
                        first | refine s_pick_t rfl (ev_bool rfl) (by decide) ?_ | refine s_pick_f rfl (ev_bool rfl) (by decide) ?_
                        refine s_assign (ev_bool rfl) (by decide) ?_
                        refine wl_nil ?_
                        refine b_norm ?_
                        refine k_then ?_
                        refine wc_region ?_
                        refine s_move (ev_int rfl) (by decide) ?_
                        refine s_addi rfl rfl (by omega) (by omega) (by decide) ?_
                        refine s_assign (ev_int rfl) (by decide) ?_
                        refine wl_nil ?_
                        refine k_then ?_
                        -- at ('round',)
                        refine ⟨⟨(j2 + 1) + 1, true, by omega, rfl, rfl, by rw [hms]; simp [hxm], hh⟩, by show (allL ds).length - ((j2 + 1) + 1) < (allL ds).length - (j2 + 1); omega, ?_⟩
                        (repeat (first | exact agree_mask _ _ _ | refine agree_upd rfl ?_ | refine agree_mask2 rfl ?_))
                      · first | refine s_pick_t rfl (ev_bool rfl) (by decide) ?_ | refine s_pick_f rfl (ev_bool rfl) (by decide) ?_
                        refine wl_end ?_
                        refine wc_cond_f rfl ?_
                        refine wc_skip ?_
                        refine k_then ?_
                        refine wc_region ?_
                        refine s_move (ev_bool rfl) (by decide) ?_
                        refine s_move (ev_bool rfl) (by decide) ?_
                        first | (refine wl_guard_skip (by decide) rfl rfl (by decide) ?_) | (refine wl_guard_take rfl rfl ?_; (refine s_move (ev_sl rfl) (by decide) ?_)) | (refine wl_guard_skipV (by decide) rfl rfl ?_)
                        first | (refine wl_guard_skip (by decide) rfl rfl (by decide) ?_) | (refine wl_guard_take rfl rfl ?_; (refine s_move (ev_int rfl) (by decide) ?_)) | (refine wl_guard_skipV (by decide) rfl rfl ?_)
                        first | (refine wl_guard_skip (by decide) rfl rfl (by decide) ?_) | (refine wl_guard_take rfl rfl ?_; (refine s_indexRow UIs.out TIs.size rfl rfl rfl (by omega) (by decide) ?_)) | (refine wl_guard_skipV (by decide) rfl rfl ?_)
                        first | (refine wl_guard_skip (by decide) rfl rfl (by decide) ?_) | (refine wl_guard_take rfl rfl ?_; (refine s_load1 TIs.out rfl (hh.cell_row (i := 0) rfl (by first | assumption | (simp only [Nat.mul_one]; assumption))) (by decide) ?_)) | (refine wl_guard_skipV (by decide) rfl rfl ?_)
                        first | (refine wl_guard_skip (by decide) rfl rfl (by decide) ?_) | (refine wl_guard_take rfl rfl ?_; (refine s_move (ev_str rfl) (by decide) ?_)) | (refine wl_guard_skipV (by decide) rfl rfl ?_)
                        first | (refine wl_guard_skip (by decide) rfl rfl (by decide) ?_) | (refine wl_guard_take rfl rfl ?_; (first | refine s_eql_str_t rfl rfl (by first | rfl | assumption | decide) (by decide) ?_ | refine s_eql_str_f rfl rfl (by first | assumption | decide) (by decide) ?_)) | (refine wl_guard_skipV (by decide) rfl rfl ?_)
                        first | refine s_pick_t rfl (ev_bool rfl) (by decide) ?_ | refine s_pick_f rfl (ev_bool rfl) (by decide) ?_
                        refine s_assign (ev_bool rfl) (by decide) ?_
                        refine wl_nil ?_
                        refine b_norm ?_
                        refine k_then ?_
                        refine wc_region ?_
                        refine s_move (ev_int rfl) (by decide) ?_
                        refine s_addi rfl rfl (by omega) (by omega) (by decide) ?_
                        refine s_assign (ev_int rfl) (by decide) ?_
                        refine wl_nil ?_
                        refine k_then ?_
                        -- at ('round',)
                        refine ⟨⟨(j2 + 1) + 1, false, by omega, rfl, rfl, by rw [hms]; simp [hxm], hh⟩, by show (allL ds).length - ((j2 + 1) + 1) < (allL ds).length - (j2 + 1); omega, ?_⟩
                        (repeat (first | exact agree_mask _ _ _ | refine agree_upd rfl ?_ | refine agree_mask2 rfl ?_))
                · obtain rfl : i = (allL ds).length := by omega
                  rw [List.take_length, hAm] at hq
                  obtain rfl : q = withinL m.data.toList ds := by rw [Bool.eq_iff_iff, hq]
                  refine wc_seq ?_
                  refine wc_seq ?_
                  refine wc_region ?_
                  refine s_move (ev_int rfl) (by decide) ?_
                  refine s_move (ev_int rfl) (by decide) ?_
                  first | refine s_lss_t rfl rfl (by omega) (by decide) ?_ | refine s_lss_f rfl rfl (by omega) (by decide) ?_
                  refine wl_end ?_
                  refine wc_cond_f rfl ?_
                  refine wc_exit ?_
                  refine k_exit ?_
                  refine k_exit ?_
                  refine b_here ?_
                  refine k_then ?_
                  refine wc_seq ?_
                  refine wc_region ?_
                  refine s_move (ev_bool rfl) (by decide) ?_
                  refine s_move (ev_bool rfl) (by decide) ?_
                  refine s_eql_bool UIs.out rfl rfl (by decide) ?_
                  refine s_move (ev_bool rfl) (by decide) ?_
                  -- at guarded Op.call { callee := Callee.value (Operand.func 8), args := #[], argTypes := #[] 
                  rw [hqq]
                  -- at guarded Op.call { callee := Callee.value (Operand.func 8), args := #[], argTypes := #[] 
                  refine wl_guard_take rfl rfl ?_
                  refine s_callf (awake_calls _) FnIs.out rfl (by decide) ?_
                  rintro e_ w102 ⟨rfl, hb_⟩
                  refine ⟨_, rfl, ?_⟩
                  replace hh := hh.ext hb_
                  first | refine s_pick_t rfl (ev_bool rfl) (by decide) ?_ | refine s_pick_f rfl (ev_bool rfl) (by decide) ?_
                  refine s_assign (ev_bool rfl) (by decide) ?_
                  refine wl_end ?_
                  refine wc_ret ?_
                  -- at ('end', 'ret')
                  refine ret1 (by first | exact .inr rfl | exact .inl rfl) rfl rfl ?_
                  exact ⟨rfl, hh.below⟩
          | true =>
            have hjk : ¬ j < k := fun h => hgo ⟨h, hqq⟩
            refine wc_seq ?_
            refine wc_seq ?_
            refine wc_region ?_
            refine s_move (ev_int rfl) (by decide) ?_
            refine s_move (ev_sl rfl) (by decide) ?_
            refine s_len_sl UIs.out rfl (by decide) ?_
            first | refine s_lss_t rfl rfl (by omega) (by decide) ?_ | refine s_lss_f rfl rfl (by omega) (by decide) ?_
            refine s_move (ev_bool rfl) (by decide) ?_
            first | (refine wl_guard_skip (by decide) rfl rfl (by decide) ?_) | (refine wl_guard_take rfl rfl ?_; (refine s_move (ev_bool rfl) (by decide) ?_)) | (refine wl_guard_skipV (by decide) rfl rfl ?_)
            first | refine s_pick_t rfl (ev_bool rfl) (by decide) ?_ | refine s_pick_f rfl (ev_bool rfl) (by decide) ?_
            refine wl_end ?_
            refine wc_cond_f rfl ?_
            refine wc_exit ?_
            refine k_exit ?_
            refine k_exit ?_
            refine b_here ?_
            refine k_then ?_
            refine wc_seq ?_
            refine wc_region ?_
            refine s_assign (ev_bool rfl) (by decide) ?_
            refine wl_end ?_
            refine wc_seq ?_
            refine wc_seq ?_
            refine wc_region ?_
            refine s_assign (ev_int rfl) (by decide) ?_
            refine wl_end ?_
            refine wc_block ?_
            -- at a loop
            refine wc_loop2 [4, 12, 13, 70, 71, 72, 73, 74, 75, 76, 77, 78, 79, 80, 81, 82, 83, 84, 85, 86, 87, 88, 89, 90, 91, 92, 93, 94, 95, 96, 97] 12 13
              (fun b i w' => ∃ (j : Nat) (q : Bool), j ≤ (allL ds).length ∧ i = .int .i64 j ∧ b = .bool q ∧ (q = true ↔ m ∈ (allL ds).take j) ∧ Hp w [.row A42 (allL ds).length c42 9 1 (strs (allL ds)), .row A' k c' 3 1 (i64s ds)] w')
              (fun _ i _ => (allL ds).length - (intOf i).toNat) ?_ ?_
            · exact ⟨0, _, Nat.zero_le _, rfl, rfl, by simp, hh⟩
            · clear hh
              rintro ρ2 b2 i2 w2 ⟨i, q, hi, rfl, rfl, hq, hh⟩
              -- 
              by_cases hlt2 : i < (allL ds).length
              · obtain ⟨x, hx⟩ := get_of_lt hlt2
                have hx2 := strs_at hx
                have hms := mem_take_step (m := m) hx
                rw [← hq] at hms
                obtain ⟨g, rfl⟩ := hh.row_some (i := 0) rfl (by omega)
                by_cases hi0 : i = 0
                · subst hi0
                  refine wc_seq ?_
                  refine wc_seq ?_
                  refine wc_region ?_
                  refine s_move (ev_int rfl) (by decide) ?_
                  refine s_move (ev_int rfl) (by decide) ?_
                  first | refine s_lss_t rfl rfl (by omega) (by decide) ?_ | refine s_lss_f rfl rfl (by omega) (by decide) ?_
                  refine wl_end ?_
                  refine wc_cond_t rfl ?_
                  refine wc_skip ?_
                  refine k_then ?_
                  refine wc_seq ?_
                  refine wc_block ?_
                  refine wc_seq ?_
                  refine wc_seq ?_
                  -- at the drawn region 23
                  refine wc_drawn 12 [[(13, none)], [(75, some 0)], [(76, some 1)], [(9, none), (77, some 2)], [(13, none), (77, some 2)], [(79, some 4), (77, some 2)], [(78, some 3), (80, some 5), (77, some 2)], [(81, some 6), (77, some 2)], [(9, none), (77, some 2)], [(13, none), (77, some 2)], [(83, some 8), (84, some 9), (77, some 2)], [(85, some 10), (77, some 2)]] [(11, 86), (10, 85), (9, 84), (8, 83), (7, 82), (6, 81), (5, 80), (4, 79), (3, 78), (2, 77), (1, 76), (0, 75)] hh mixed (by kernel_rfl) ?_
                  refine dx_val (i := 0) (fun ρ1 w1 hj hR => x_move (show ρ1 13 = Value.int _ _ from hR.1)) ?_
                  first | refine dx_val (i := 1) (fun ρ1 w1 hj hR => x_gtr_t (show ρ1 75 = Value.int _ _ from hR.1) rfl (by omega)) ?_ | refine dx_val (i := 1) (fun ρ1 w1 hj hR => x_gtr_f (show ρ1 75 = Value.int _ _ from hR.1) rfl (by omega)) ?_
                  refine dx_val (i := 2) (fun ρ1 w1 hj hR => x_move (show ρ1 76 = Value.bool _ from hR.1)) ?_
                  first | refine dx_skip (i := 3) rfl (fun ρ1 w1 hj hR => (show ρ1 77 = Value.bool _ from hR.2.1)) (by decide) ?_ | refine dx_take (i := 3) rfl (fun ρ1 w1 hj hR => (show ρ1 77 = Value.bool _ from hR.2.1)) (fun ρ1 w1 hj hR => x_move (show ρ1 9 = Value.slice _ _ _ from hR.1)) ?_
                  first | refine dx_skip (i := 4) rfl (fun ρ1 w1 hj hR => (show ρ1 77 = Value.bool _ from hR.2.1)) (by decide) ?_ | refine dx_take (i := 4) rfl (fun ρ1 w1 hj hR => (show ρ1 77 = Value.bool _ from hR.2.1)) (fun ρ1 w1 hj hR => x_move (show ρ1 13 = Value.int _ _ from hR.1)) ?_
                  first | refine dx_skip (i := 5) rfl (fun ρ1 w1 hj hR => (show ρ1 77 = Value.bool _ from hR.2.1)) (by decide) ?_ | refine dx_take (i := 5) rfl (fun ρ1 w1 hj hR => (show ρ1 77 = Value.bool _ from hR.2.1)) (fun ρ1 w1 hj hR => x_subi (show ρ1 79 = Value.int _ _ from hR.1) rfl (by omega) (by omega)) ?_
                  first | refine dx_skip (i := 6) rfl (fun ρ1 w1 hj hR => (show ρ1 77 = Value.bool _ from hR.2.2.1)) (by decide) ?_ | refine dx_take (i := 6) rfl (fun ρ1 w1 hj hR => (show ρ1 77 = Value.bool _ from hR.2.2.1)) (fun ρ1 w1 hj hR => x_indexRow UIs.out TIs.size (show ρ1 78 = Value.slice _ _ _ from hR.1) (show ρ1 80 = Value.int _ _ from hR.2.1) rfl (by omega)) ?_
                  first | refine dx_skip (i := 7) rfl (fun ρ1 w1 hj hR => (show ρ1 77 = Value.bool _ from hR.2.1)) (by decide) ?_ | refine dx_take (i := 7) rfl (fun ρ1 w1 hj hR => (show ρ1 77 = Value.bool _ from hR.2.1)) (fun ρ1 w1 hj hR => x_load1 TIs.out (show ρ1 81 = Value.pointer _ from hR.1) (hj.hp.cell_row (i := 0) rfl (by first | assumption | (simp only [Nat.mul_one]; assumption)))) ?_
                  first | refine dx_skip (i := 8) rfl (fun ρ1 w1 hj hR => (show ρ1 77 = Value.bool _ from hR.2.1)) (by decide) ?_ | refine dx_take (i := 8) rfl (fun ρ1 w1 hj hR => (show ρ1 77 = Value.bool _ from hR.2.1)) (fun ρ1 w1 hj hR => x_move (show ρ1 9 = Value.slice _ _ _ from hR.1)) ?_
                  first | refine dx_skip (i := 9) rfl (fun ρ1 w1 hj hR => (show ρ1 77 = Value.bool _ from hR.2.1)) (by decide) ?_ | refine dx_take (i := 9) rfl (fun ρ1 w1 hj hR => (show ρ1 77 = Value.bool _ from hR.2.1)) (fun ρ1 w1 hj hR => x_move (show ρ1 13 = Value.int _ _ from hR.1)) ?_
                  first | refine dx_skip (i := 10) rfl (fun ρ1 w1 hj hR => (show ρ1 77 = Value.bool _ from hR.2.2.1)) (by decide) ?_ | refine dx_take (i := 10) rfl (fun ρ1 w1 hj hR => (show ρ1 77 = Value.bool _ from hR.2.2.1)) (fun ρ1 w1 hj hR => x_indexRow UIs.out TIs.size (show ρ1 83 = Value.slice _ _ _ from hR.1) (show ρ1 84 = Value.int _ _ from hR.2.1) rfl (by omega)) ?_
                  first | refine dx_skip (i := 11) rfl (fun ρ1 w1 hj hR => (show ρ1 77 = Value.bool _ from hR.2.1)) (by decide) ?_ | refine dx_take (i := 11) rfl (fun ρ1 w1 hj hR => (show ρ1 77 = Value.bool _ from hR.2.1)) (fun ρ1 w1 hj hR => x_load1 TIs.out (show ρ1 85 = Value.pointer _ from hR.1) (hj.hp.cell_row (i := 0) rfl (by first | assumption | (simp only [Nat.mul_one]; assumption)))) ?_
                  refine dx_nil ?_
                  intro f W hJ hV
                  have hb_23 := hJ.bl
                  obtain ⟨v86, v85, v84, v83, v82, v81, v80, v79, v78, v77, v76, v75, _⟩ := hV
                  simp only [updL]
                  have e75 : f 0 = _ := v75
                  rw [e75]
                  have e76 : f 1 = _ := v76
                  rw [e76]
                  have e77 : f 2 = _ := v77
                  rw [e77]
                  have e78 : f 3 = _ := v78
                  rw [e78]
                  have e79 : f 4 = _ := v79
                  rw [e79]
                  have e80 : f 5 = _ := v80
                  rw [e80]
                  have e81 : f 6 = _ := v81
                  rw [e81]
                  have e82 : f 7 = _ := v82
                  rw [e82]
                  have e83 : f 8 = _ := v83
                  rw [e83]
                  have e84 : f 9 = _ := v84
                  rw [e84]
                  have e85 : f 10 = _ := v85
                  rw [e85]
                  have e86 : f 11 = _ := v86
                  rw [e86]
                  replace hh := hJ.hp
                  clear e75 e76 e77 e78 e79 e80 e81 e82 e83 e84 e85 e86 hJ
                  cases q with
                  | true =>
                    first | (refine wl_guard_skip (by decide) rfl rfl (by decide) ?_) | (refine wl_guard_take rfl rfl ?_; (refine s_geq_str rfl rfl (by decide) ?_)) | (refine wl_guard_skipV (by decide) rfl rfl ?_)
                    first | refine s_pick_t rfl (ev_bool rfl) (by decide) ?_ | refine s_pick_f rfl (ev_bool rfl) (by decide) ?_
                    refine wl_end ?_
                    refine wc_cond_f rfl ?_
                    refine wc_skip ?_
                    refine k_then ?_
                    refine wc_region ?_
                    refine s_move (ev_bool rfl) (by decide) ?_
                    refine s_move (ev_bool rfl) (by decide) ?_
                    first | (refine wl_guard_skip (by decide) rfl rfl (by decide) ?_) | (refine wl_guard_take rfl rfl ?_; (refine s_move (ev_sl rfl) (by decide) ?_)) | (refine wl_guard_skipV (by decide) rfl rfl ?_)
                    first | (refine wl_guard_skip (by decide) rfl rfl (by decide) ?_) | (refine wl_guard_take rfl rfl ?_; (refine s_move (ev_int rfl) (by decide) ?_)) | (refine wl_guard_skipV (by decide) rfl rfl ?_)
                    first | (refine wl_guard_skip (by decide) rfl rfl (by decide) ?_) | (refine wl_guard_take rfl rfl ?_; (refine s_indexRow UIs.out TIs.size rfl rfl rfl (by omega) (by decide) ?_)) | (refine wl_guard_skipV (by decide) rfl rfl ?_)
                    first | (refine wl_guard_skip (by decide) rfl rfl (by decide) ?_) | (refine wl_guard_take rfl rfl ?_; (refine s_load1 TIs.out rfl (hh.cell_row (i := 0) rfl (by first | assumption | (simp only [Nat.mul_one]; assumption))) (by decide) ?_)) | (refine wl_guard_skipV (by decide) rfl rfl ?_)
                    first | (refine wl_guard_skip (by decide) rfl rfl (by decide) ?_) | (refine wl_guard_take rfl rfl ?_; (refine s_move (ev_str rfl) (by decide) ?_)) | (refine wl_guard_skipV (by decide) rfl rfl ?_)
                    first | (refine wl_guard_skip (by decide) rfl rfl (by decide) ?_) | (refine wl_guard_take rfl rfl ?_; (first | refine s_eql_str_t rfl rfl (by first | rfl | assumption | decide) (by decide) ?_ | refine s_eql_str_f rfl rfl (by first | assumption | decide) (by decide) ?_)) | (refine wl_guard_skipV (by decide) rfl rfl ?_)
                    first | refine s_pick_t rfl (ev_bool rfl) (by decide) ?_ | refine s_pick_f rfl (ev_bool rfl) (by decide) ?_
                    refine s_assign (ev_bool rfl) (by decide) ?_
                    refine wl_nil ?_
                    refine b_norm ?_
                    refine k_then ?_
                    refine wc_region ?_
                    refine s_move (ev_int rfl) (by decide) ?_
                    refine s_addi rfl rfl (by omega) (by omega) (by decide) ?_
                    refine s_assign (ev_int rfl) (by decide) ?_
                    refine wl_nil ?_
                    refine k_then ?_
                    -- at ('round',)
                    refine ⟨⟨0 + 1, true, by omega, rfl, rfl, by rw [hms]; simp, hh⟩, by show (allL ds).length - (0 + 1) < (allL ds).length - 0; omega, ?_⟩
                    (repeat (first | exact agree_mask _ _ _ | refine agree_upd rfl ?_ | refine agree_mask2 rfl ?_))
                  | false =>
                    by_cases hxm : x = m
                    · first | (refine wl_guard_skip (by decide) rfl rfl (by decide) ?_) | (refine wl_guard_take rfl rfl ?_; (refine s_geq_str rfl rfl (by decide) ?_)) | (refine wl_guard_skipV (by decide) rfl rfl ?_)
                      first | refine s_pick_t rfl (ev_bool rfl) (by decide) ?_ | refine s_pick_f rfl (ev_bool rfl) (by decide) ?_
                      refine wl_end ?_
                      refine wc_cond_f rfl ?_
                      refine wc_skip ?_
                      refine k_then ?_
                      refine wc_region ?_
                      refine s_move (ev_bool rfl) (by decide) ?_
                      refine s_move (ev_bool rfl) (by decide) ?_
                      first | (refine wl_guard_skip (by decide) rfl rfl (by decide) ?_) | (refine wl_guard_take rfl rfl ?_; (refine s_move (ev_sl rfl) (by decide) ?_)) | (refine wl_guard_skipV (by decide) rfl rfl ?_)
                      first | (refine wl_guard_skip (by decide) rfl rfl (by decide) ?_) | (refine wl_guard_take rfl rfl ?_; (refine s_move (ev_int rfl) (by decide) ?_)) | (refine wl_guard_skipV (by decide) rfl rfl ?_)
                      first | (refine wl_guard_skip (by decide) rfl rfl (by decide) ?_) | (refine wl_guard_take rfl rfl ?_; (refine s_indexRow UIs.out TIs.size rfl rfl rfl (by omega) (by decide) ?_)) | (refine wl_guard_skipV (by decide) rfl rfl ?_)
                      first | (refine wl_guard_skip (by decide) rfl rfl (by decide) ?_) | (refine wl_guard_take rfl rfl ?_; (refine s_load1 TIs.out rfl (hh.cell_row (i := 0) rfl (by first | assumption | (simp only [Nat.mul_one]; assumption))) (by decide) ?_)) | (refine wl_guard_skipV (by decide) rfl rfl ?_)
                      first | (refine wl_guard_skip (by decide) rfl rfl (by decide) ?_) | (refine wl_guard_take rfl rfl ?_; (refine s_move (ev_str rfl) (by decide) ?_)) | (refine wl_guard_skipV (by decide) rfl rfl ?_)
                      first | (refine wl_guard_skip (by decide) rfl rfl (by decide) ?_) | (refine wl_guard_take rfl rfl ?_; (first | refine s_eql_str_t rfl rfl (by first | rfl | assumption | decide) (by decide) ?_ | refine s_eql_str_f rfl rfl (by first | assumption | decide) (by decide) ?_)) | (refine wl_guard_skipV (by decide) rfl rfl ?_)
                      first | refine s_pick_t rfl (ev_bool rfl) (by decide) ?_ | refine s_pick_f rfl (ev_bool rfl) (by decide) ?_
                      refine s_assign (ev_bool rfl) (by decide) ?_
                      refine wl_nil ?_
                      refine b_norm ?_
                      refine k_then ?_
                      refine wc_region ?_
                      refine s_move (ev_int rfl) (by decide) ?_
                      refine s_addi rfl rfl (by omega) (by omega) (by decide) ?_
                      refine s_assign (ev_int rfl) (by decide) ?_
                      refine wl_nil ?_
                      refine k_then ?_
                      -- at ('round',)
                      refine ⟨⟨0 + 1, true, by omega, rfl, rfl, by rw [hms]; simp [hxm], hh⟩, by show (allL ds).length - (0 + 1) < (allL ds).length - 0; omega, ?_⟩
                      (repeat (first | exact agree_mask _ _ _ | refine agree_upd rfl ?_ | refine agree_mask2 rfl ?_))
                    · first | (refine wl_guard_skip (by decide) rfl rfl (by decide) ?_) | (refine wl_guard_take rfl rfl ?_; (refine s_geq_str rfl rfl (by decide) ?_)) | (refine wl_guard_skipV (by decide) rfl rfl ?_)
                      first | refine s_pick_t rfl (ev_bool rfl) (by decide) ?_ | refine s_pick_f rfl (ev_bool rfl) (by decide) ?_
                      refine wl_end ?_
                      refine wc_cond_f rfl ?_
                      refine wc_skip ?_
                      refine k_then ?_
                      refine wc_region ?_
                      refine s_move (ev_bool rfl) (by decide) ?_
                      refine s_move (ev_bool rfl) (by decide) ?_
                      first | (refine wl_guard_skip (by decide) rfl rfl (by decide) ?_) | (refine wl_guard_take rfl rfl ?_; (refine s_move (ev_sl rfl) (by decide) ?_)) | (refine wl_guard_skipV (by decide) rfl rfl ?_)
                      first | (refine wl_guard_skip (by decide) rfl rfl (by decide) ?_) | (refine wl_guard_take rfl rfl ?_; (refine s_move (ev_int rfl) (by decide) ?_)) | (refine wl_guard_skipV (by decide) rfl rfl ?_)
                      first | (refine wl_guard_skip (by decide) rfl rfl (by decide) ?_) | (refine wl_guard_take rfl rfl ?_; (refine s_indexRow UIs.out TIs.size rfl rfl rfl (by omega) (by decide) ?_)) | (refine wl_guard_skipV (by decide) rfl rfl ?_)
                      first | (refine wl_guard_skip (by decide) rfl rfl (by decide) ?_) | (refine wl_guard_take rfl rfl ?_; (refine s_load1 TIs.out rfl (hh.cell_row (i := 0) rfl (by first | assumption | (simp only [Nat.mul_one]; assumption))) (by decide) ?_)) | (refine wl_guard_skipV (by decide) rfl rfl ?_)
                      first | (refine wl_guard_skip (by decide) rfl rfl (by decide) ?_) | (refine wl_guard_take rfl rfl ?_; (refine s_move (ev_str rfl) (by decide) ?_)) | (refine wl_guard_skipV (by decide) rfl rfl ?_)
                      first | (refine wl_guard_skip (by decide) rfl rfl (by decide) ?_) | (refine wl_guard_take rfl rfl ?_; (first | refine s_eql_str_t rfl rfl (by first | rfl | assumption | decide) (by decide) ?_ | refine s_eql_str_f rfl rfl (by first | assumption | decide) (by decide) ?_)) | (refine wl_guard_skipV (by decide) rfl rfl ?_)
                      first | refine s_pick_t rfl (ev_bool rfl) (by decide) ?_ | refine s_pick_f rfl (ev_bool rfl) (by decide) ?_
                      refine s_assign (ev_bool rfl) (by decide) ?_
                      refine wl_nil ?_
                      refine b_norm ?_
                      refine k_then ?_
                      refine wc_region ?_
                      refine s_move (ev_int rfl) (by decide) ?_
                      refine s_addi rfl rfl (by omega) (by omega) (by decide) ?_
                      refine s_assign (ev_int rfl) (by decide) ?_
                      refine wl_nil ?_
                      refine k_then ?_
                      -- at ('round',)
                      refine ⟨⟨0 + 1, false, by omega, rfl, rfl, by rw [hms]; simp [hxm], hh⟩, by show (allL ds).length - (0 + 1) < (allL ds).length - 0; omega, ?_⟩
                      (repeat (first | exact agree_mask _ _ _ | refine agree_upd rfl ?_ | refine agree_mask2 rfl ?_))
                · obtain ⟨j2, rfl⟩ : ∃ j2, i = j2 + 1 := ⟨i - 1, by omega⟩
                  obtain ⟨y, hy⟩ := get_of_lt (l := allL ds) (k := j2) (by omega)
                  have hy2 := strs_at hy
                  have hls : Op.bytesLess y.toList x.toList = true := by
                    rw [hAl] at hx hy
                    exact rise_fX hbd hy hx
                  refine wc_seq ?_
                  refine wc_seq ?_
                  refine wc_region ?_
                  refine s_move (ev_int rfl) (by decide) ?_
                  refine s_move (ev_int rfl) (by decide) ?_
                  first | refine s_lss_t rfl rfl (by omega) (by decide) ?_ | refine s_lss_f rfl rfl (by omega) (by decide) ?_
                  refine wl_end ?_
                  refine wc_cond_t rfl ?_
                  refine wc_skip ?_
                  refine k_then ?_
                  refine wc_seq ?_
                  refine wc_block ?_
                  refine wc_seq ?_
                  refine wc_seq ?_
                  -- at the drawn region 23
                  refine wc_drawn 12 [[(13, none)], [(75, some 0)], [(76, some 1)], [(9, none), (77, some 2)], [(13, none), (77, some 2)], [(79, some 4), (77, some 2)], [(78, some 3), (80, some 5), (77, some 2)], [(81, some 6), (77, some 2)], [(9, none), (77, some 2)], [(13, none), (77, some 2)], [(83, some 8), (84, some 9), (77, some 2)], [(85, some 10), (77, some 2)]] [(11, 86), (10, 85), (9, 84), (8, 83), (7, 82), (6, 81), (5, 80), (4, 79), (3, 78), (2, 77), (1, 76), (0, 75)] hh mixed (by kernel_rfl) ?_
                  refine dx_val (i := 0) (fun ρ1 w1 hj hR => x_move (show ρ1 13 = Value.int _ _ from hR.1)) ?_
                  first | refine dx_val (i := 1) (fun ρ1 w1 hj hR => x_gtr_t (show ρ1 75 = Value.int _ _ from hR.1) rfl (by omega)) ?_ | refine dx_val (i := 1) (fun ρ1 w1 hj hR => x_gtr_f (show ρ1 75 = Value.int _ _ from hR.1) rfl (by omega)) ?_
                  refine dx_val (i := 2) (fun ρ1 w1 hj hR => x_move (show ρ1 76 = Value.bool _ from hR.1)) ?_
                  first | refine dx_skip (i := 3) rfl (fun ρ1 w1 hj hR => (show ρ1 77 = Value.bool _ from hR.2.1)) (by decide) ?_ | refine dx_take (i := 3) rfl (fun ρ1 w1 hj hR => (show ρ1 77 = Value.bool _ from hR.2.1)) (fun ρ1 w1 hj hR => x_move (show ρ1 9 = Value.slice _ _ _ from hR.1)) ?_
                  first | refine dx_skip (i := 4) rfl (fun ρ1 w1 hj hR => (show ρ1 77 = Value.bool _ from hR.2.1)) (by decide) ?_ | refine dx_take (i := 4) rfl (fun ρ1 w1 hj hR => (show ρ1 77 = Value.bool _ from hR.2.1)) (fun ρ1 w1 hj hR => x_move (show ρ1 13 = Value.int _ _ from hR.1)) ?_
                  first | refine dx_skip (i := 5) rfl (fun ρ1 w1 hj hR => (show ρ1 77 = Value.bool _ from hR.2.1)) (by decide) ?_ | refine dx_take (i := 5) rfl (fun ρ1 w1 hj hR => (show ρ1 77 = Value.bool _ from hR.2.1)) (fun ρ1 w1 hj hR => x_subi (show ρ1 79 = Value.int _ _ from hR.1) rfl (by omega) (by omega)) ?_
                  first | refine dx_skip (i := 6) rfl (fun ρ1 w1 hj hR => (show ρ1 77 = Value.bool _ from hR.2.2.1)) (by decide) ?_ | refine dx_take (i := 6) rfl (fun ρ1 w1 hj hR => (show ρ1 77 = Value.bool _ from hR.2.2.1)) (fun ρ1 w1 hj hR => x_indexRow (k := j2) UIs.out TIs.size (show ρ1 78 = Value.slice _ _ _ from hR.1) (show ρ1 80 = Value.int _ _ from hR.2.1) (by omega) (by omega)) ?_
                  first | refine dx_skip (i := 7) rfl (fun ρ1 w1 hj hR => (show ρ1 77 = Value.bool _ from hR.2.1)) (by decide) ?_ | refine dx_take (i := 7) rfl (fun ρ1 w1 hj hR => (show ρ1 77 = Value.bool _ from hR.2.1)) (fun ρ1 w1 hj hR => x_load1 TIs.out (show ρ1 81 = Value.pointer _ from hR.1) (hj.hp.cell_row (i := 0) rfl (by first | assumption | (simp only [Nat.mul_one]; assumption)))) ?_
                  first | refine dx_skip (i := 8) rfl (fun ρ1 w1 hj hR => (show ρ1 77 = Value.bool _ from hR.2.1)) (by decide) ?_ | refine dx_take (i := 8) rfl (fun ρ1 w1 hj hR => (show ρ1 77 = Value.bool _ from hR.2.1)) (fun ρ1 w1 hj hR => x_move (show ρ1 9 = Value.slice _ _ _ from hR.1)) ?_
                  first | refine dx_skip (i := 9) rfl (fun ρ1 w1 hj hR => (show ρ1 77 = Value.bool _ from hR.2.1)) (by decide) ?_ | refine dx_take (i := 9) rfl (fun ρ1 w1 hj hR => (show ρ1 77 = Value.bool _ from hR.2.1)) (fun ρ1 w1 hj hR => x_move (show ρ1 13 = Value.int _ _ from hR.1)) ?_
                  first | refine dx_skip (i := 10) rfl (fun ρ1 w1 hj hR => (show ρ1 77 = Value.bool _ from hR.2.2.1)) (by decide) ?_ | refine dx_take (i := 10) rfl (fun ρ1 w1 hj hR => (show ρ1 77 = Value.bool _ from hR.2.2.1)) (fun ρ1 w1 hj hR => x_indexRow UIs.out TIs.size (show ρ1 83 = Value.slice _ _ _ from hR.1) (show ρ1 84 = Value.int _ _ from hR.2.1) rfl (by omega)) ?_
                  first | refine dx_skip (i := 11) rfl (fun ρ1 w1 hj hR => (show ρ1 77 = Value.bool _ from hR.2.1)) (by decide) ?_ | refine dx_take (i := 11) rfl (fun ρ1 w1 hj hR => (show ρ1 77 = Value.bool _ from hR.2.1)) (fun ρ1 w1 hj hR => x_load1 TIs.out (show ρ1 85 = Value.pointer _ from hR.1) (hj.hp.cell_row (i := 0) rfl (by first | assumption | (simp only [Nat.mul_one]; assumption)))) ?_
                  refine dx_nil ?_
                  intro f W hJ hV
                  have hb_23 := hJ.bl
                  obtain ⟨v86, v85, v84, v83, v82, v81, v80, v79, v78, v77, v76, v75, _⟩ := hV
                  simp only [updL]
                  have e75 : f 0 = _ := v75
                  rw [e75]
                  have e76 : f 1 = _ := v76
                  rw [e76]
                  have e77 : f 2 = _ := v77
                  rw [e77]
                  have e78 : f 3 = _ := v78
                  rw [e78]
                  have e79 : f 4 = _ := v79
                  rw [e79]
                  have e80 : f 5 = _ := v80
                  rw [e80]
                  have e81 : f 6 = _ := v81
                  rw [e81]
                  have e82 : f 7 = _ := v82
                  rw [e82]
                  have e83 : f 8 = _ := v83
                  rw [e83]
                  have e84 : f 9 = _ := v84
                  rw [e84]
                  have e85 : f 10 = _ := v85
                  rw [e85]
                  have e86 : f 11 = _ := v86
                  rw [e86]
                  replace hh := hJ.hp
                  clear e75 e76 e77 e78 e79 e80 e81 e82 e83 e84 e85 e86 hJ
                  first | (refine wl_guard_skip (by decide) rfl rfl (by decide) ?_) | (refine wl_guard_take rfl rfl ?_; (refine s_geq_str rfl rfl (by decide) ?_)) | (refine wl_guard_skipV (by decide) rfl rfl ?_)
                  -- at some 88
                  rw [hls]
                  cases q with
                  | true =>
                    first | refine s_pick_t rfl (ev_bool rfl) (by decide) ?_ | refine s_pick_f rfl (ev_bool rfl) (by decide) ?_
                    refine wl_end ?_
                    refine wc_cond_f rfl ?_
                    refine wc_skip ?_
                    refine k_then ?_
                    refine wc_region ?_
                    refine s_move (ev_bool rfl) (by decide) ?_
                    refine s_move (ev_bool rfl) (by decide) ?_
                    first | (refine wl_guard_skip (by decide) rfl rfl (by decide) ?_) | (refine wl_guard_take rfl rfl ?_; (refine s_move (ev_sl rfl) (by decide) ?_)) | (refine wl_guard_skipV (by decide) rfl rfl ?_)
                    first | (refine wl_guard_skip (by decide) rfl rfl (by decide) ?_) | (refine wl_guard_take rfl rfl ?_; (refine s_move (ev_int rfl) (by decide) ?_)) | (refine wl_guard_skipV (by decide) rfl rfl ?_)
                    first | (refine wl_guard_skip (by decide) rfl rfl (by decide) ?_) | (refine wl_guard_take rfl rfl ?_; (refine s_indexRow UIs.out TIs.size rfl rfl rfl (by omega) (by decide) ?_)) | (refine wl_guard_skipV (by decide) rfl rfl ?_)
                    first | (refine wl_guard_skip (by decide) rfl rfl (by decide) ?_) | (refine wl_guard_take rfl rfl ?_; (refine s_load1 TIs.out rfl (hh.cell_row (i := 0) rfl (by first | assumption | (simp only [Nat.mul_one]; assumption))) (by decide) ?_)) | (refine wl_guard_skipV (by decide) rfl rfl ?_)
                    first | (refine wl_guard_skip (by decide) rfl rfl (by decide) ?_) | (refine wl_guard_take rfl rfl ?_; (refine s_move (ev_str rfl) (by decide) ?_)) | (refine wl_guard_skipV (by decide) rfl rfl ?_)
                    first | (refine wl_guard_skip (by decide) rfl rfl (by decide) ?_) | (refine wl_guard_take rfl rfl ?_; (first | refine s_eql_str_t rfl rfl (by first | rfl | assumption | decide) (by decide) ?_ | refine s_eql_str_f rfl rfl (by first | assumption | decide) (by decide) ?_)) | (refine wl_guard_skipV (by decide) rfl rfl ?_)
                    first | refine s_pick_t rfl (ev_bool rfl) (by decide) ?_ | refine s_pick_f rfl (ev_bool rfl) (by decide) ?_
                    refine s_assign (ev_bool rfl) (by decide) ?_
                    refine wl_nil ?_
                    refine b_norm ?_
                    refine k_then ?_
                    refine wc_region ?_
                    refine s_move (ev_int rfl) (by decide) ?_
                    refine s_addi rfl rfl (by omega) (by omega) (by decide) ?_
                    refine s_assign (ev_int rfl) (by decide) ?_
                    refine wl_nil ?_
                    refine k_then ?_
                    -- at ('round',)
                    refine ⟨⟨(j2 + 1) + 1, true, by omega, rfl, rfl, by rw [hms]; simp, hh⟩, by show (allL ds).length - ((j2 + 1) + 1) < (allL ds).length - (j2 + 1); omega, ?_⟩
                    (repeat (first | exact agree_mask _ _ _ | refine agree_upd rfl ?_ | refine agree_mask2 rfl ?_))
                  | false =>
                    by_cases hxm : x = m
                    · first | refine s_pick_t rfl (ev_bool rfl) (by decide) ?_ | refine s_pick_f rfl (ev_bool rfl) (by decide) ?_
                      refine wl_end ?_
                      refine wc_cond_f rfl ?_
                      refine wc_skip ?_
                      refine k_then ?_
                      refine wc_region ?_
                      refine s_move (ev_bool rfl) (by decide) ?_
                      refine s_move (ev_bool rfl) (by decide) ?_
                      first | (refine wl_guard_skip (by decide) rfl rfl (by decide) ?_) | (refine wl_guard_take rfl rfl ?_; (refine s_move (ev_sl rfl) (by decide) ?_)) | (refine wl_guard_skipV (by decide) rfl rfl ?_)
                      first | (refine wl_guard_skip (by decide) rfl rfl (by decide) ?_) | (refine wl_guard_take rfl rfl ?_; (refine s_move (ev_int rfl) (by decide) ?_)) | (refine wl_guard_skipV (by decide) rfl rfl ?_)
                      first | (refine wl_guard_skip (by decide) rfl rfl (by decide) ?_) | (refine wl_guard_take rfl rfl ?_; (refine s_indexRow UIs.out TIs.size rfl rfl rfl (by omega) (by decide) ?_)) | (refine wl_guard_skipV (by decide) rfl rfl ?_)
                      first | (refine wl_guard_skip (by decide) rfl rfl (by decide) ?_) | (refine wl_guard_take rfl rfl ?_; (refine s_load1 TIs.out rfl (hh.cell_row (i := 0) rfl (by first | assumption | (simp only [Nat.mul_one]; assumption))) (by decide) ?_)) | (refine wl_guard_skipV (by decide) rfl rfl ?_)
                      first | (refine wl_guard_skip (by decide) rfl rfl (by decide) ?_) | (refine wl_guard_take rfl rfl ?_; (refine s_move (ev_str rfl) (by decide) ?_)) | (refine wl_guard_skipV (by decide) rfl rfl ?_)
                      first | (refine wl_guard_skip (by decide) rfl rfl (by decide) ?_) | (refine wl_guard_take rfl rfl ?_; (first | refine s_eql_str_t rfl rfl (by first | rfl | assumption | decide) (by decide) ?_ | refine s_eql_str_f rfl rfl (by first | assumption | decide) (by decide) ?_)) | (refine wl_guard_skipV (by decide) rfl rfl ?_)
                      first | refine s_pick_t rfl (ev_bool rfl) (by decide) ?_ | refine s_pick_f rfl (ev_bool rfl) (by decide) ?_
                      refine s_assign (ev_bool rfl) (by decide) ?_
                      refine wl_nil ?_
                      refine b_norm ?_
                      refine k_then ?_
                      refine wc_region ?_
                      refine s_move (ev_int rfl) (by decide) ?_
                      refine s_addi rfl rfl (by omega) (by omega) (by decide) ?_
                      refine s_assign (ev_int rfl) (by decide) ?_
                      refine wl_nil ?_
                      refine k_then ?_
                      -- at ('round',)
                      refine ⟨⟨(j2 + 1) + 1, true, by omega, rfl, rfl, by rw [hms]; simp [hxm], hh⟩, by show (allL ds).length - ((j2 + 1) + 1) < (allL ds).length - (j2 + 1); omega, ?_⟩
                      (repeat (first | exact agree_mask _ _ _ | refine agree_upd rfl ?_ | refine agree_mask2 rfl ?_))
                    · first | refine s_pick_t rfl (ev_bool rfl) (by decide) ?_ | refine s_pick_f rfl (ev_bool rfl) (by decide) ?_
                      refine wl_end ?_
                      refine wc_cond_f rfl ?_
                      refine wc_skip ?_
                      refine k_then ?_
                      refine wc_region ?_
                      refine s_move (ev_bool rfl) (by decide) ?_
                      refine s_move (ev_bool rfl) (by decide) ?_
                      first | (refine wl_guard_skip (by decide) rfl rfl (by decide) ?_) | (refine wl_guard_take rfl rfl ?_; (refine s_move (ev_sl rfl) (by decide) ?_)) | (refine wl_guard_skipV (by decide) rfl rfl ?_)
                      first | (refine wl_guard_skip (by decide) rfl rfl (by decide) ?_) | (refine wl_guard_take rfl rfl ?_; (refine s_move (ev_int rfl) (by decide) ?_)) | (refine wl_guard_skipV (by decide) rfl rfl ?_)
                      first | (refine wl_guard_skip (by decide) rfl rfl (by decide) ?_) | (refine wl_guard_take rfl rfl ?_; (refine s_indexRow UIs.out TIs.size rfl rfl rfl (by omega) (by decide) ?_)) | (refine wl_guard_skipV (by decide) rfl rfl ?_)
                      first | (refine wl_guard_skip (by decide) rfl rfl (by decide) ?_) | (refine wl_guard_take rfl rfl ?_; (refine s_load1 TIs.out rfl (hh.cell_row (i := 0) rfl (by first | assumption | (simp only [Nat.mul_one]; assumption))) (by decide) ?_)) | (refine wl_guard_skipV (by decide) rfl rfl ?_)
                      first | (refine wl_guard_skip (by decide) rfl rfl (by decide) ?_) | (refine wl_guard_take rfl rfl ?_; (refine s_move (ev_str rfl) (by decide) ?_)) | (refine wl_guard_skipV (by decide) rfl rfl ?_)
                      first | (refine wl_guard_skip (by decide) rfl rfl (by decide) ?_) | (refine wl_guard_take rfl rfl ?_; (first | refine s_eql_str_t rfl rfl (by first | rfl | assumption | decide) (by decide) ?_ | refine s_eql_str_f rfl rfl (by first | assumption | decide) (by decide) ?_)) | (refine wl_guard_skipV (by decide) rfl rfl ?_)
                      first | refine s_pick_t rfl (ev_bool rfl) (by decide) ?_ | refine s_pick_f rfl (ev_bool rfl) (by decide) ?_
                      refine s_assign (ev_bool rfl) (by decide) ?_
                      refine wl_nil ?_
                      refine b_norm ?_
                      refine k_then ?_
                      refine wc_region ?_
                      refine s_move (ev_int rfl) (by decide) ?_
                      refine s_addi rfl rfl (by omega) (by omega) (by decide) ?_
                      refine s_assign (ev_int rfl) (by decide) ?_
                      refine wl_nil ?_
                      refine k_then ?_
                      -- at ('round',)
                      refine ⟨⟨(j2 + 1) + 1, false, by omega, rfl, rfl, by rw [hms]; simp [hxm], hh⟩, by show (allL ds).length - ((j2 + 1) + 1) < (allL ds).length - (j2 + 1); omega, ?_⟩
                      (repeat (first | exact agree_mask _ _ _ | refine agree_upd rfl ?_ | refine agree_mask2 rfl ?_))
              · obtain rfl : i = (allL ds).length := by omega
                rw [List.take_length, hAm] at hq
                obtain rfl : q = withinL m.data.toList ds := by rw [Bool.eq_iff_iff, hq]
                refine wc_seq ?_
                refine wc_seq ?_
                refine wc_region ?_
                refine s_move (ev_int rfl) (by decide) ?_
                refine s_move (ev_int rfl) (by decide) ?_
                first | refine s_lss_t rfl rfl (by omega) (by decide) ?_ | refine s_lss_f rfl rfl (by omega) (by decide) ?_
                refine wl_end ?_
                refine wc_cond_f rfl ?_
                refine wc_exit ?_
                refine k_exit ?_
                refine k_exit ?_
                refine b_here ?_
                refine k_then ?_
                refine wc_seq ?_
                refine wc_region ?_
                refine s_move (ev_bool rfl) (by decide) ?_
                refine s_move (ev_bool rfl) (by decide) ?_
                refine s_eql_bool UIs.out rfl rfl (by decide) ?_
                refine s_move (ev_bool rfl) (by decide) ?_
                -- at guarded Op.call { callee := Callee.value (Operand.func 8), args := #[], argTypes := #[] 
                rw [hqq]
                -- at guarded Op.call { callee := Callee.value (Operand.func 8), args := #[], argTypes := #[] 
                refine wl_guard_take rfl rfl ?_
                refine s_callf (awake_calls _) FnIs.out rfl (by decide) ?_
                rintro e_ w102 ⟨rfl, hb_⟩
                refine ⟨_, rfl, ?_⟩
                replace hh := hh.ext hb_
                first | refine s_pick_t rfl (ev_bool rfl) (by decide) ?_ | refine s_pick_f rfl (ev_bool rfl) (by decide) ?_
                refine s_assign (ev_bool rfl) (by decide) ?_
                refine wl_end ?_
                refine wc_ret ?_
                -- at ('end', 'ret')
                refine ret1 (by first | exact .inr rfl | exact .inl rfl) rfl rfl ?_
                exact ⟨rfl, hh.below⟩
end Go.Proofs.Ytgljgalcbbjfgaa
