/- The walk through the document's answer's All. -/
import Derived.Test.YtgljgalcbbjfgaaMonoA
namespace Go.Proofs.Ytgljgalcbbjfgaa
open Go.RowKit
theorem rall_calls (D : Option Addr) (n c : Nat) (ds : List Int) (w : World) (hD : Sl w D n 1 (i64s ds)) (hn : n ≤ 100000) :
    Calls Try.prog 24 #[.slice D n c] w fun e w' => ∃ A c, e = .returned (.slice A (allL ds).length c) ∧ w'.ownsRow w.heap.size 9 1 (.slice A (allL ds).length c) (allL ds).length (strs (allL ds)) ∧ Below w.heap.size w w' := by
  have hdl : ds.length = n := by have := hD.1; rw [length_i64s] at this; omega
  have hh := Hp.start w
  refine calls_vc (N := 72) (l := [.slice D n c]) Try.func24 rfl rfl (by simp) ?_
  refine wc_seq ?_
  refine wc_region ?_
  refine s_assign (ev_sl rfl) (by decide) ?_
  refine wl_end ?_
  refine wc_seq ?_
  refine wc_region ?_
  refine s_assign (ev_int rfl) (by decide) ?_
  refine wl_end ?_
  refine wc_seq ?_
  refine wc_seq ?_
  refine wc_region ?_
  refine s_assign (ev_int rfl) (by decide) ?_
  refine wl_end ?_
  refine wc_block ?_
  -- at a loop
  refine wc_loop2 [2, 3, 4, 10, 11, 12, 13, 14, 15, 16, 17, 18, 19, 20, 21, 22, 23, 24, 25, 26, 27, 28, 29, 30, 31, 32, 33, 34, 35, 36] 3 4
    (fun p i w' => ∃ (k : Nat), k ≤ n ∧ i = .int .i64 k ∧ p = .int .i64 (allX (ds.take k)).length ∧ (allX (ds.take k)).length ≤ 65536 ∧ okN 1 ds = okN (allX (ds.take k)).length (ds.drop k) ∧ w = w')
    (fun _ i _ => n - (intOf i).toNat) ?_ ?_
  · exact ⟨0, Nat.zero_le _, rfl, rfl, by simp [allX], rfl, rfl⟩
  · rintro ρ' p i w' ⟨k, hk, rfl, rfl, hsz, hok, rfl⟩
    by_cases hlt : k < n
    · obtain ⟨d, hdk⟩ := get_of_lt (l := ds) (k := k) (by omega)
      obtain ⟨ad, rfl, hr⟩ := hD.at_ (by omega)
      have hpos := allX_pos (ds.take k)
      by_cases hb1 : 0 ≤ d ∧ d ≤ 127
      · have hm1 : (0 : Int) ≤ (allX (ds.take k)).length * (d + 1) := Int.mul_nonneg (by omega) (by omega)
        have hm2 : ((allX (ds.take k)).length : Int) * (d + 1) ≤ 65536 * 128 := Int.mul_le_mul (by omega) (by omega) (by omega) (by omega)
        by_cases hb2 : ((allX (ds.take k)).length : Int) * (d + 1) ≤ 65536
        · have hstep := okN_step hdk hok ⟨hb1, hb2⟩
          rw [← length_take_succ hdk hb1.1] at hstep
          have hl2 := length_take_succ hdk hb1.1
          refine wc_seq ?_
          refine wc_seq ?_
          refine wc_region ?_
          refine s_move (ev_int rfl) (by decide) ?_
          refine s_move (ev_sl rfl) (by decide) ?_
          refine s_len_sl UIs.out rfl (by decide) ?_
          first | refine s_lss_t rfl rfl (by omega) (by decide) ?_ | refine s_lss_f rfl rfl (by omega) (by decide) ?_
          refine wl_end ?_
          refine wc_cond_t rfl ?_
          refine wc_skip ?_
          refine k_then ?_
          refine wc_seq ?_
          refine wc_block ?_
          refine wc_seq ?_
          refine wc_seq ?_
          refine wc_region ?_
          refine s_move (ev_sl rfl) (by decide) ?_
          refine s_move (ev_int rfl) (by decide) ?_
          refine s_indexAddr UIs.out TIs.size rfl rfl (by omega) (by omega) (by decide) ?_
          -- at some 19 := Op.load 3 (Operand.tmp 18)
          refine s_load1 TIs.out rfl (rd_elem1 hr (i64s_at hdk) rfl) (by decide) ?_
          first | refine s_lss_t rfl rfl (by omega) (by decide) ?_ | refine s_lss_f rfl rfl (by omega) (by decide) ?_
          refine s_move (ev_bool rfl) (by decide) ?_
          first | (refine wl_guard_skip (by decide) rfl rfl (by decide) ?_) | (refine wl_guard_take rfl rfl ?_; (refine s_move (ev_sl rfl) (by decide) ?_)) | (refine wl_guard_skipV (by decide) rfl rfl ?_)
          first | (refine wl_guard_skip (by decide) rfl rfl (by decide) ?_) | (refine wl_guard_take rfl rfl ?_; (refine s_move (ev_int rfl) (by decide) ?_)) | (refine wl_guard_skipV (by decide) rfl rfl ?_)
          first | (refine wl_guard_skip (by decide) rfl rfl (by decide) ?_) | (refine wl_guard_take rfl rfl ?_; (refine s_indexAddr UIs.out TIs.size rfl rfl (by omega) (by omega) (by decide) ?_)) | (refine wl_guard_skipV (by decide) rfl rfl ?_)
          -- at guarded Op.load 3 (Operand.tmp 24)
          refine wl_guard_take rfl rfl (s_load1 TIs.out rfl (rd_elem1 hr (i64s_at hdk) rfl) (by decide) ?_)
          first | (refine wl_guard_skip (by decide) rfl rfl (by decide) ?_) | (refine wl_guard_take rfl rfl ?_; (first | refine s_gtr_t rfl rfl (by omega) (by decide) ?_ | refine s_gtr_f rfl rfl (by omega) (by decide) ?_)) | (refine wl_guard_skipV (by decide) rfl rfl ?_)
          first | refine s_pick_t rfl (ev_bool rfl) (by decide) ?_ | refine s_pick_f rfl (ev_bool rfl) (by decide) ?_
          refine wl_end ?_
          refine wc_cond_f rfl ?_
          refine wc_skip ?_
          refine k_then ?_
          refine wc_seq ?_
          refine wc_region ?_
          refine s_move (ev_int rfl) (by decide) ?_
          refine s_move (ev_sl rfl) (by decide) ?_
          refine s_move (ev_int rfl) (by decide) ?_
          refine s_indexAddr UIs.out TIs.size rfl rfl (by omega) (by omega) (by decide) ?_
          -- at some 32 := Op.load 3 (Operand.tmp 31)
          refine s_load1 TIs.out rfl (rd_elem1 hr (i64s_at hdk) rfl) (by decide) ?_
          refine s_addi rfl rfl (by omega) (by omega) (by decide) ?_
          refine s_muli rfl rfl (by omega) (by omega) (by decide) ?_
          refine s_assign (ev_int rfl) (by decide) ?_
          refine wl_end ?_
          refine wc_seq ?_
          refine wc_region ?_
          refine s_move (ev_int rfl) (by decide) ?_
          first | refine s_gtr_t rfl rfl (by omega) (by decide) ?_ | refine s_gtr_f rfl rfl (by omega) (by decide) ?_
          refine wl_end ?_
          refine wc_cond_f rfl ?_
          refine wc_skip ?_
          refine b_norm ?_
          refine k_then ?_
          refine wc_region ?_
          refine s_move (ev_int rfl) (by decide) ?_
          refine s_addi rfl rfl (by omega) (by omega) (by decide) ?_
          refine s_assign (ev_int rfl) (by decide) ?_
          refine wl_nil ?_
          refine k_then ?_
          -- at ('round',)
          refine ⟨⟨k + 1, by omega, rfl, by rw [hl2]; rfl, by omega, hstep, rfl⟩, by show n - (k + 1) < n - k; omega, ?_⟩
          (repeat (first | exact agree_mask _ _ _ | refine agree_upd rfl ?_ | refine agree_mask2 rfl ?_))
        · have hf := okN_fail hdk hok fun h => hb2 h.2
          refine wc_seq ?_
          refine wc_seq ?_
          refine wc_region ?_
          refine s_move (ev_int rfl) (by decide) ?_
          refine s_move (ev_sl rfl) (by decide) ?_
          refine s_len_sl UIs.out rfl (by decide) ?_
          first | refine s_lss_t rfl rfl (by omega) (by decide) ?_ | refine s_lss_f rfl rfl (by omega) (by decide) ?_
          refine wl_end ?_
          refine wc_cond_t rfl ?_
          refine wc_skip ?_
          refine k_then ?_
          refine wc_seq ?_
          refine wc_block ?_
          refine wc_seq ?_
          refine wc_seq ?_
          refine wc_region ?_
          refine s_move (ev_sl rfl) (by decide) ?_
          refine s_move (ev_int rfl) (by decide) ?_
          refine s_indexAddr UIs.out TIs.size rfl rfl (by omega) (by omega) (by decide) ?_
          -- at some 19 := Op.load 3 (Operand.tmp 18)
          refine s_load1 TIs.out rfl (rd_elem1 hr (i64s_at hdk) rfl) (by decide) ?_
          first | refine s_lss_t rfl rfl (by omega) (by decide) ?_ | refine s_lss_f rfl rfl (by omega) (by decide) ?_
          refine s_move (ev_bool rfl) (by decide) ?_
          first | (refine wl_guard_skip (by decide) rfl rfl (by decide) ?_) | (refine wl_guard_take rfl rfl ?_; (refine s_move (ev_sl rfl) (by decide) ?_)) | (refine wl_guard_skipV (by decide) rfl rfl ?_)
          first | (refine wl_guard_skip (by decide) rfl rfl (by decide) ?_) | (refine wl_guard_take rfl rfl ?_; (refine s_move (ev_int rfl) (by decide) ?_)) | (refine wl_guard_skipV (by decide) rfl rfl ?_)
          first | (refine wl_guard_skip (by decide) rfl rfl (by decide) ?_) | (refine wl_guard_take rfl rfl ?_; (refine s_indexAddr UIs.out TIs.size rfl rfl (by omega) (by omega) (by decide) ?_)) | (refine wl_guard_skipV (by decide) rfl rfl ?_)
          -- at guarded Op.load 3 (Operand.tmp 24)
          refine wl_guard_take rfl rfl (s_load1 TIs.out rfl (rd_elem1 hr (i64s_at hdk) rfl) (by decide) ?_)
          first | (refine wl_guard_skip (by decide) rfl rfl (by decide) ?_) | (refine wl_guard_take rfl rfl ?_; (first | refine s_gtr_t rfl rfl (by omega) (by decide) ?_ | refine s_gtr_f rfl rfl (by omega) (by decide) ?_)) | (refine wl_guard_skipV (by decide) rfl rfl ?_)
          first | refine s_pick_t rfl (ev_bool rfl) (by decide) ?_ | refine s_pick_f rfl (ev_bool rfl) (by decide) ?_
          refine wl_end ?_
          refine wc_cond_f rfl ?_
          refine wc_skip ?_
          refine k_then ?_
          refine wc_seq ?_
          refine wc_region ?_
          refine s_move (ev_int rfl) (by decide) ?_
          refine s_move (ev_sl rfl) (by decide) ?_
          refine s_move (ev_int rfl) (by decide) ?_
          refine s_indexAddr UIs.out TIs.size rfl rfl (by omega) (by omega) (by decide) ?_
          -- at some 32 := Op.load 3 (Operand.tmp 31)
          refine s_load1 TIs.out rfl (rd_elem1 hr (i64s_at hdk) rfl) (by decide) ?_
          refine s_addi rfl rfl (by omega) (by omega) (by decide) ?_
          refine s_muli rfl rfl (by omega) (by omega) (by decide) ?_
          refine s_assign (ev_int rfl) (by decide) ?_
          refine wl_end ?_
          refine wc_seq ?_
          refine wc_region ?_
          refine s_move (ev_int rfl) (by decide) ?_
          first | refine s_gtr_t rfl rfl (by omega) (by decide) ?_ | refine s_gtr_f rfl rfl (by omega) (by decide) ?_
          refine wl_end ?_
          refine wc_cond_t rfl ?_
          refine wc_seq ?_
          refine wc_region ?_
          refine s_assign (ev_sl rfl) (by decide) ?_
          refine wl_end ?_
          refine wc_ret ?_
          refine b_ret ?_
          refine k_ret ?_
          refine k_ret ?_
          refine b_ret ?_
          refine k_ret ?_
          -- at ('end', 'ret')
          refine ret1 (by first | exact .inr rfl | exact .inl rfl) rfl rfl ?_
          simp only [allL, hf]
          exact ⟨none, 0, rfl, World.ownsRow_nil _ _ _ _, hh.below⟩
      · have hf := okN_fail hdk hok fun h => hb1 h.1
        refine wc_seq ?_
        refine wc_seq ?_
        refine wc_region ?_
        refine s_move (ev_int rfl) (by decide) ?_
        refine s_move (ev_sl rfl) (by decide) ?_
        refine s_len_sl UIs.out rfl (by decide) ?_
        first | refine s_lss_t rfl rfl (by omega) (by decide) ?_ | refine s_lss_f rfl rfl (by omega) (by decide) ?_
        refine wl_end ?_
        refine wc_cond_t rfl ?_
        refine wc_skip ?_
        refine k_then ?_
        refine wc_seq ?_
        refine wc_block ?_
        refine wc_seq ?_
        refine wc_seq ?_
        refine wc_region ?_
        refine s_move (ev_sl rfl) (by decide) ?_
        refine s_move (ev_int rfl) (by decide) ?_
        refine s_indexAddr UIs.out TIs.size rfl rfl (by omega) (by omega) (by decide) ?_
        -- at some 19 := Op.load 3 (Operand.tmp 18)
        refine s_load1 TIs.out rfl (rd_elem1 hr (i64s_at hdk) rfl) (by decide) ?_
        by_cases h0 : d < 0
        · first | refine s_lss_t rfl rfl (by omega) (by decide) ?_ | refine s_lss_f rfl rfl (by omega) (by decide) ?_
          refine s_move (ev_bool rfl) (by decide) ?_
          first | (refine wl_guard_skip (by decide) rfl rfl (by decide) ?_) | (refine wl_guard_take rfl rfl ?_; (refine s_move (ev_sl rfl) (by decide) ?_)) | (refine wl_guard_skipV (by decide) rfl rfl ?_)
          first | (refine wl_guard_skip (by decide) rfl rfl (by decide) ?_) | (refine wl_guard_take rfl rfl ?_; (refine s_move (ev_int rfl) (by decide) ?_)) | (refine wl_guard_skipV (by decide) rfl rfl ?_)
          first | (refine wl_guard_skip (by decide) rfl rfl (by decide) ?_) | (refine wl_guard_take rfl rfl ?_; (refine s_indexAddr UIs.out TIs.size rfl rfl (by omega) (by omega) (by decide) ?_)) | (refine wl_guard_skipV (by decide) rfl rfl ?_)
          refine wl_guard_skip (by decide) rfl rfl (by decide) ?_
          first | (refine wl_guard_skip (by decide) rfl rfl (by decide) ?_) | (refine wl_guard_take rfl rfl ?_; (first | refine s_gtr_t rfl rfl (by omega) (by decide) ?_ | refine s_gtr_f rfl rfl (by omega) (by decide) ?_)) | (refine wl_guard_skipV (by decide) rfl rfl ?_)
          first | refine s_pick_t rfl (ev_bool rfl) (by decide) ?_ | refine s_pick_f rfl (ev_bool rfl) (by decide) ?_
          refine wl_end ?_
          refine wc_cond_t rfl ?_
          refine wc_seq ?_
          refine wc_region ?_
          refine s_assign (ev_sl rfl) (by decide) ?_
          refine wl_end ?_
          refine wc_ret ?_
          refine k_ret ?_
          refine b_ret ?_
          refine k_ret ?_
          refine k_ret ?_
          refine b_ret ?_
          refine k_ret ?_
          -- at ('end', 'ret')
          refine ret1 (by first | exact .inr rfl | exact .inl rfl) rfl rfl ?_
          simp only [allL, hf]
          exact ⟨none, 0, rfl, World.ownsRow_nil _ _ _ _, hh.below⟩
        · first | refine s_lss_t rfl rfl (by omega) (by decide) ?_ | refine s_lss_f rfl rfl (by omega) (by decide) ?_
          refine s_move (ev_bool rfl) (by decide) ?_
          first | (refine wl_guard_skip (by decide) rfl rfl (by decide) ?_) | (refine wl_guard_take rfl rfl ?_; (refine s_move (ev_sl rfl) (by decide) ?_)) | (refine wl_guard_skipV (by decide) rfl rfl ?_)
          first | (refine wl_guard_skip (by decide) rfl rfl (by decide) ?_) | (refine wl_guard_take rfl rfl ?_; (refine s_move (ev_int rfl) (by decide) ?_)) | (refine wl_guard_skipV (by decide) rfl rfl ?_)
          first | (refine wl_guard_skip (by decide) rfl rfl (by decide) ?_) | (refine wl_guard_take rfl rfl ?_; (refine s_indexAddr UIs.out TIs.size rfl rfl (by omega) (by omega) (by decide) ?_)) | (refine wl_guard_skipV (by decide) rfl rfl ?_)
          -- at guarded Op.load 3 (Operand.tmp 24)
          refine wl_guard_take rfl rfl (s_load1 TIs.out rfl (rd_elem1 hr (i64s_at hdk) rfl) (by decide) ?_)
          first | (refine wl_guard_skip (by decide) rfl rfl (by decide) ?_) | (refine wl_guard_take rfl rfl ?_; (first | refine s_gtr_t rfl rfl (by omega) (by decide) ?_ | refine s_gtr_f rfl rfl (by omega) (by decide) ?_)) | (refine wl_guard_skipV (by decide) rfl rfl ?_)
          first | refine s_pick_t rfl (ev_bool rfl) (by decide) ?_ | refine s_pick_f rfl (ev_bool rfl) (by decide) ?_
          refine wl_end ?_
          refine wc_cond_t rfl ?_
          refine wc_seq ?_
          refine wc_region ?_
          refine s_assign (ev_sl rfl) (by decide) ?_
          refine wl_end ?_
          refine wc_ret ?_
          refine k_ret ?_
          refine b_ret ?_
          refine k_ret ?_
          refine k_ret ?_
          refine b_ret ?_
          refine k_ret ?_
          -- at ('end', 'ret')
          refine ret1 (by first | exact .inr rfl | exact .inl rfl) rfl rfl ?_
          simp only [allL, hf]
          exact ⟨none, 0, rfl, World.ownsRow_nil _ _ _ _, hh.below⟩
    · obtain rfl : n = k := by omega
      rw [List.drop_of_length_le (by omega)] at hok
      have hok : okN 1 ds = true := hok
      have hbd := okN_bd ds 1 hok
      have hAl : allL ds = (allX ds).map fX := by simp only [allL, hok, if_true]
      refine wc_seq ?_
      refine wc_seq ?_
      refine wc_region ?_
      refine s_move (ev_int rfl) (by decide) ?_
      refine s_move (ev_sl rfl) (by decide) ?_
      refine s_len_sl UIs.out rfl (by decide) ?_
      first | refine s_lss_t rfl rfl (by omega) (by decide) ?_ | refine s_lss_f rfl rfl (by omega) (by decide) ?_
      refine wl_end ?_
      refine wc_cond_f rfl ?_
      refine wc_exit ?_
      refine k_exit ?_
      refine k_exit ?_
      refine b_here ?_
      refine k_then ?_
      refine wc_seq ?_
      refine wc_region ?_
      refine wl_buildSlice hh (cs := [_]) UIs.out TIs.out (evp_cons rfl evp_nil) rfl rfl (by decide) (by decide) (by decide) rfl (by decide) ?_
      intro b37 w37 hh
      refine s_assign (ev_sl rfl) (by decide) ?_
      refine wl_end ?_
      refine wc_seq ?_
      refine wc_seq ?_
      refine wc_region ?_
      refine s_assign (ev_int rfl) (by decide) ?_
      refine wl_end ?_
      refine wc_block ?_
      -- at a loop
      refine wc_loop2 [5, 6, 7, 8, 9, 38, 39, 40, 41, 42, 43, 44, 45, 46, 47, 48, 49, 50, 51, 52, 53, 54, 55, 56, 57, 58, 59, 60, 61, 62, 63, 64, 65, 66, 67, 68, 69, 70] 5 6
        (fun v i w' => ∃ (k : Nat) (A : Option Addr) (c' : Nat), k ≤ n ∧ i = .int .i64 k ∧ v = .slice A ((allX (ds.take k)).map fX).length c' ∧ Hp w [.row A ((allX (ds.take k)).map fX).length c' 9 1 (strs ((allX (ds.take k)).map fX))] w')
        (fun _ i _ => n - (intOf i).toNat) ?_ ?_
      · exact ⟨0, _, _, Nat.zero_le _, rfl, rfl, hh⟩
      · clear hh hsz hk
        rintro ρ2 v i w' ⟨k, A, c', hk, rfl, rfl, hh⟩
        -- 
        -- 
        by_cases hlt : k < n
        · obtain ⟨d, hdk⟩ := get_of_lt (l := ds) (k := k) (by omega)
          have bd := hbd d (List.mem_of_getElem? hdk)
          have hst := gX_step hdk
          have hbig := (okN_take hok (k + 1) (by omega)).2
          have hbig2 : (((allX (ds.take k)).map fX).flatMap (gX d)).length ≤ 65536 := by rw [← hst, List.length_map]; exact hbig
          have hsm : ∀ (j : Nat) (s : ByteArray), ((allX (ds.take k)).map fX)[j]? = some s → s.size ≤ k := fun j s h => fX_size h
          have hS := (okN_take hok k (by omega)).2
          rw [← List.length_map (f := fX)] at hS
          generalize (allX (ds.take k)).map fX = S at *
          refine wc_seq ?_
          refine wc_seq ?_
          refine wc_region ?_
          refine s_move (ev_int rfl) (by decide) ?_
          refine s_move (ev_sl rfl) (by decide) ?_
          refine s_len_sl UIs.out rfl (by decide) ?_
          first | refine s_lss_t rfl rfl (by omega) (by decide) ?_ | refine s_lss_f rfl rfl (by omega) (by decide) ?_
          refine wl_end ?_
          refine wc_cond_t rfl ?_
          refine wc_skip ?_
          refine k_then ?_
          refine wc_seq ?_
          refine wc_block ?_
          refine wc_seq ?_
          refine wc_region ?_
          refine s_assign (ev_sl rfl) (by decide) ?_
          refine wl_end ?_
          refine wc_seq ?_
          refine wc_seq ?_
          refine wc_region ?_
          refine s_assign (ev_int rfl) (by decide) ?_
          refine wl_end ?_
          refine wc_block ?_
          -- at a loop
          replace hh := hh.nil_row 9 1
          refine wc_loop2 [7, 8, 9, 44, 45, 46, 47, 48, 49, 50, 51, 52, 53, 54, 55, 56, 57, 58, 59, 60, 61, 62, 63, 64, 65, 66, 67, 68, 69] 7 8
            (fun v j w' => ∃ (j' : Nat) (B : Option Addr) (c2 : Nat), j' ≤ S.length ∧ j = .int .i64 j' ∧ v = .slice B ((S.take j').flatMap (gX d)).length c2 ∧ Hp w [.row B ((S.take j').flatMap (gX d)).length c2 9 1 (strs ((S.take j').flatMap (gX d))), .row A S.length c' 9 1 (strs S)] w')
            (fun _ j _ => S.length - (intOf j).toNat) ?_ ?_
          · exact ⟨0, none, 0, Nat.zero_le _, rfl, rfl, hh⟩
          · clear hh
            rintro ρ3 v j w' ⟨j, B, c2, hj, rfl, rfl, hh⟩
            -- 
            -- 
            by_cases hlj : j < S.length
            · obtain ⟨s, hs⟩ := get_of_lt hlj
              have hss := hsm j s hs
              have hs2 := strs_at hs
              have hlS := length_strs S
              refine wc_seq ?_
              refine wc_seq ?_
              refine wc_region ?_
              refine s_move (ev_int rfl) (by decide) ?_
              refine s_move (ev_sl rfl) (by decide) ?_
              refine s_len_sl UIs.out rfl (by decide) ?_
              first | refine s_lss_t rfl rfl (by omega) (by decide) ?_ | refine s_lss_f rfl rfl (by omega) (by decide) ?_
              refine wl_end ?_
              refine wc_cond_t rfl ?_
              refine wc_skip ?_
              refine k_then ?_
              refine wc_seq ?_
              refine wc_block ?_
              refine wc_seq ?_
              refine wc_region ?_
              refine s_assign (ev_int rfl) (by decide) ?_
              refine wl_end ?_
              refine wc_block ?_
              -- at a loop
              refine wc_loop2 [7, 9, 50, 51, 52, 53, 54, 55, 56, 57, 58, 59, 60, 61, 62, 63, 64, 65, 66, 67, 68, 69] 7 9
                (fun v q w' => ∃ (q' : Nat) (B : Option Addr) (c2 : Nat), q' ≤ d.toNat + 1 ∧ q = .int .i64 q' ∧ v = .slice B ((S.take j).flatMap (gX d) ++ (gX d s).take q').length c2 ∧ Hp w [.row B ((S.take j).flatMap (gX d) ++ (gX d s).take q').length c2 9 1 (strs ((S.take j).flatMap (gX d) ++ (gX d s).take q')), .row A S.length c' 9 1 (strs S)] w')
                (fun _ q _ => d.toNat + 1 - (intOf q).toNat) ?_ ?_
              · exact ⟨0, B, c2, Nat.zero_le _, rfl, by rw [List.take_zero, List.append_nil]; rfl, by rw [List.take_zero, List.append_nil]; exact hh⟩
              · clear hh
                rintro ρ4 v q w' ⟨q, B, c2, hq, rfl, rfl, hh⟩
                -- 
                -- 
                obtain ⟨ad, rfl, hr⟩ := (hD.ext hh.below).at_ (by omega)
                by_cases hlq : q < d.toNat + 1
                · have hq2 : (q : Int) ≤ d := by omega
                  have hqo : expOk (q : Int) = true := by simp [expOk]; omega
                  have hgb := gX_bd (d := d) hs q
                  have hcat : s.size + (ByteArray.mk [toB (q : Int)].toArray).size ≤ 9223372036854775807 := by show s.size + 1 ≤ _; omega
                  obtain ⟨go, rfl⟩ := hh.row_some (i := 1) rfl (by omega)
                  refine wc_seq ?_
                  refine wc_seq ?_
                  refine wc_region ?_
                  refine s_move (ev_int rfl) (by decide) ?_
                  refine s_move (ev_sl rfl) (by decide) ?_
                  refine s_move (ev_int rfl) (by decide) ?_
                  refine s_indexAddr UIs.out TIs.size rfl rfl (by omega) (by omega) (by decide) ?_
                  -- at some 54 := Op.load 3 (Operand.tmp 53)
                  refine s_load1 TIs.out rfl (rd_elem1 hr (i64s_at hdk) rfl) (by decide) ?_
                  first | refine s_leq_t rfl rfl (by omega) (by decide) ?_ | refine s_leq_f rfl rfl (by omega) (by decide) ?_
                  refine wl_end ?_
                  refine wc_cond_t rfl ?_
                  refine wc_skip ?_
                  refine k_then ?_
                  refine wc_seq ?_
                  refine wc_block ?_
                  -- at the drawn region 21
                  refine wc_drawn 11 [[(7, none)], [(5, none)], [(8, none)], [(59, some 1), (60, some 2)], [(61, some 3)], [(9, none)], [(63, some 5)], [(64, some 6)], [(65, some 7)], [(62, some 4), (66, some 8)], [(67, some 9)]] [(10, 68), (9, 67), (8, 66), (7, 65), (6, 64), (5, 63), (4, 62), (3, 61), (2, 60), (1, 59), (0, 58)] hh mixed (by kernel_rfl) ?_
                  refine dx_val (i := 0) (fun ρ1 w1 hj hR => x_move (show ρ1 7 = Value.slice _ _ _ from hR.1)) ?_
                  refine dx_val (i := 1) (fun ρ1 w1 hj hR => x_move (show ρ1 5 = Value.slice _ _ _ from hR.1)) ?_
                  refine dx_val (i := 2) (fun ρ1 w1 hj hR => x_move (show ρ1 8 = Value.int _ _ from hR.1)) ?_
                  refine dx_val (i := 3) (fun ρ1 w1 hj hR => x_indexRow UIs.out TIs.size (show ρ1 59 = Value.slice _ _ _ from hR.1) (show ρ1 60 = Value.int _ _ from hR.2.1) rfl (by omega)) ?_
                  refine dx_val (i := 4) (fun ρ1 w1 hj hR => x_load1 TIs.out (show ρ1 61 = Value.pointer _ from hR.1) (hj.hp.cell_row (i := 1) rfl (by rw [Nat.mul_one]; exact hs2))) ?_
                  refine dx_val (i := 5) (fun ρ1 w1 hj hR => x_move (show ρ1 9 = Value.int _ _ from hR.1)) ?_
                  refine dx_val (i := 6) (fun ρ1 w1 hj hR => x_conv_int UIs.out UIs.out (show ρ1 63 = Value.int _ _ from hR.1)) ?_
                  refine dx_buildSlice (i := 7) (cs := [_]) UIs.out TIs.out (fun ρ1 w1 hj hR => (evp_cons (show ρ1 64 = Value.int _ _ from hR.1) evp_nil)) rfl rfl (by decide) (by decide) rfl ?_
                  refine dx_gen (i := 8) (Is (.string ⟨([toB (q : Int)]).toArray⟩)) Is.ext ?_ ?_
                  · intro ρ1 w1 hj hR
                    obtain ⟨A65, c65, h65, s65⟩ := hR.1
                    exact og_val rfl (x_bytes_str (l := [toB (q : Int)]) UIs.out UIs.out UIs.out h65 (by rw [wrap_u8 (by omega) (by omega), toB_val hqo] at s65; exact s65)) ⟨Below.refl _ _, rfl⟩
                  refine dx_val (i := 9) (fun ρ1 w1 hj hR => x_cat (show ρ1 62 = Value.string _ from hR.1) (show ρ1 66 = Value.string _ from hR.2.1) (by first | omega | assumption | (simp only [str_size, ba_size]; omega))) ?_
                  refine dx_buildSlice (i := 10) (cs := [_]) UIs.out TIs.out (fun ρ1 w1 hj hR => (evp_cons (show ρ1 67 = Value.string _ from hR.1) evp_nil)) rfl rfl (by decide) (by decide) rfl ?_
                  refine dx_nil ?_
                  intro f W hJ hV
                  have hb_21 := hJ.bl
                  obtain ⟨v68, v67, v66, v65, v64, v63, v62, v61, v60, v59, v58, _⟩ := hV
                  simp only [updL]
                  have e58 : f 0 = _ := v58
                  rw [e58]
                  have e59 : f 1 = _ := v59
                  rw [e59]
                  have e60 : f 2 = _ := v60
                  rw [e60]
                  have e61 : f 3 = _ := v61
                  rw [e61]
                  have e62 : f 4 = _ := v62
                  rw [e62]
                  have e63 : f 5 = _ := v63
                  rw [e63]
                  have e64 : f 6 = _ := v64
                  rw [e64]
                  obtain ⟨A65, c65, e65, f65⟩ : Rows _ _ _ (f 7) W := v65
                  rw [e65]
                  have e66 : f 8 = _ := v66
                  rw [e66]
                  have e67 : f 9 = _ := v67
                  rw [e67]
                  obtain ⟨A68, c68, e68, f68⟩ : Rows _ _ _ (f 10) W := v68
                  rw [e68]
                  replace hh := hJ.hp
                  clear e58 e59 e60 e61 e62 e63 e64 e65 e66 e67 e68 hJ
                  refine wl_append hh (i := 0) rfl rfl rfl (f68) UIs.out TIs.out rfl (by decide) rfl (by omega) (by omega) (by decide) ?_
                  intro A69 c69 w69 hh
                  simp only [List.set_cons_zero] at hh
                  refine s_assign (ev_sl rfl) (by decide) ?_
                  refine wl_nil ?_
                  refine b_norm ?_
                  refine k_then ?_
                  refine wc_region ?_
                  refine s_move (ev_int rfl) (by decide) ?_
                  refine s_addi rfl rfl (by omega) (by omega) (by decide) ?_
                  refine s_assign (ev_int rfl) (by decide) ?_
                  refine wl_nil ?_
                  refine k_then ?_
                  -- at ('round',)
                  have e1 : strs ((S.take j).flatMap (gX d) ++ (gX d s).take q) ++ [.string (s ++ ByteArray.mk [toB (q : Int)].toArray)] = strs ((S.take j).flatMap (gX d) ++ (gX d s).take (q + 1)) := by
                    rw [strs_snoc, take_snoc (gX_at hq2), List.append_assoc]; rfl
                  have e2 : ((S.take j).flatMap (gX d) ++ (gX d s).take q).length + 1 = ((S.take j).flatMap (gX d) ++ (gX d s).take (q + 1)).length := by
                    rw [take_snoc (gX_at (s := s) hq2)]; simp; omega
                  rw [e1, e2] at hh
                  refine ⟨⟨q + 1, A69, c69, by omega, rfl, by rw [← e2]; rfl, hh⟩, by show d.toNat + 1 - (q + 1) < d.toNat + 1 - q; omega, ?_⟩
                  (repeat (first | exact agree_mask _ _ _ | refine agree_upd rfl ?_ | refine agree_mask2 rfl ?_))
                · refine wc_seq ?_
                  refine wc_seq ?_
                  refine wc_region ?_
                  refine s_move (ev_int rfl) (by decide) ?_
                  refine s_move (ev_sl rfl) (by decide) ?_
                  refine s_move (ev_int rfl) (by decide) ?_
                  refine s_indexAddr UIs.out TIs.size rfl rfl (by omega) (by omega) (by decide) ?_
                  -- at some 54 := Op.load 3 (Operand.tmp 53)
                  refine s_load1 TIs.out rfl (rd_elem1 hr (i64s_at hdk) rfl) (by decide) ?_
                  first | refine s_leq_t rfl rfl (by omega) (by decide) ?_ | refine s_leq_f rfl rfl (by omega) (by decide) ?_
                  refine wl_end ?_
                  refine wc_cond_f rfl ?_
                  refine wc_exit ?_
                  refine k_exit ?_
                  refine k_exit ?_
                  refine b_here ?_
                  refine b_norm ?_
                  refine k_then ?_
                  refine wc_region ?_
                  refine s_move (ev_int rfl) (by decide) ?_
                  refine s_addi rfl rfl (by omega) (by omega) (by decide) ?_
                  refine s_assign (ev_int rfl) (by decide) ?_
                  refine wl_nil ?_
                  refine k_then ?_
                  -- at ('round',)
                  obtain rfl : q = d.toNat + 1 := by omega
                  have e3 : (S.take j).flatMap (gX d) ++ (gX d s).take (d.toNat + 1) = (S.take (j + 1)).flatMap (gX d) := by
                    rw [List.take_of_length_le (l := gX d s) (by rw [length_gX]; omega), take_snoc hs, List.flatMap_append]; simp
                  rw [e3] at hh ⊢
                  refine ⟨⟨j + 1, B, c2, by omega, rfl, rfl, hh⟩, by show S.length - (j + 1) < S.length - j; omega, ?_⟩
                  (repeat (first | exact agree_mask _ _ _ | refine agree_upd rfl ?_ | refine agree_mask2 rfl ?_))
            · refine wc_seq ?_
              refine wc_seq ?_
              refine wc_region ?_
              refine s_move (ev_int rfl) (by decide) ?_
              refine s_move (ev_sl rfl) (by decide) ?_
              refine s_len_sl UIs.out rfl (by decide) ?_
              first | refine s_lss_t rfl rfl (by omega) (by decide) ?_ | refine s_lss_f rfl rfl (by omega) (by decide) ?_
              refine wl_end ?_
              refine wc_cond_f rfl ?_
              refine wc_exit ?_
              refine k_exit ?_
              refine k_exit ?_
              refine b_here ?_
              refine k_then ?_
              refine wc_region ?_
              refine s_move (ev_sl rfl) (by decide) ?_
              refine s_assign (ev_sl rfl) (by decide) ?_
              refine wl_nil ?_
              refine b_norm ?_
              refine k_then ?_
              refine wc_region ?_
              refine s_move (ev_int rfl) (by decide) ?_
              refine s_addi rfl rfl (by omega) (by omega) (by decide) ?_
              refine s_assign (ev_int rfl) (by decide) ?_
              refine wl_nil ?_
              refine k_then ?_
              -- at ('round',)
              rw [List.take_of_length_le (l := S) (by omega), ← hst] at hh ⊢
              refine ⟨⟨k + 1, B, c2, by omega, rfl, rfl, hh.sub (.cons_cons _ (List.nil_sublist _))⟩, by show n - (k + 1) < n - k; omega, ?_⟩
              (repeat (first | exact agree_mask _ _ _ | refine agree_upd rfl ?_ | refine agree_mask2 rfl ?_))
        · refine wc_seq ?_
          refine wc_seq ?_
          refine wc_region ?_
          refine s_move (ev_int rfl) (by decide) ?_
          refine s_move (ev_sl rfl) (by decide) ?_
          refine s_len_sl UIs.out rfl (by decide) ?_
          first | refine s_lss_t rfl rfl (by omega) (by decide) ?_ | refine s_lss_f rfl rfl (by omega) (by decide) ?_
          refine wl_end ?_
          refine wc_cond_f rfl ?_
          refine wc_exit ?_
          refine k_exit ?_
          refine k_exit ?_
          refine b_here ?_
          refine k_then ?_
          refine wc_seq ?_
          refine wc_region ?_
          refine s_move (ev_sl rfl) (by decide) ?_
          refine s_assign (ev_sl rfl) (by decide) ?_
          refine wl_end ?_
          refine wc_ret ?_
          -- at ('end', 'ret')
          refine ret1 (by first | exact .inr rfl | exact .inl rfl) rfl rfl ?_
          have hds : allX (ds.take k) = allX ds := by rw [List.take_of_length_le (l := ds) (by omega)]
          have h1 := hh.at_ (i := 0) rfl
          rw [hAl, ← hds]
          exact ⟨A, c', rfl, h1, hh.below⟩
end Go.Proofs.Ytgljgalcbbjfgaa
