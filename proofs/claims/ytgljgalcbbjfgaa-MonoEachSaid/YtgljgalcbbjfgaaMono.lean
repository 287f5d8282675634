/- The walks through the program's package of products of powers (mono), and through the document's answer's. -/
import Derived.Test.YtgljgalcbbjfgaaMonoF
import Derived.Test.YtgljgalcbbjfgaaTypes
namespace Go.Proofs.Ytgljgalcbbjfgaa
open Go.RowKit
theorem may_calls (s : ByteArray) (n : Int) (w : World) (hs : s.size ≤ 9223372036854775807) :
    Calls Try.prog 16 #[.string s, .int .i64 n] w fun e w' => e = .returned (.bool (mayB s.data.toList && decide ((s.size : Int) = n))) ∧ Below w.heap.size w w' := by
  refine calls_vc (N := 20) (l := [.string s, .int .i64 n]) Try.func16 rfl rfl (by simp) ?_
  refine wc_seq ?_
  refine wc_region ?_
  refine s_assign (ev_bool rfl) (by decide) ?_
  refine wl_end ?_
  refine wc_seq ?_
  refine wc_seq ?_
  refine wc_region ?_
  refine s_move (ev_str rfl) (by decide) ?_
  refine s_len_str UIs.out rfl (by decide) ?_
  refine s_move (ev_int rfl) (by decide) ?_
  refine wl_end ?_
  refine wc_block ?_
  -- at a loop
  refine wc_loop1 [4, 5, 8, 9, 10, 11, 12, 13, 14, 15] 8
    (fun v w' => ∃ k : Nat, k ≤ s.size ∧ v = .int .i64 k ∧ mayB (s.data.toList.take k) = true ∧ w' = w)
    (fun v _ => s.size - (intOf v).toNat) ?_ ?_
  · exact ⟨0, Nat.zero_le _, rfl, rfl, rfl⟩
  · rintro ρ' v w' ⟨k, hk, rfl, hm, rfl⟩
    by_cases hlt : k < s.size
    · obtain ⟨c, hc⟩ := get_of_lt (l := s.data.toList) (k := k) (by rw [← ba_size]; exact hlt)
      have hb := c.toNat_lt
      by_cases h8 : c.toNat < 128
      · refine wc_seq ?_
        refine wc_region ?_
        first | refine s_lss_t rfl rfl (by omega) (by decide) ?_ | refine s_lss_f rfl rfl (by omega) (by decide) ?_
        refine wl_end ?_
        refine wc_seq ?_
        refine wc_cond_t rfl ?_
        refine wc_skip ?_
        refine k_then ?_
        refine wc_seq ?_
        refine wc_block ?_
        refine wc_seq ?_
        refine wc_region ?_
        refine s_move (ev_int rfl) (by decide) ?_
        refine s_assign (ev_int rfl) (by decide) ?_
        refine wl_end ?_
        refine wc_seq ?_
        refine wc_region ?_
        refine s_move (ev_str rfl) (by decide) ?_
        refine s_move (ev_int rfl) (by decide) ?_
        refine s_index_str UIs.out rfl rfl (by omega) (by assumption) (by decide) ?_
        first | refine s_gtr_t rfl rfl (by omega) (by decide) ?_ | refine s_gtr_f rfl rfl (by omega) (by decide) ?_
        refine wl_end ?_
        refine wc_cond_f rfl ?_
        refine wc_skip ?_
        refine b_norm ?_
        refine k_then ?_
        refine wc_region ?_
        refine s_addi rfl rfl (by omega) (by omega) (by decide) ?_
        refine s_move (ev_int rfl) (by decide) ?_
        refine wl_nil ?_
        refine k_then ?_
        -- at ('round',)
        refine ⟨⟨k + 1, by omega, rfl, by rw [take_snoc hc, mayB_snoc, hm]; simpa using h8, rfl⟩, by show s.size - (k + 1) < s.size - k; omega, ?_⟩
        (repeat (first | exact agree_mask _ _ _ | refine agree_upd rfl ?_ | refine agree_mask2 rfl ?_))
      · refine wc_seq ?_
        refine wc_region ?_
        first | refine s_lss_t rfl rfl (by omega) (by decide) ?_ | refine s_lss_f rfl rfl (by omega) (by decide) ?_
        refine wl_end ?_
        refine wc_seq ?_
        refine wc_cond_t rfl ?_
        refine wc_skip ?_
        refine k_then ?_
        refine wc_seq ?_
        refine wc_block ?_
        refine wc_seq ?_
        refine wc_region ?_
        refine s_move (ev_int rfl) (by decide) ?_
        refine s_assign (ev_int rfl) (by decide) ?_
        refine wl_end ?_
        refine wc_seq ?_
        refine wc_region ?_
        refine s_move (ev_str rfl) (by decide) ?_
        refine s_move (ev_int rfl) (by decide) ?_
        refine s_index_str UIs.out rfl rfl (by omega) (by assumption) (by decide) ?_
        first | refine s_gtr_t rfl rfl (by omega) (by decide) ?_ | refine s_gtr_f rfl rfl (by omega) (by decide) ?_
        refine wl_end ?_
        refine wc_cond_t rfl ?_
        refine wc_seq ?_
        refine wc_region ?_
        refine s_assign (ev_bool rfl) (by decide) ?_
        refine wl_end ?_
        refine wc_ret ?_
        refine b_ret ?_
        refine k_ret ?_
        refine k_ret ?_
        refine b_ret ?_
        refine k_ret ?_
        -- at ('end', 'ret')
        refine ret1 (by first | exact .inr rfl | exact .inl rfl) rfl rfl ?_
        rw [mayB_bad hc h8]
        exact ⟨rfl, Below.refl _ _⟩
    · refine wc_seq ?_
      refine wc_region ?_
      first | refine s_lss_t rfl rfl (by omega) (by decide) ?_ | refine s_lss_f rfl rfl (by omega) (by decide) ?_
      refine wl_end ?_
      refine wc_seq ?_
      refine wc_cond_f rfl ?_
      refine wc_exit ?_
      refine k_exit ?_
      refine k_exit ?_
      refine b_here ?_
      refine k_then ?_
      refine wc_seq ?_
      refine wc_region ?_
      refine s_move (ev_str rfl) (by decide) ?_
      refine s_len_str UIs.out rfl (by decide) ?_
      refine s_move (ev_int rfl) (by decide) ?_
      refine s_eql_v rfl rfl (by decide) ?_
      refine s_assign (ev_bool rfl) (by decide) ?_
      refine wl_end ?_
      refine wc_ret ?_
      -- at ('end', 'ret')
      refine ret1 (by first | exact .inr rfl | exact .inl rfl) rfl rfl ?_
      rw [List.take_of_length_le (by rw [← ba_size]; omega)] at hm
      rw [hm]
      exact ⟨rfl, Below.refl _ _⟩
theorem may_self (s : ByteArray) (w : World) (hs : s.size ≤ 9223372036854775807) :
    Calls Try.prog 16 #[.string s, .int .i64 s.size] w fun e w' => e = .returned (.bool (mayB s.data.toList)) ∧ Below w.heap.size w w' := by
  have h := may_calls s s.size w hs
  simpa using h
theorem rmay_calls (s : ByteArray) (n : Int) (w : World) (hs : s.size ≤ 9223372036854775807) :
    Calls Try.prog 17 #[.string s, .int .i64 n] w fun e w' => e = .returned (.bool (mayB s.data.toList && decide ((s.size : Int) = n))) ∧ Below w.heap.size w w' := by
  refine calls_vc (N := 20) (l := [.string s, .int .i64 n]) Try.func17 rfl rfl (by simp) ?_
  refine wc_seq ?_
  refine wc_region ?_
  refine s_assign (ev_bool rfl) (by decide) ?_
  refine wl_end ?_
  refine wc_seq ?_
  refine wc_seq ?_
  refine wc_region ?_
  refine s_assign (ev_int rfl) (by decide) ?_
  refine wl_end ?_
  refine wc_block ?_
  -- at a loop
  refine wc_loop1 [4, 5, 6, 7, 8, 9, 10, 11, 12, 13, 14, 15] 5
    (fun v w' => ∃ k : Nat, k ≤ s.size ∧ v = .int .i64 k ∧ mayB (s.data.toList.take k) = true ∧ w' = w)
    (fun v _ => s.size - (intOf v).toNat) ?_ ?_
  · exact ⟨0, Nat.zero_le _, rfl, rfl, rfl⟩
  · rintro ρ' v w' ⟨k, hk, rfl, hm, rfl⟩
    by_cases hlt : k < s.size
    · obtain ⟨c, hc⟩ := get_of_lt (l := s.data.toList) (k := k) (by rw [← ba_size]; exact hlt)
      have hb := c.toNat_lt
      by_cases h8 : c.toNat < 128
      · refine wc_seq ?_
        refine wc_seq ?_
        refine wc_region ?_
        refine s_move (ev_int rfl) (by decide) ?_
        refine s_move (ev_str rfl) (by decide) ?_
        refine s_len_str UIs.out rfl (by decide) ?_
        first | refine s_lss_t rfl rfl (by omega) (by decide) ?_ | refine s_lss_f rfl rfl (by omega) (by decide) ?_
        refine wl_end ?_
        refine wc_cond_t rfl ?_
        refine wc_skip ?_
        refine k_then ?_
        refine wc_seq ?_
        refine wc_block ?_
        refine wc_seq ?_
        refine wc_region ?_
        refine s_move (ev_str rfl) (by decide) ?_
        refine s_move (ev_int rfl) (by decide) ?_
        refine s_index_str UIs.out rfl rfl (by omega) (by assumption) (by decide) ?_
        first | refine s_geq_t rfl rfl (by omega) (by decide) ?_ | refine s_geq_f rfl rfl (by omega) (by decide) ?_
        refine wl_end ?_
        refine wc_cond_f rfl ?_
        refine wc_skip ?_
        refine b_norm ?_
        refine k_then ?_
        refine wc_region ?_
        refine s_move (ev_int rfl) (by decide) ?_
        refine s_addi rfl rfl (by omega) (by omega) (by decide) ?_
        refine s_assign (ev_int rfl) (by decide) ?_
        refine wl_nil ?_
        refine k_then ?_
        -- at ('round',)
        refine ⟨⟨k + 1, by omega, rfl, by rw [take_snoc hc, mayB_snoc, hm]; simpa using h8, rfl⟩, by show s.size - (k + 1) < s.size - k; omega, ?_⟩
        (repeat (first | exact agree_mask _ _ _ | refine agree_upd rfl ?_ | refine agree_mask2 rfl ?_))
      · refine wc_seq ?_
        refine wc_seq ?_
        refine wc_region ?_
        refine s_move (ev_int rfl) (by decide) ?_
        refine s_move (ev_str rfl) (by decide) ?_
        refine s_len_str UIs.out rfl (by decide) ?_
        first | refine s_lss_t rfl rfl (by omega) (by decide) ?_ | refine s_lss_f rfl rfl (by omega) (by decide) ?_
        refine wl_end ?_
        refine wc_cond_t rfl ?_
        refine wc_skip ?_
        refine k_then ?_
        refine wc_seq ?_
        refine wc_block ?_
        refine wc_seq ?_
        refine wc_region ?_
        refine s_move (ev_str rfl) (by decide) ?_
        refine s_move (ev_int rfl) (by decide) ?_
        refine s_index_str UIs.out rfl rfl (by omega) (by assumption) (by decide) ?_
        first | refine s_geq_t rfl rfl (by omega) (by decide) ?_ | refine s_geq_f rfl rfl (by omega) (by decide) ?_
        refine wl_end ?_
        refine wc_cond_t rfl ?_
        refine wc_seq ?_
        refine wc_region ?_
        refine s_assign (ev_bool rfl) (by decide) ?_
        refine wl_end ?_
        refine wc_ret ?_
        refine b_ret ?_
        refine k_ret ?_
        refine k_ret ?_
        refine b_ret ?_
        refine k_ret ?_
        -- at ('end', 'ret')
        refine ret1 (by first | exact .inr rfl | exact .inl rfl) rfl rfl ?_
        rw [mayB_bad hc h8]
        exact ⟨rfl, Below.refl _ _⟩
    · refine wc_seq ?_
      refine wc_seq ?_
      refine wc_region ?_
      refine s_move (ev_int rfl) (by decide) ?_
      refine s_move (ev_str rfl) (by decide) ?_
      refine s_len_str UIs.out rfl (by decide) ?_
      first | refine s_lss_t rfl rfl (by omega) (by decide) ?_ | refine s_lss_f rfl rfl (by omega) (by decide) ?_
      refine wl_end ?_
      refine wc_cond_f rfl ?_
      refine wc_exit ?_
      refine k_exit ?_
      refine k_exit ?_
      refine b_here ?_
      refine k_then ?_
      refine wc_seq ?_
      refine wc_region ?_
      refine s_move (ev_str rfl) (by decide) ?_
      refine s_len_str UIs.out rfl (by decide) ?_
      refine s_move (ev_int rfl) (by decide) ?_
      refine s_eql_v rfl rfl (by decide) ?_
      refine s_assign (ev_bool rfl) (by decide) ?_
      refine wl_end ?_
      refine wc_ret ?_
      -- at ('end', 'ret')
      refine ret1 (by first | exact .inr rfl | exact .inl rfl) rfl rfl ?_
      rw [List.take_of_length_le (by rw [← ba_size]; omega)] at hm
      rw [hm]
      exact ⟨rfl, Below.refl _ _⟩
theorem of_calls (A : Option Addr) (n c : Nat) (xs : List Int) (w : World) (hsl : Sl w A n 1 (i64s xs)) (hn : n ≤ 100000) :
    Calls Try.prog 9 #[.slice A n c] w fun e w' => e = .returned (.tuple #[.string (str (ofL xs)), .int .i64 (ofE xs)]) ∧ Below w.heap.size w w' := by
  have hlen : xs.length = n := by have := hsl.1; rw [length_i64s] at this; omega
  have hh := Hp.start w
  refine calls_vc (N := 27) (l := [.slice A n c]) Try.func9 rfl rfl (by simp) ?_
  refine wc_seq ?_
  refine wc_region ?_
  refine s_assign (ev_str rfl) (by decide) ?_
  refine s_assign (ev_int rfl) (by decide) ?_
  refine wl_end ?_
  refine wc_seq ?_
  refine wc_region ?_
  refine s_assign (ev_sl rfl) (by decide) ?_
  refine wl_end ?_
  refine wc_seq ?_
  refine wc_seq ?_
  refine wc_region ?_
  refine s_move (ev_sl rfl) (by decide) ?_
  refine s_len_sl UIs.out rfl (by decide) ?_
  refine s_move (ev_int rfl) (by decide) ?_
  refine wl_end ?_
  refine wc_block ?_
  -- at a loop
  refine wc_loop2 [2, 3, 4, 6, 9, 10, 11, 12, 13, 14, 15, 16, 17, 18, 19, 20, 21, 22, 23, 24] 4 9
    (fun b i w' => ∃ (k c' : Nat) (A' : Option Addr), k ≤ n ∧ i = .int .i64 k ∧ b = .slice A' k c' ∧ (xs.take k).all expOk = true ∧ Hp w [.row A' k c' 5 1 (u8s ((xs.take k).map toB))] w')
    (fun _ v _ => n - (intOf v).toNat) ?_ ?_
  · exact ⟨0, 0, none, Nat.zero_le _, rfl, rfl, rfl, hh.nil_row _ _⟩
  · clear hh
    rintro ρ' b i w' ⟨k, c', A', hk, rfl, rfl, hall, hh⟩
    -- 
    -- 
    by_cases hlt : k < n
    · obtain ⟨x, hx⟩ := get_of_lt (l := xs) (k := k) (by omega)
      obtain ⟨ad, rfl, hr⟩ := (hsl.ext hh.below).at_ (by omega)
      by_cases h0 : x < 0
      · refine wc_seq ?_
        refine wc_region ?_
        first | refine s_lss_t rfl rfl (by omega) (by decide) ?_ | refine s_lss_f rfl rfl (by omega) (by decide) ?_
        refine wl_end ?_
        refine wc_seq ?_
        refine wc_cond_t rfl ?_
        refine wc_skip ?_
        refine k_then ?_
        refine wc_seq ?_
        refine wc_block ?_
        refine wc_seq ?_
        refine wc_region ?_
        refine s_indexAddr UIs.out TIs.size rfl rfl (by omega) (by omega) (by decide) ?_
        -- at some 12 := Op.load 3 (Operand.tmp 11)
        refine s_load1 TIs.out rfl (rd_elem1 hr (i64s_at hx) rfl) (by decide) ?_
        refine s_assign (ev_int rfl) (by decide) ?_
        refine wl_end ?_
        refine wc_seq ?_
        refine wc_seq ?_
        refine wc_region ?_
        refine s_move (ev_int rfl) (by decide) ?_
        first | refine s_lss_t rfl rfl (by omega) (by decide) ?_ | refine s_lss_f rfl rfl (by omega) (by decide) ?_
        refine s_move (ev_bool rfl) (by decide) ?_
        first | (refine wl_guard_skip (by decide) rfl rfl (by decide) ?_) | (refine wl_guard_take rfl rfl ?_; (refine s_move (ev_int rfl) (by decide) ?_)) | (refine wl_guard_skipV (by decide) rfl rfl ?_)
        first | (refine wl_guard_skip (by decide) rfl rfl (by decide) ?_) | (refine wl_guard_take rfl rfl ?_; (first | refine s_gtr_t rfl rfl (by omega) (by decide) ?_ | refine s_gtr_f rfl rfl (by omega) (by decide) ?_)) | (refine wl_guard_skipV (by decide) rfl rfl ?_)
        first | refine s_pick_t rfl (ev_bool rfl) (by decide) ?_ | refine s_pick_f rfl (ev_bool rfl) (by decide) ?_
        refine wl_end ?_
        refine wc_cond_t rfl ?_
        refine wc_seq ?_
        refine wc_region ?_
        refine s_assign (ev_str rfl) (by decide) ?_
        refine s_assign (ev_int rfl) (by decide) ?_
        refine wl_end ?_
        refine wc_ret ?_
        refine k_ret ?_
        refine b_ret ?_
        refine k_ret ?_
        refine k_ret ?_
        refine b_ret ?_
        refine k_ret ?_
        -- at ('end', 'ret')
        refine ret2 (by first | exact .inr rfl | exact .inl rfl) rfl rfl rfl ?_
        obtain ⟨e1, e2⟩ := of_bad hx (by simp [expOk]; omega)
        rw [e1, e2]
        exact ⟨rfl, hh.below⟩
      · by_cases h1 : 127 < x
        · refine wc_seq ?_
          refine wc_region ?_
          first | refine s_lss_t rfl rfl (by omega) (by decide) ?_ | refine s_lss_f rfl rfl (by omega) (by decide) ?_
          refine wl_end ?_
          refine wc_seq ?_
          refine wc_cond_t rfl ?_
          refine wc_skip ?_
          refine k_then ?_
          refine wc_seq ?_
          refine wc_block ?_
          refine wc_seq ?_
          refine wc_region ?_
          refine s_indexAddr UIs.out TIs.size rfl rfl (by omega) (by omega) (by decide) ?_
          -- at some 12 := Op.load 3 (Operand.tmp 11)
          refine s_load1 TIs.out rfl (rd_elem1 hr (i64s_at hx) rfl) (by decide) ?_
          refine s_assign (ev_int rfl) (by decide) ?_
          refine wl_end ?_
          refine wc_seq ?_
          refine wc_seq ?_
          refine wc_region ?_
          refine s_move (ev_int rfl) (by decide) ?_
          first | refine s_lss_t rfl rfl (by omega) (by decide) ?_ | refine s_lss_f rfl rfl (by omega) (by decide) ?_
          refine s_move (ev_bool rfl) (by decide) ?_
          first | (refine wl_guard_skip (by decide) rfl rfl (by decide) ?_) | (refine wl_guard_take rfl rfl ?_; (refine s_move (ev_int rfl) (by decide) ?_)) | (refine wl_guard_skipV (by decide) rfl rfl ?_)
          first | (refine wl_guard_skip (by decide) rfl rfl (by decide) ?_) | (refine wl_guard_take rfl rfl ?_; (first | refine s_gtr_t rfl rfl (by omega) (by decide) ?_ | refine s_gtr_f rfl rfl (by omega) (by decide) ?_)) | (refine wl_guard_skipV (by decide) rfl rfl ?_)
          first | refine s_pick_t rfl (ev_bool rfl) (by decide) ?_ | refine s_pick_f rfl (ev_bool rfl) (by decide) ?_
          refine wl_end ?_
          refine wc_cond_t rfl ?_
          refine wc_seq ?_
          refine wc_region ?_
          refine s_assign (ev_str rfl) (by decide) ?_
          refine s_assign (ev_int rfl) (by decide) ?_
          refine wl_end ?_
          refine wc_ret ?_
          refine k_ret ?_
          refine b_ret ?_
          refine k_ret ?_
          refine k_ret ?_
          refine b_ret ?_
          refine k_ret ?_
          -- at ('end', 'ret')
          refine ret2 (by first | exact .inr rfl | exact .inl rfl) rfl rfl rfl ?_
          obtain ⟨e1, e2⟩ := of_bad hx (by simp [expOk]; omega)
          rw [e1, e2]
          exact ⟨rfl, hh.below⟩
        · have hok : expOk x = true := by simp [expOk]; omega
          refine wc_seq ?_
          refine wc_region ?_
          first | refine s_lss_t rfl rfl (by omega) (by decide) ?_ | refine s_lss_f rfl rfl (by omega) (by decide) ?_
          refine wl_end ?_
          refine wc_seq ?_
          refine wc_cond_t rfl ?_
          refine wc_skip ?_
          refine k_then ?_
          refine wc_seq ?_
          refine wc_block ?_
          refine wc_seq ?_
          refine wc_region ?_
          refine s_indexAddr UIs.out TIs.size rfl rfl (by omega) (by omega) (by decide) ?_
          -- at some 12 := Op.load 3 (Operand.tmp 11)
          refine s_load1 TIs.out rfl (rd_elem1 hr (i64s_at hx) rfl) (by decide) ?_
          refine s_assign (ev_int rfl) (by decide) ?_
          refine wl_end ?_
          refine wc_seq ?_
          refine wc_seq ?_
          refine wc_region ?_
          refine s_move (ev_int rfl) (by decide) ?_
          first | refine s_lss_t rfl rfl (by omega) (by decide) ?_ | refine s_lss_f rfl rfl (by omega) (by decide) ?_
          refine s_move (ev_bool rfl) (by decide) ?_
          first | (refine wl_guard_skip (by decide) rfl rfl (by decide) ?_) | (refine wl_guard_take rfl rfl ?_; (refine s_move (ev_int rfl) (by decide) ?_)) | (refine wl_guard_skipV (by decide) rfl rfl ?_)
          first | (refine wl_guard_skip (by decide) rfl rfl (by decide) ?_) | (refine wl_guard_take rfl rfl ?_; (first | refine s_gtr_t rfl rfl (by omega) (by decide) ?_ | refine s_gtr_f rfl rfl (by omega) (by decide) ?_)) | (refine wl_guard_skipV (by decide) rfl rfl ?_)
          first | refine s_pick_t rfl (ev_bool rfl) (by decide) ?_ | refine s_pick_f rfl (ev_bool rfl) (by decide) ?_
          refine wl_end ?_
          refine wc_cond_f rfl ?_
          refine wc_skip ?_
          refine k_then ?_
          refine wc_region ?_
          refine s_move (ev_sl rfl) (by decide) ?_
          refine s_move (ev_int rfl) (by decide) ?_
          refine s_conv_int UIs.out UIs.out rfl (by decide) ?_
          refine wl_buildSlice hh (cs := [_]) UIs.out TIs.out (evp_cons (ev_int rfl) evp_nil) rfl rfl (by decide) (by decide) (by decide) rfl (by decide) ?_
          intro b22 w22 hh
          refine wl_append hh (i := 1) rfl rfl rfl (hh.sl_row (i := 0) rfl) UIs.out TIs.out rfl (by decide) rfl (by omega) (by omega) (by decide) ?_
          intro A23 c23 w23 hh
          simp only [List.set_cons_zero, List.set_cons_succ] at hh
          replace hh := hh.sub (List.sublist_cons_self _ _)
          refine s_assign (ev_sl rfl) (by decide) ?_
          refine wl_nil ?_
          refine b_norm ?_
          refine k_then ?_
          refine wc_region ?_
          refine s_addi rfl rfl (by omega) (by omega) (by decide) ?_
          refine s_move (ev_int rfl) (by decide) ?_
          refine wl_nil ?_
          refine k_then ?_
          -- at ('round',)
          refine ⟨⟨k + 1, c23, A23, by omega, rfl, rfl, all_snoc hx hall hok, ?_⟩, by show n - (k + 1) < n - k; omega, ?_⟩
          · rw [wrap_u8 (by omega) (by omega), u8s_snoc hx hok] at hh
            exact hh
          · (repeat (first | exact agree_mask _ _ _ | refine agree_upd rfl ?_ | refine agree_mask2 rfl ?_))
    · obtain rfl : k = n := by omega
      rw [List.take_of_length_le (by omega)] at hall hh
      obtain ⟨e1, e2⟩ := of_good hall
      refine wc_seq ?_
      refine wc_region ?_
      first | refine s_lss_t rfl rfl (by omega) (by decide) ?_ | refine s_lss_f rfl rfl (by omega) (by decide) ?_
      refine wl_end ?_
      refine wc_seq ?_
      refine wc_cond_f rfl ?_
      refine wc_exit ?_
      refine k_exit ?_
      refine k_exit ?_
      refine b_here ?_
      refine k_then ?_
      refine wc_seq ?_
      refine wc_region ?_
      refine s_move (ev_sl rfl) (by decide) ?_
      -- at some 26 := Op.convert 43 9 (Operand.tmp 25)
      refine s_bytes_str UIs.out UIs.out UIs.out rfl (hh.sl_row (i := 0) rfl) (by decide) ?_
      refine s_assign (ev_str rfl) (by decide) ?_
      refine s_assign (ev_int rfl) (by decide) ?_
      refine wl_end ?_
      refine wc_ret ?_
      -- at ('end', 'ret')
      refine ret2 (by first | exact .inr rfl | exact .inl rfl) rfl rfl rfl ?_
      rw [e1, e2]
      exact ⟨rfl, hh.below⟩
theorem exps_calls (s : ByteArray) (w : World) (hs : s.size ≤ 100000) :
    Calls Try.prog 12 #[.string s] w fun e w' => ∃ A c, e = .returned (.slice A (expsL s.data.toList).length c) ∧ w'.ownsRow w.heap.size 3 1 (.slice A (expsL s.data.toList).length c) (expsL s.data.toList).length (i64s (expsL s.data.toList)) ∧ Below w.heap.size w w' := by
  have hh := Hp.start w
  have hsz := ba_size s
  cases hm : mayB s.data.toList with
  | false =>
    refine calls_vc (N := 22) (l := [.string s]) Try.func12 rfl rfl (by simp) ?_
    refine wc_seq ?_
    refine wc_region ?_
    refine s_assign (ev_sl rfl) (by decide) ?_
    refine wl_end ?_
    refine wc_seq ?_
    refine wc_seq ?_
    refine wc_region ?_
    refine s_move (ev_str rfl) (by decide) ?_
    refine s_move (ev_str rfl) (by decide) ?_
    refine s_len_str UIs.out rfl (by decide) ?_
    -- at some 9 := Op.call { callee := Callee.value (Operand.func 16), args := #[Operand.tmp 6, Operand.tmp 8
    refine s_callf (may_self s _ (by omega)) FnIs.out rfl (by decide) ?_
    rintro e_ w9 ⟨rfl, hb_⟩
    refine ⟨_, rfl, ?_⟩
    replace hh := hh.ext hb_
    rw [hm]
    refine s_not rfl (by decide) ?_
    refine wl_end ?_
    refine wc_cond_t rfl ?_
    refine wc_seq ?_
    refine wc_region ?_
    refine s_assign (ev_sl rfl) (by decide) ?_
    refine wl_end ?_
    refine wc_ret ?_
    refine k_ret ?_
    -- at ('end', 'ret')
    refine ret1 (by first | exact .inr rfl | exact .inl rfl) rfl rfl ?_
    rw [exps_bad hm]
    exact ⟨none, 0, rfl, World.ownsRow_nil _ _ _ _, hh.below⟩
  | true =>
    refine calls_vc (N := 22) (l := [.string s]) Try.func12 rfl rfl (by simp) ?_
    refine wc_seq ?_
    refine wc_region ?_
    refine s_assign (ev_sl rfl) (by decide) ?_
    refine wl_end ?_
    refine wc_seq ?_
    refine wc_seq ?_
    refine wc_region ?_
    refine s_move (ev_str rfl) (by decide) ?_
    refine s_move (ev_str rfl) (by decide) ?_
    refine s_len_str UIs.out rfl (by decide) ?_
    -- at some 9 := Op.call { callee := Callee.value (Operand.func 16), args := #[Operand.tmp 6, Operand.tmp 8
    refine s_callf (may_self s _ (by omega)) FnIs.out rfl (by decide) ?_
    rintro e_ w9 ⟨rfl, hb_⟩
    refine ⟨_, rfl, ?_⟩
    replace hh := hh.ext hb_
    rw [hm]
    refine s_not rfl (by decide) ?_
    refine wl_end ?_
    refine wc_cond_f rfl ?_
    refine wc_skip ?_
    refine k_then ?_
    refine wc_seq ?_
    refine wc_region ?_
    refine s_assign (ev_sl rfl) (by decide) ?_
    refine wl_end ?_
    refine wc_seq ?_
    refine wc_seq ?_
    refine wc_region ?_
    refine s_move (ev_str rfl) (by decide) ?_
    -- at some 12 := Op.range 9 (Operand.tmp 11)
    refine wl_range_str hh UIs.out rfl (by decide) ?_
    intro b12 w12 hh
    skip
    refine wl_end ?_
    refine wc_block ?_
    -- at a loop
    refine wc_loop1 [3, 5, 13, 14, 15, 16, 17, 18, 19, 20] 3
      (fun v w' => ∃ (k c' : Nat) (A' : Option Addr), k ≤ s.size ∧ v = .slice A' k c' ∧ Hp w [.row A' k c' 3 1 (i64s (ints (s.data.toList.take k))), .it b12 s k] w')
      (fun v _ => s.size - lenOf v) ?_ ?_
    · exact ⟨0, 0, none, Nat.zero_le _, rfl, hh.nil_row _ _⟩
    · clear hh
      rintro ρ' v w' ⟨k, c', A', hk, rfl, hh⟩
      -- 
      -- 
      by_cases hlt : k < s.size
      · obtain ⟨c, hc⟩ := get_of_lt (l := s.data.toList) (k := k) (by omega)
        have h8 := mayB_at hm hc
        refine wc_seq ?_
        refine wc_region ?_
        -- at some 13 := Op.next (Operand.tmp 12) true
        refine wl_next_more hh (i := 1) rfl rfl hc h8 (by decide) ?_
        intro w13 hh
        simp only [List.set_cons_zero, List.set_cons_succ] at hh
        skip
        refine s_extract rfl rfl (by decide) ?_
        refine wl_end ?_
        refine wc_seq ?_
        refine wc_cond_t rfl ?_
        refine wc_skip ?_
        refine k_then ?_
        refine wc_block ?_
        refine wc_seq ?_
        refine wc_region ?_
        refine s_extract rfl rfl (by decide) ?_
        refine s_assign (ev_int rfl) (by decide) ?_
        refine wl_end ?_
        refine wc_region ?_
        refine s_move (ev_sl rfl) (by decide) ?_
        refine s_move (ev_int rfl) (by decide) ?_
        refine s_conv_i64 UIs.out UIs.out rfl (by omega) (by omega) (by decide) ?_
        refine wl_buildSlice hh (cs := [_]) UIs.out TIs.out (evp_cons (ev_int rfl) evp_nil) rfl rfl (by decide) (by decide) (by decide) rfl (by decide) ?_
        intro b19 w19 hh
        refine wl_append hh (i := 1) rfl rfl rfl (hh.sl_row (i := 0) rfl) UIs.out TIs.out rfl (by decide) rfl (by omega) (by omega) (by decide) ?_
        intro A20 c20 w20 hh
        simp only [List.set_cons_zero, List.set_cons_succ] at hh
        replace hh := hh.sub (List.sublist_cons_self _ _)
        refine s_assign (ev_sl rfl) (by decide) ?_
        refine wl_nil ?_
        refine b_norm ?_
        refine k_then ?_
        -- at ('round',)
        rw [i64s_ints_snoc hc] at hh
        refine ⟨⟨k + 1, c20, A20, by omega, rfl, hh⟩, by show s.size - (k + 1) < s.size - k; omega, ?_⟩
        (repeat (first | exact agree_mask _ _ _ | refine agree_upd rfl ?_ | refine agree_mask2 rfl ?_))
      · refine wc_seq ?_
        refine wc_region ?_
        -- at some 13 := Op.next (Operand.tmp 12) true
        refine wl_next_done hh (i := 1) rfl rfl hlt (by decide) ?_
        skip
        refine s_extract rfl rfl (by decide) ?_
        refine wl_end ?_
        refine wc_seq ?_
        refine wc_cond_f rfl ?_
        refine wc_exit ?_
        refine k_exit ?_
        refine k_exit ?_
        refine b_here ?_
        refine k_then ?_
        refine wc_seq ?_
        refine wc_region ?_
        refine s_move (ev_sl rfl) (by decide) ?_
        refine s_assign (ev_sl rfl) (by decide) ?_
        refine wl_end ?_
        refine wc_ret ?_
        -- at ('end', 'ret')
        refine ret1 (by first | exact .inr rfl | exact .inl rfl) rfl rfl ?_
        obtain rfl : k = s.size := by omega
        rw [List.take_of_length_le (by omega)] at hh
        have h1 := hh.at_ (i := 0) rfl
        rw [exps_good hm, length_ints, ← hsz]
        exact ⟨A', c', rfl, h1, hh.below⟩
theorem degree_calls (s : ByteArray) (w : World) (hs : s.size ≤ 100000) :
    Calls Try.prog 14 #[.string s] w fun e w' => e = .returned (.int .i64 (degL s.data.toList)) ∧ Below w.heap.size w w' := by
  have hh := Hp.start w
  have hsz := ba_size s
  have hle := length_exps s.data.toList
  have hbd := sum_bd (l := expsL s.data.toList) 127 (by omega) (fun _ _ h => exps_bd h)
  refine calls_vc (N := 18) (l := [.string s]) Try.func14 rfl rfl (by simp) ?_
  refine wc_seq ?_
  refine wc_region ?_
  refine s_assign (ev_int rfl) (by decide) ?_
  refine wl_end ?_
  refine wc_seq ?_
  refine wc_region ?_
  refine s_assign (ev_int rfl) (by decide) ?_
  refine wl_end ?_
  refine wc_seq ?_
  refine wc_seq ?_
  refine wc_region ?_
  refine s_move (ev_str rfl) (by decide) ?_
  -- at some 7 := Op.call { callee := Callee.value (Operand.func 12), args := #[Operand.tmp 6], argTypes := 
  refine s_callf (exps_calls s _ hs) FnIs.out rfl (by decide) ?_
  rintro e_ w7 ⟨A7, c7, rfl, hown_, hb_⟩
  refine ⟨_, rfl, ?_⟩
  replace hh := hh.push_new (x := .row _ _ _ _ _ _) hb_ hown_
  refine s_len_sl UIs.out rfl (by decide) ?_
  refine s_move (ev_int rfl) (by decide) ?_
  refine wl_end ?_
  refine wc_block ?_
  -- at a loop
  refine wc_loop2 [3, 5, 9, 10, 11, 12, 13, 14, 15, 16] 3 9
    (fun v i w' => ∃ k : Nat, k ≤ (expsL s.data.toList).length ∧ i = .int .i64 k ∧ v = .int .i64 ((expsL s.data.toList).take k).sum ∧ w' = w7)
    (fun _ i _ => (expsL s.data.toList).length - (intOf i).toNat) ?_ ?_
  · exact ⟨0, Nat.zero_le _, rfl, rfl, rfl⟩
  · rintro ρ' v i w' ⟨k, hk, rfl, rfl, rfl⟩
    have hb1 := hbd k
    by_cases hlt : k < (expsL s.data.toList).length
    · obtain ⟨x, hx⟩ := get_of_lt hlt
      have hbx := exps_bd hx
      have hx2 := i64s_at hx
      obtain ⟨g, rfl⟩ := hh.row_some (i := 0) rfl (by omega)
      refine wc_seq ?_
      refine wc_region ?_
      first | refine s_lss_t rfl rfl (by omega) (by decide) ?_ | refine s_lss_f rfl rfl (by omega) (by decide) ?_
      refine wl_end ?_
      refine wc_seq ?_
      refine wc_cond_t rfl ?_
      refine wc_skip ?_
      refine k_then ?_
      refine wc_seq ?_
      refine wc_block ?_
      refine wc_seq ?_
      refine wc_region ?_
      refine s_indexRow UIs.out TIs.size rfl rfl rfl (by omega) (by decide) ?_
      refine s_load1 TIs.out rfl (hh.cell_row (i := 0) rfl (by first | assumption | (simp only [Nat.mul_one]; assumption))) (by decide) ?_
      refine s_assign (ev_int rfl) (by decide) ?_
      refine wl_end ?_
      refine wc_region ?_
      refine s_move (ev_int rfl) (by decide) ?_
      refine s_move (ev_int rfl) (by decide) ?_
      refine s_addi rfl rfl (by omega) (by omega) (by decide) ?_
      refine s_assign (ev_int rfl) (by decide) ?_
      refine wl_nil ?_
      refine b_norm ?_
      refine k_then ?_
      refine wc_region ?_
      refine s_addi rfl rfl (by omega) (by omega) (by decide) ?_
      refine s_move (ev_int rfl) (by decide) ?_
      refine wl_nil ?_
      refine k_then ?_
      -- at ('round',)
      refine ⟨⟨k + 1, by omega, rfl, by rw [sum_snoc hx]; rfl, rfl⟩, by show _ - (k + 1) < _ - k; omega, ?_⟩
      (repeat (first | exact agree_mask _ _ _ | refine agree_upd rfl ?_ | refine agree_mask2 rfl ?_))
    · refine wc_seq ?_
      refine wc_region ?_
      first | refine s_lss_t rfl rfl (by omega) (by decide) ?_ | refine s_lss_f rfl rfl (by omega) (by decide) ?_
      refine wl_end ?_
      refine wc_seq ?_
      refine wc_cond_f rfl ?_
      refine wc_exit ?_
      refine k_exit ?_
      refine k_exit ?_
      refine b_here ?_
      refine k_then ?_
      refine wc_seq ?_
      refine wc_region ?_
      refine s_move (ev_int rfl) (by decide) ?_
      refine s_assign (ev_int rfl) (by decide) ?_
      refine wl_end ?_
      refine wc_ret ?_
      -- at ('end', 'ret')
      refine ret1 (by first | exact .inr rfl | exact .inl rfl) rfl rfl ?_
      rw [List.take_of_length_le (by omega)]
      exact ⟨rfl, hh.below⟩
theorem both_calls (a b : ByteArray) (g : FuncId) (f : Int → Int → Int) (w : World) (ha : a.size ≤ 100000) (hb : b.size ≤ 100000) [FnIs Try.prog g]
    (hg : ∀ (x y : Int) (w : World), 0 ≤ x → x ≤ 127 → 0 ≤ y → y ≤ 127 → Calls Try.prog g #[.int .i64 x, .int .i64 y] w fun e w' => e = .returned (.int .i64 (f x y)) ∧ Below w.heap.size w w') :
    Calls Try.prog 25 #[.string a, .string b, .func (.func g) #[] #[]] w fun e w' =>
      (bothL f a.data.toList b.data.toList = none ∧ e = .returned (.tuple #[.slice none 0 0, .bool false]) ∧ Below w.heap.size w w') ∨
      ∃ l, bothL f a.data.toList b.data.toList = some l ∧ l.length = b.size ∧ ∃ A c, e = .returned (.tuple #[.slice A l.length c, .bool true]) ∧ w'.ownsRow w.heap.size 3 1 (.slice A l.length c) l.length (i64s l) ∧ Below w.heap.size w w' := by
  have hh := Hp.start w
  have hsa := ba_size a
  have hsb := ba_size b
  cases hma : mayB a.data.toList with
  | false =>
    refine calls_vc (N := 45) (l := [.string a, .string b, .func (.func g) #[] #[]]) Try.func25 rfl rfl (by simp) ?_
    refine wc_seq ?_
    refine wc_region ?_
    refine s_assign (ev_sl rfl) (by decide) ?_
    refine s_assign (ev_bool rfl) (by decide) ?_
    refine wl_end ?_
    refine wc_seq ?_
    refine wc_region ?_
    refine s_move (ev_str rfl) (by decide) ?_
    -- at some 12 := Op.call { callee := Callee.value (Operand.func 12), args := #[Operand.tmp 11], argTypes :=
    refine s_callf (exps_calls b _ hb) FnIs.out rfl (by decide) ?_
    rintro e_ w12 ⟨A12, c12, rfl, hown_, hb_⟩
    refine ⟨_, rfl, ?_⟩
    replace hh := hh.push_new (x := .row _ _ _ _ _ _) hb_ hown_
    refine s_assign (ev_sl rfl) (by decide) ?_
    refine wl_end ?_
    refine wc_seq ?_
    refine wc_seq ?_
    refine wc_region ?_
    refine s_move (ev_str rfl) (by decide) ?_
    refine s_move (ev_str rfl) (by decide) ?_
    refine s_len_str UIs.out rfl (by decide) ?_
    -- at some 16 := Op.call { callee := Callee.value (Operand.func 16), args := #[Operand.tmp 13, Operand.tmp 
    refine s_callf (may_self a _ (by omega)) FnIs.out rfl (by decide) ?_
    rintro e_ w16 ⟨rfl, hb_⟩
    refine ⟨_, rfl, ?_⟩
    replace hh := hh.ext hb_
    rw [hma]
    refine s_not rfl (by decide) ?_
    refine s_move (ev_bool rfl) (by decide) ?_
    first | (refine wl_guard_skip (by decide) rfl rfl (by decide) ?_) | (refine wl_guard_take rfl rfl ?_; (refine s_move (ev_str rfl) (by decide) ?_)) | (refine wl_guard_skipV (by decide) rfl rfl ?_)
    first | (refine wl_guard_skip (by decide) rfl rfl (by decide) ?_) | (refine wl_guard_take rfl rfl ?_; (refine s_move (ev_str rfl) (by decide) ?_)) | (refine wl_guard_skipV (by decide) rfl rfl ?_)
    first | (refine wl_guard_skip (by decide) rfl rfl (by decide) ?_) | (refine wl_guard_take rfl rfl ?_; (refine s_len_str UIs.out rfl (by decide) ?_)) | (refine wl_guard_skipV (by decide) rfl rfl ?_)
    refine wl_guard_skip (by decide) rfl rfl (by decide) ?_
    first | (refine wl_guard_skip (by decide) rfl rfl (by decide) ?_) | (refine wl_guard_take rfl rfl ?_; (refine s_not rfl (by decide) ?_)) | (refine wl_guard_skipV (by decide) rfl rfl ?_)
    first | refine s_pick_t rfl (ev_bool rfl) (by decide) ?_ | refine s_pick_f rfl (ev_bool rfl) (by decide) ?_
    refine wl_end ?_
    refine wc_cond_t rfl ?_
    refine wc_seq ?_
    refine wc_region ?_
    refine s_assign (ev_sl rfl) (by decide) ?_
    refine s_assign (ev_bool rfl) (by decide) ?_
    refine wl_end ?_
    refine wc_ret ?_
    refine k_ret ?_
    -- at ('end', 'ret')
    refine ret2 (by first | exact .inr rfl | exact .inl rfl) rfl rfl rfl ?_
    exact .inl ⟨by simp [bothL, hma], rfl, hh.below⟩
  | true =>
    cases hmb : (mayB b.data.toList && decide ((b.size : Int) = a.size)) with
    | false =>
      refine calls_vc (N := 45) (l := [.string a, .string b, .func (.func g) #[] #[]]) Try.func25 rfl rfl (by simp) ?_
      refine wc_seq ?_
      refine wc_region ?_
      refine s_assign (ev_sl rfl) (by decide) ?_
      refine s_assign (ev_bool rfl) (by decide) ?_
      refine wl_end ?_
      refine wc_seq ?_
      refine wc_region ?_
      refine s_move (ev_str rfl) (by decide) ?_
      -- at some 12 := Op.call { callee := Callee.value (Operand.func 12), args := #[Operand.tmp 11], argTypes :=
      refine s_callf (exps_calls b _ hb) FnIs.out rfl (by decide) ?_
      rintro e_ w12 ⟨A12, c12, rfl, hown_, hb_⟩
      refine ⟨_, rfl, ?_⟩
      replace hh := hh.push_new (x := .row _ _ _ _ _ _) hb_ hown_
      refine s_assign (ev_sl rfl) (by decide) ?_
      refine wl_end ?_
      refine wc_seq ?_
      refine wc_seq ?_
      refine wc_region ?_
      refine s_move (ev_str rfl) (by decide) ?_
      refine s_move (ev_str rfl) (by decide) ?_
      refine s_len_str UIs.out rfl (by decide) ?_
      -- at some 16 := Op.call { callee := Callee.value (Operand.func 16), args := #[Operand.tmp 13, Operand.tmp 
      refine s_callf (may_self a _ (by omega)) FnIs.out rfl (by decide) ?_
      rintro e_ w16 ⟨rfl, hb_⟩
      refine ⟨_, rfl, ?_⟩
      replace hh := hh.ext hb_
      rw [hma]
      refine s_not rfl (by decide) ?_
      refine s_move (ev_bool rfl) (by decide) ?_
      first | (refine wl_guard_skip (by decide) rfl rfl (by decide) ?_) | (refine wl_guard_take rfl rfl ?_; (refine s_move (ev_str rfl) (by decide) ?_)) | (refine wl_guard_skipV (by decide) rfl rfl ?_)
      first | (refine wl_guard_skip (by decide) rfl rfl (by decide) ?_) | (refine wl_guard_take rfl rfl ?_; (refine s_move (ev_str rfl) (by decide) ?_)) | (refine wl_guard_skipV (by decide) rfl rfl ?_)
      first | (refine wl_guard_skip (by decide) rfl rfl (by decide) ?_) | (refine wl_guard_take rfl rfl ?_; (refine s_len_str UIs.out rfl (by decide) ?_)) | (refine wl_guard_skipV (by decide) rfl rfl ?_)
      -- at guarded Op.call { callee := Callee.value (Operand.func 16), args := #[Operand.tmp 19, Op
      refine wl_guard_take rfl rfl ?_
      refine s_callf (may_calls b _ _ (by omega)) FnIs.out rfl (by decide) ?_
      rintro e_ w22 ⟨rfl, hb_⟩
      refine ⟨_, rfl, ?_⟩
      replace hh := hh.ext hb_
      rw [hmb]
      first | (refine wl_guard_skip (by decide) rfl rfl (by decide) ?_) | (refine wl_guard_take rfl rfl ?_; (refine s_not rfl (by decide) ?_)) | (refine wl_guard_skipV (by decide) rfl rfl ?_)
      first | refine s_pick_t rfl (ev_bool rfl) (by decide) ?_ | refine s_pick_f rfl (ev_bool rfl) (by decide) ?_
      refine wl_end ?_
      refine wc_cond_t rfl ?_
      refine wc_seq ?_
      refine wc_region ?_
      refine s_assign (ev_sl rfl) (by decide) ?_
      refine s_assign (ev_bool rfl) (by decide) ?_
      refine wl_end ?_
      refine wc_ret ?_
      refine k_ret ?_
      -- at ('end', 'ret')
      refine ret2 (by first | exact .inr rfl | exact .inl rfl) rfl rfl rfl ?_
      have : (mayB b.data.toList && decide ((b.data.toList.length : Int) = a.data.toList.length)) = false := by rw [← hsa, ← hsb]; exact hmb
      exact .inl ⟨by simp only [bothL, hma, this]; rfl, rfl, hh.below⟩
    | true =>
      have hmb2 := hmb
      simp only [Bool.and_eq_true, decide_eq_true_eq] at hmb2
      have hbl : bothL f a.data.toList b.data.toList = some (List.zipWith f (ints a.data.toList) (ints b.data.toList)) := by
        have : (mayB b.data.toList && decide ((b.data.toList.length : Int) = a.data.toList.length)) = true := by rw [← hsa, ← hsb]; exact hmb
        simp only [bothL, hma, this]; rfl
      have hea := exps_good hma
      have heb := exps_good hmb2.1
      have hlab : (ints a.data.toList).length = (ints b.data.toList).length := by rw [length_ints, length_ints]; omega
      have hlb := length_ints b.data.toList
      have hla := length_ints a.data.toList
      have hA := exps_calls a
      have hB := exps_calls b
      rw [hea] at hA
      rw [heb] at hB
      generalize hia : ints a.data.toList = ia at *
      generalize hib : ints b.data.toList = ib at *
      have bda : ∀ (k : Nat) (x : Int), ia[k]? = some x → 0 ≤ x ∧ x ≤ 127 := fun k x h => exps_bd (l := a.data.toList) (by rw [hea]; exact h)
      have bdb : ∀ (k : Nat) (x : Int), ib[k]? = some x → 0 ≤ x ∧ x ≤ 127 := fun k x h => exps_bd (l := b.data.toList) (by rw [heb]; exact h)
      clear hea heb
      refine calls_vc (N := 45) (l := [.string a, .string b, .func (.func g) #[] #[]]) Try.func25 rfl rfl (by simp) ?_
      refine wc_seq ?_
      refine wc_region ?_
      refine s_assign (ev_sl rfl) (by decide) ?_
      refine s_assign (ev_bool rfl) (by decide) ?_
      refine wl_end ?_
      refine wc_seq ?_
      refine wc_region ?_
      refine s_move (ev_str rfl) (by decide) ?_
      -- at some 12 := Op.call { callee := Callee.value (Operand.func 12), args := #[Operand.tmp 11], argTypes :=
      refine s_callf (hB _ hb) FnIs.out rfl (by decide) ?_
      rintro e_ w12 ⟨A12, c12, rfl, hown_, hb_⟩
      refine ⟨_, rfl, ?_⟩
      replace hh := hh.push_new (x := .row _ _ _ _ _ _) hb_ hown_
      refine s_assign (ev_sl rfl) (by decide) ?_
      refine wl_end ?_
      refine wc_seq ?_
      refine wc_seq ?_
      refine wc_region ?_
      refine s_move (ev_str rfl) (by decide) ?_
      refine s_move (ev_str rfl) (by decide) ?_
      refine s_len_str UIs.out rfl (by decide) ?_
      -- at some 16 := Op.call { callee := Callee.value (Operand.func 16), args := #[Operand.tmp 13, Operand.tmp 
      refine s_callf (may_self a _ (by omega)) FnIs.out rfl (by decide) ?_
      rintro e_ w16 ⟨rfl, hb_⟩
      refine ⟨_, rfl, ?_⟩
      replace hh := hh.ext hb_
      rw [hma]
      refine s_not rfl (by decide) ?_
      refine s_move (ev_bool rfl) (by decide) ?_
      first | (refine wl_guard_skip (by decide) rfl rfl (by decide) ?_) | (refine wl_guard_take rfl rfl ?_; (refine s_move (ev_str rfl) (by decide) ?_)) | (refine wl_guard_skipV (by decide) rfl rfl ?_)
      first | (refine wl_guard_skip (by decide) rfl rfl (by decide) ?_) | (refine wl_guard_take rfl rfl ?_; (refine s_move (ev_str rfl) (by decide) ?_)) | (refine wl_guard_skipV (by decide) rfl rfl ?_)
      first | (refine wl_guard_skip (by decide) rfl rfl (by decide) ?_) | (refine wl_guard_take rfl rfl ?_; (refine s_len_str UIs.out rfl (by decide) ?_)) | (refine wl_guard_skipV (by decide) rfl rfl ?_)
      -- at guarded Op.call { callee := Callee.value (Operand.func 16), args := #[Operand.tmp 19, Op
      refine wl_guard_take rfl rfl ?_
      refine s_callf (may_calls b _ _ (by omega)) FnIs.out rfl (by decide) ?_
      rintro e_ w22 ⟨rfl, hb_⟩
      refine ⟨_, rfl, ?_⟩
      replace hh := hh.ext hb_
      rw [hmb]
      first | (refine wl_guard_skip (by decide) rfl rfl (by decide) ?_) | (refine wl_guard_take rfl rfl ?_; (refine s_not rfl (by decide) ?_)) | (refine wl_guard_skipV (by decide) rfl rfl ?_)
      first | refine s_pick_t rfl (ev_bool rfl) (by decide) ?_ | refine s_pick_f rfl (ev_bool rfl) (by decide) ?_
      refine wl_end ?_
      refine wc_cond_f rfl ?_
      refine wc_skip ?_
      refine k_then ?_
      refine wc_seq ?_
      refine wc_seq ?_
      refine wc_region ?_
      refine s_move (ev_str rfl) (by decide) ?_
      -- at some 26 := Op.call { callee := Callee.value (Operand.func 12), args := #[Operand.tmp 25], argTypes :=
      refine s_callf (hA _ ha) FnIs.out rfl (by decide) ?_
      rintro e_ w26 ⟨A26, c26, rfl, hown_, hb_⟩
      refine ⟨_, rfl, ?_⟩
      replace hh := hh.push_new (x := .row _ _ _ _ _ _) hb_ hown_
      refine s_len_sl UIs.out rfl (by decide) ?_
      refine s_move (ev_int rfl) (by decide) ?_
      refine wl_end ?_
      refine wc_block ?_
      -- at a loop
      refine wc_loop1 [9, 10, 28, 29, 30, 31, 32, 33, 34, 35, 36, 37, 38, 39, 40, 41, 42, 43] 28
        (fun i w' => ∃ k : Nat, k ≤ ib.length ∧ i = .int .i64 k ∧ Hp w [.row A26 ia.length c26 3 1 (i64s ia), .row A12 ib.length c12 3 1 (i64s (mixL f ia ib k))] w')
        (fun i _ => ib.length - (intOf i).toNat) ?_ ?_
      · exact ⟨0, Nat.zero_le _, rfl, by rw [mix_zero]; exact hh⟩
      · clear hh hown_ hb_
        rintro ρ' i w' ⟨k, hk, rfl, hh⟩
        by_cases hlt : k < ib.length
        · obtain ⟨x, hx⟩ := get_of_lt (l := ia) (k := k) (by omega)
          obtain ⟨y, hy⟩ := get_of_lt hlt
          have bx := bda k x hx
          have byy := bdb k y hy
          have hx2 := i64s_at hx
          have hy2 := i64s_at (mix_at (f := f) hlab hy)
          have hml := mix_len (f := f) hlab hk
          have hml2 := length_i64s (mixL f ia ib k)
          obtain ⟨ga, rfl⟩ := hh.row_some (i := 0) rfl (by omega)
          obtain ⟨gb, rfl⟩ := hh.row_some (i := 1) rfl (by omega)
          refine wc_seq ?_
          refine wc_region ?_
          first | refine s_lss_t rfl rfl (by omega) (by decide) ?_ | refine s_lss_f rfl rfl (by omega) (by decide) ?_
          refine wl_end ?_
          refine wc_seq ?_
          refine wc_cond_t rfl ?_
          refine wc_skip ?_
          refine k_then ?_
          refine wc_seq ?_
          refine wc_block ?_
          refine wc_seq ?_
          refine wc_region ?_
          refine s_move (ev_int rfl) (by decide) ?_
          refine s_indexRow UIs.out TIs.size rfl rfl rfl (by omega) (by decide) ?_
          refine s_load1 TIs.out rfl (hh.cell_row (i := 0) rfl (by first | assumption | (simp only [Nat.mul_one]; assumption))) (by decide) ?_
          refine s_assign (ev_int rfl) (by decide) ?_
          refine s_assign (ev_int rfl) (by decide) ?_
          refine wl_end ?_
          refine wc_region ?_
          refine s_move (ev_sl rfl) (by decide) ?_
          refine s_move (ev_int rfl) (by decide) ?_
          refine s_move (by first | exact ev_func rfl | exact ev_nilf rfl) (by decide) ?_
          refine s_move (ev_int rfl) (by decide) ?_
          refine s_move (ev_sl rfl) (by decide) ?_
          refine s_move (ev_int rfl) (by decide) ?_
          refine s_indexRow UIs.out TIs.size rfl rfl rfl (by omega) (by decide) ?_
          refine s_load1 TIs.out rfl (hh.cell_row (i := 1) rfl (by first | assumption | (simp only [Nat.mul_one]; assumption))) (by decide) ?_
          -- at some 41 := Op.call { callee := Callee.value (Operand.tmp 35), args := #[Operand.tmp 36, Operand.tmp 4
          refine s_callv (hg x y _ bx.1 bx.2 byy.1 byy.2) FnIs.out rfl rfl (by decide) ?_
          rintro e_ w41 ⟨rfl, hb_⟩
          refine ⟨_, rfl, ?_⟩
          replace hh := hh.ext hb_
          refine s_indexRow UIs.out TIs.size rfl rfl rfl (by omega) (by decide) ?_
          -- at none := Op.store 3 (Operand.tmp 42) (Operand.tmp 41)
          refine wl_store_row hh (i := 1) (vs := [_]) rfl rfl (ev_int rfl) rfl TIs.out rfl (by omega) rfl ?_
          intro ws hh
          simp only [List.set_cons_zero, List.set_cons_succ] at hh
          refine wl_nil ?_
          refine b_norm ?_
          refine k_then ?_
          refine wc_region ?_
          refine s_addi rfl rfl (by omega) (by omega) (by decide) ?_
          refine s_move (ev_int rfl) (by decide) ?_
          refine wl_nil ?_
          refine k_then ?_
          -- at ('round',)
          rw [Nat.mul_one, mix_set hlab hx hy] at hh
          refine ⟨⟨k + 1, by omega, rfl, hh⟩, by show _ - (k + 1) < _ - k; omega, ?_⟩
          (repeat (first | exact agree_mask _ _ _ | refine agree_upd rfl ?_ | refine agree_mask2 rfl ?_))
        · refine wc_seq ?_
          refine wc_region ?_
          first | refine s_lss_t rfl rfl (by omega) (by decide) ?_ | refine s_lss_f rfl rfl (by omega) (by decide) ?_
          refine wl_end ?_
          refine wc_seq ?_
          refine wc_cond_f rfl ?_
          refine wc_exit ?_
          refine k_exit ?_
          refine k_exit ?_
          refine b_here ?_
          refine k_then ?_
          refine wc_seq ?_
          refine wc_region ?_
          refine s_move (ev_sl rfl) (by decide) ?_
          refine s_assign (ev_sl rfl) (by decide) ?_
          refine s_assign (ev_bool rfl) (by decide) ?_
          refine wl_end ?_
          refine wc_ret ?_
          -- at ('end', 'ret')
          refine ret2 (by first | exact .inr rfl | exact .inl rfl) rfl rfl rfl ?_
          obtain rfl : k = ib.length := by omega
          rw [mix_full hlab] at hh
          have h1 := hh.at_ (i := 1) rfl
          have hzl : (List.zipWith f ia ib).length = ib.length := by simp [hlab]
          refine .inr ⟨_, hbl, by omega, A12, c12, ?_⟩
          rw [hzl]
          exact ⟨rfl, h1, hh.below⟩
theorem both_none (a b : ByteArray) (g : FuncId) (f : Int → Int → Int) (w : World) (ha : a.size ≤ 100000) (hb : b.size ≤ 100000) [FnIs Try.prog g]
    (hg : ∀ (x y : Int) (w : World), 0 ≤ x → x ≤ 127 → 0 ≤ y → y ≤ 127 → Calls Try.prog g #[.int .i64 x, .int .i64 y] w fun e w' => e = .returned (.int .i64 (f x y)) ∧ Below w.heap.size w w')
    (h : bothL f a.data.toList b.data.toList = none) :
    Calls Try.prog 25 #[.string a, .string b, .func (.func g) #[] #[]] w fun e w' => e = .returned (.tuple #[.slice none 0 0, .bool false]) ∧ Below w.heap.size w w' :=
  (both_calls a b g f w ha hb hg).mono fun e w' hq => by
    rcases hq with hq | ⟨l, hl, _⟩
    · exact hq.2
    · rw [h] at hl; cases hl
theorem both_some (a b : ByteArray) (g : FuncId) (f : Int → Int → Int) (w : World) (ha : a.size ≤ 100000) (hb : b.size ≤ 100000) [FnIs Try.prog g]
    (hg : ∀ (x y : Int) (w : World), 0 ≤ x → x ≤ 127 → 0 ≤ y → y ≤ 127 → Calls Try.prog g #[.int .i64 x, .int .i64 y] w fun e w' => e = .returned (.int .i64 (f x y)) ∧ Below w.heap.size w w')
    {l : List Int} (h : bothL f a.data.toList b.data.toList = some l) :
    Calls Try.prog 25 #[.string a, .string b, .func (.func g) #[] #[]] w fun e w' => ∃ A c, e = .returned (.tuple #[.slice A l.length c, .bool true]) ∧ w'.ownsRow w.heap.size 3 1 (.slice A l.length c) l.length (i64s l) ∧ Below w.heap.size w w' :=
  (both_calls a b g f w ha hb hg).mono fun e w' hq => by
    rcases hq with ⟨hn, _⟩ | ⟨l', hl, _, hq⟩
    · rw [h] at hn; cases hn
    · rw [h] at hl; injection hl with hl; subst hl; exact hq
theorem bothL_len {f : Int → Int → Int} {a b : List UInt8} {l : List Int} (h : bothL f a b = some l) : l.length ≤ b.length := by
  unfold bothL at h
  split at h
  · injection h with h; subst h; simp [ints]; omega
  · cases h
theorem mul1_calls (x y : Int) (w : World) (h1 : 0 ≤ x) (h2 : x ≤ 127) (h3 : 0 ≤ y) (h4 : y ≤ 127) :
    Calls Try.prog 26 #[.int .i64 x, .int .i64 y] w fun e w' => e = .returned (.int .i64 (x + y)) ∧ Below w.heap.size w w' := by
  refine calls_vc (N := 8) (l := [.int .i64 x, .int .i64 y]) Try.func26 rfl rfl (by simp) ?_
  refine wc_seq ?_
  refine wc_region ?_
  refine s_assign (ev_int rfl) (by decide) ?_
  refine wl_end ?_
  refine wc_seq ?_
  refine wc_region ?_
  refine s_move (ev_int rfl) (by decide) ?_
  refine s_move (ev_int rfl) (by decide) ?_
  refine s_addi rfl rfl (by omega) (by omega) (by decide) ?_
  refine s_assign (ev_int rfl) (by decide) ?_
  refine wl_end ?_
  refine wc_ret ?_
  -- at ('end', 'ret')
  refine ret1 (by first | exact .inr rfl | exact .inl rfl) rfl rfl ?_
  exact ⟨rfl, Below.refl _ _⟩
theorem div1_calls (x y : Int) (w : World) (h1 : 0 ≤ x) (h2 : x ≤ 127) (h3 : 0 ≤ y) (h4 : y ≤ 127) :
    Calls Try.prog 27 #[.int .i64 x, .int .i64 y] w fun e w' => e = .returned (.int .i64 (x - y)) ∧ Below w.heap.size w w' := by
  refine calls_vc (N := 8) (l := [.int .i64 x, .int .i64 y]) Try.func27 rfl rfl (by simp) ?_
  refine wc_seq ?_
  refine wc_region ?_
  refine s_assign (ev_int rfl) (by decide) ?_
  refine wl_end ?_
  refine wc_seq ?_
  refine wc_region ?_
  refine s_move (ev_int rfl) (by decide) ?_
  refine s_move (ev_int rfl) (by decide) ?_
  refine s_subi rfl rfl (by omega) (by omega) (by decide) ?_
  refine s_assign (ev_int rfl) (by decide) ?_
  refine wl_end ?_
  refine wc_ret ?_
  -- at ('end', 'ret')
  refine ret1 (by first | exact .inr rfl | exact .inl rfl) rfl rfl ?_
  exact ⟨rfl, Below.refl _ _⟩
theorem mul_calls (a b : ByteArray) (w : World) (ha : a.size ≤ 100000) (hb : b.size ≤ 100000) :
    Calls Try.prog 18 #[.string a, .string b] w fun e w' => e = .returned (.tuple #[.string (str (mulL a.data.toList b.data.toList).1), .int .i64 (mulL a.data.toList b.data.toList).2]) ∧ Below w.heap.size w w' := by
  have hh := Hp.start w
  have hsb := ba_size b
  cases hbo : bothL (· + ·) a.data.toList b.data.toList with
  | none =>
    refine calls_vc (N := 20) (l := [.string a, .string b]) Try.func18 rfl rfl (by simp) ?_
    refine wc_seq ?_
    refine wc_region ?_
    refine s_assign (ev_str rfl) (by decide) ?_
    refine s_assign (ev_int rfl) (by decide) ?_
    refine wl_end ?_
    refine wc_seq ?_
    refine wc_region ?_
    refine s_move (ev_str rfl) (by decide) ?_
    refine s_move (ev_str rfl) (by decide) ?_
    -- at some 11 := Op.call { callee := Callee.value (Operand.func 25), args := #[Operand.tmp 9, Operand.tmp 1
    refine s_callf (both_none a b _ _ _ ha hb mul1_calls hbo) FnIs.out rfl (by decide) ?_
    rintro e_ w11 ⟨rfl, hb_⟩
    refine ⟨_, rfl, ?_⟩
    replace hh := hh.ext hb_
    refine s_move (ev_tup rfl) (by decide) ?_
    refine s_extract rfl rfl (by decide) ?_
    refine s_extract rfl rfl (by decide) ?_
    refine s_assign (ev_sl rfl) (by decide) ?_
    refine s_assign (ev_bool rfl) (by decide) ?_
    refine wl_end ?_
    refine wc_seq ?_
    refine wc_seq ?_
    refine wc_region ?_
    refine s_move (ev_bool rfl) (by decide) ?_
    refine s_not rfl (by decide) ?_
    refine wl_end ?_
    refine wc_cond_t rfl ?_
    refine wc_seq ?_
    refine wc_region ?_
    refine s_assign (ev_str rfl) (by decide) ?_
    refine s_assign (ev_int rfl) (by decide) ?_
    refine wl_end ?_
    refine wc_ret ?_
    refine k_ret ?_
    -- at ('end', 'ret')
    refine ret2 (by first | exact .inr rfl | exact .inl rfl) rfl rfl rfl ?_
    simp only [mulL, hbo]
    exact ⟨rfl, hh.below⟩
  | some l =>
    have hl := bothL_len hbo
    refine calls_vc (N := 20) (l := [.string a, .string b]) Try.func18 rfl rfl (by simp) ?_
    refine wc_seq ?_
    refine wc_region ?_
    refine s_assign (ev_str rfl) (by decide) ?_
    refine s_assign (ev_int rfl) (by decide) ?_
    refine wl_end ?_
    refine wc_seq ?_
    refine wc_region ?_
    refine s_move (ev_str rfl) (by decide) ?_
    refine s_move (ev_str rfl) (by decide) ?_
    -- at some 11 := Op.call { callee := Callee.value (Operand.func 25), args := #[Operand.tmp 9, Operand.tmp 1
    refine s_callf (both_some a b _ _ _ ha hb mul1_calls hbo) FnIs.out rfl (by decide) ?_
    rintro e_ w11 ⟨A11, c11, rfl, hown_, hb_⟩
    refine ⟨_, rfl, ?_⟩
    replace hh := hh.push_new (x := .row _ _ _ _ _ _) hb_ hown_
    refine s_move (ev_tup rfl) (by decide) ?_
    refine s_extract rfl rfl (by decide) ?_
    refine s_extract rfl rfl (by decide) ?_
    refine s_assign (ev_sl rfl) (by decide) ?_
    refine s_assign (ev_bool rfl) (by decide) ?_
    refine wl_end ?_
    refine wc_seq ?_
    refine wc_seq ?_
    refine wc_region ?_
    refine s_move (ev_bool rfl) (by decide) ?_
    refine s_not rfl (by decide) ?_
    refine wl_end ?_
    refine wc_cond_f rfl ?_
    refine wc_skip ?_
    refine k_then ?_
    refine wc_seq ?_
    refine wc_region ?_
    refine s_move (ev_sl rfl) (by decide) ?_
    -- at some 17 := Op.call { callee := Callee.value (Operand.func 9), args := #[Operand.tmp 16], argTypes := 
    refine s_callf (of_calls _ _ _ _ _ (hh.sl_row (i := 0) rfl) (by omega)) FnIs.out rfl (by decide) ?_
    rintro e_ w17 ⟨rfl, hb_⟩
    refine ⟨_, rfl, ?_⟩
    replace hh := hh.ext hb_
    refine s_extract rfl rfl (by decide) ?_
    refine s_extract rfl rfl (by decide) ?_
    refine s_assign (ev_str rfl) (by decide) ?_
    refine s_assign (ev_int rfl) (by decide) ?_
    refine wl_end ?_
    refine wc_ret ?_
    -- at ('end', 'ret')
    refine ret2 (by first | exact .inr rfl | exact .inl rfl) rfl rfl rfl ?_
    simp only [mulL, hbo]
    exact ⟨rfl, hh.below⟩
theorem div_calls (a b : ByteArray) (w : World) (ha : a.size ≤ 100000) (hb : b.size ≤ 100000) :
    Calls Try.prog 20 #[.string a, .string b] w fun e w' => e = .returned (.tuple #[.string (str (divL a.data.toList b.data.toList).1), .bool (divL a.data.toList b.data.toList).2]) ∧ Below w.heap.size w w' := by
  have hh := Hp.start w
  have hsb := ba_size b
  cases hbo : bothL (· - ·) a.data.toList b.data.toList with
  | none =>
    refine calls_vc (N := 26) (l := [.string a, .string b]) Try.func20 rfl rfl (by simp) ?_
    refine wc_seq ?_
    refine wc_region ?_
    refine s_assign (ev_str rfl) (by decide) ?_
    refine s_assign (ev_bool rfl) (by decide) ?_
    refine wl_end ?_
    refine wc_seq ?_
    refine wc_region ?_
    refine s_move (ev_str rfl) (by decide) ?_
    refine s_move (ev_str rfl) (by decide) ?_
    -- at some 13 := Op.call { callee := Callee.value (Operand.func 25), args := #[Operand.tmp 11, Operand.tmp 
    refine s_callf (both_none a b _ _ _ ha hb div1_calls hbo) FnIs.out rfl (by decide) ?_
    rintro e_ w13 ⟨rfl, hb_⟩
    refine ⟨_, rfl, ?_⟩
    replace hh := hh.ext hb_
    refine s_move (ev_tup rfl) (by decide) ?_
    refine s_extract rfl rfl (by decide) ?_
    refine s_extract rfl rfl (by decide) ?_
    refine s_assign (ev_sl rfl) (by decide) ?_
    refine s_assign (ev_bool rfl) (by decide) ?_
    refine wl_end ?_
    refine wc_seq ?_
    refine wc_seq ?_
    refine wc_region ?_
    refine s_move (ev_bool rfl) (by decide) ?_
    refine s_not rfl (by decide) ?_
    refine wl_end ?_
    refine wc_cond_t rfl ?_
    refine wc_seq ?_
    refine wc_region ?_
    refine s_assign (ev_str rfl) (by decide) ?_
    refine s_assign (ev_bool rfl) (by decide) ?_
    refine wl_end ?_
    refine wc_ret ?_
    refine k_ret ?_
    -- at ('end', 'ret')
    refine ret2 (by first | exact .inr rfl | exact .inl rfl) rfl rfl rfl ?_
    simp only [divL, hbo]
    exact ⟨rfl, hh.below⟩
  | some l =>
    have hl := bothL_len hbo
    refine calls_vc (N := 26) (l := [.string a, .string b]) Try.func20 rfl rfl (by simp) ?_
    refine wc_seq ?_
    refine wc_region ?_
    refine s_assign (ev_str rfl) (by decide) ?_
    refine s_assign (ev_bool rfl) (by decide) ?_
    refine wl_end ?_
    refine wc_seq ?_
    refine wc_region ?_
    refine s_move (ev_str rfl) (by decide) ?_
    refine s_move (ev_str rfl) (by decide) ?_
    -- at some 13 := Op.call { callee := Callee.value (Operand.func 25), args := #[Operand.tmp 11, Operand.tmp 
    refine s_callf (both_some a b _ _ _ ha hb div1_calls hbo) FnIs.out rfl (by decide) ?_
    rintro e_ w13 ⟨A13, c13, rfl, hown_, hb_⟩
    refine ⟨_, rfl, ?_⟩
    replace hh := hh.push_new (x := .row _ _ _ _ _ _) hb_ hown_
    refine s_move (ev_tup rfl) (by decide) ?_
    refine s_extract rfl rfl (by decide) ?_
    refine s_extract rfl rfl (by decide) ?_
    refine s_assign (ev_sl rfl) (by decide) ?_
    refine s_assign (ev_bool rfl) (by decide) ?_
    refine wl_end ?_
    refine wc_seq ?_
    refine wc_seq ?_
    refine wc_region ?_
    refine s_move (ev_bool rfl) (by decide) ?_
    refine s_not rfl (by decide) ?_
    refine wl_end ?_
    refine wc_cond_f rfl ?_
    refine wc_skip ?_
    refine k_then ?_
    refine wc_seq ?_
    refine wc_region ?_
    refine s_move (ev_sl rfl) (by decide) ?_
    -- at some 20 := Op.call { callee := Callee.value (Operand.func 9), args := #[Operand.tmp 19], argTypes := 
    refine s_callf (of_calls _ _ _ _ _ (hh.sl_row (i := 0) rfl) (by omega)) FnIs.out rfl (by decide) ?_
    rintro e_ w20 ⟨rfl, hb_⟩
    refine ⟨_, rfl, ?_⟩
    replace hh := hh.ext hb_
    refine s_move (ev_tup rfl) (by decide) ?_
    refine s_extract rfl rfl (by decide) ?_
    refine s_extract rfl rfl (by decide) ?_
    refine s_assign (ev_str rfl) (by decide) ?_
    refine s_assign (ev_int rfl) (by decide) ?_
    refine wl_end ?_
    refine wc_seq ?_
    refine wc_region ?_
    refine s_move (ev_str rfl) (by decide) ?_
    refine s_move (ev_int rfl) (by decide) ?_
    refine s_eql_v rfl rfl (by decide) ?_
    refine s_assign (ev_str rfl) (by decide) ?_
    refine s_assign (ev_bool rfl) (by decide) ?_
    refine wl_end ?_
    refine wc_ret ?_
    -- at ('end', 'ret')
    refine ret2 (by first | exact .inr rfl | exact .inl rfl) rfl rfl rfl ?_
    simp only [divL, hbo]
    exact ⟨rfl, hh.below⟩
end Go.Proofs.Ytgljgalcbbjfgaa
