/- The walks through the document's answer's products of powers. -/
import Derived.Test.YtgljgalcbbjfgaaMono
namespace Go.Proofs.Ytgljgalcbbjfgaa
open Go.RowKit
theorem rof_calls (A : Option Addr) (n c : Nat) (xs : List Int) (w : World) (hsl : Sl w A n 1 (i64s xs)) (hn : n ≤ 100000) :
    Calls Try.prog 10 #[.slice A n c] w fun e w' => e = .returned (.tuple #[.string (str (ofL xs)), .int .i64 (ofE xs)]) ∧ Below w.heap.size w w' := by
  have hlen : xs.length = n := by have := hsl.1; rw [length_i64s] at this; omega
  have hh := Hp.start w
  refine calls_vc (N := 34) (l := [.slice A n c]) Try.func10 rfl rfl (by simp) ?_
  refine wc_seq ?_
  refine wc_region ?_
  refine s_assign (ev_str rfl) (by decide) ?_
  refine s_assign (ev_int rfl) (by decide) ?_
  refine wl_end ?_
  refine wc_seq ?_
  refine wc_region ?_
  refine s_assign (ev_str rfl) (by decide) ?_
  refine wl_end ?_
  refine wc_seq ?_
  refine wc_seq ?_
  refine wc_region ?_
  refine s_assign (ev_int rfl) (by decide) ?_
  refine wl_end ?_
  refine wc_block ?_
  -- at a loop
  refine wc_loop2 [2, 3, 4, 5, 6, 7, 8, 9, 10, 11, 12, 13, 14, 15, 16, 17, 18, 19, 20, 21, 22, 23, 24, 25, 26, 27, 28, 29, 30, 31, 32] 4 5
    (fun b i w' => ∃ (k : Nat), k ≤ n ∧ i = .int .i64 k ∧ b = .string (str ((xs.take k).map toB)) ∧ (xs.take k).all expOk = true ∧ Hp w [] w')
    (fun _ v _ => n - (intOf v).toNat) ?_ ?_
  · exact ⟨0, Nat.zero_le _, rfl, rfl, rfl, hh⟩
  · clear hh
    rintro ρ' b i w' ⟨k, hk, rfl, rfl, hall, hh⟩
    -- 
    by_cases hlt : k < n
    · obtain ⟨x, hx⟩ := get_of_lt (l := xs) (k := k) (by omega)
      obtain ⟨ad, rfl, hr⟩ := (hsl.ext hh.below).at_ (by omega)
      by_cases h0 : x < 0
      · refine wc_seq ?_
        refine wc_seq ?_
        refine wc_region ?_
        refine s_move (ev_int rfl) (by decide) ?_
        refine s_move (ev_sl rfl) (by decide) ?_
        refine s_len_sl UIs.out rfl (by decide) ?_
        first | refine s_lss_t rfl rfl (by omega) (by decide) ?_ | refine s_lss_f rfl rfl (by omega) (by decide) ?_
        refine wl_end ?_
        refine wc_cond_t rfl ?_
        refine wc_skip ?_
        refine k_then ?_
        refine wc_seq ?_
        refine wc_block ?_
        refine wc_seq ?_
        refine wc_seq ?_
        refine wc_region ?_
        refine s_move (ev_sl rfl) (by decide) ?_
        refine s_move (ev_int rfl) (by decide) ?_
        refine s_indexAddr UIs.out TIs.size rfl rfl (by omega) (by omega) (by decide) ?_
        -- at some 15 := Op.load 3 (Operand.tmp 14)
        refine s_load1 TIs.out rfl (rd_elem1 hr (i64s_at hx) rfl) (by decide) ?_
        first | refine s_lss_t rfl rfl (by omega) (by decide) ?_ | refine s_lss_f rfl rfl (by omega) (by decide) ?_
        refine s_move (ev_bool rfl) (by decide) ?_
        first | (refine wl_guard_skip (by decide) rfl rfl (by decide) ?_) | (refine wl_guard_take rfl rfl ?_; (refine s_move (ev_sl rfl) (by decide) ?_)) | (refine wl_guard_skipV (by decide) rfl rfl ?_)
        first | (refine wl_guard_skip (by decide) rfl rfl (by decide) ?_) | (refine wl_guard_take rfl rfl ?_; (refine s_move (ev_int rfl) (by decide) ?_)) | (refine wl_guard_skipV (by decide) rfl rfl ?_)
        first | (refine wl_guard_skip (by decide) rfl rfl (by decide) ?_) | (refine wl_guard_take rfl rfl ?_; (refine s_indexAddr UIs.out TIs.size rfl rfl (by omega) (by omega) (by decide) ?_)) | (refine wl_guard_skipV (by decide) rfl rfl ?_)
        refine wl_guard_skip (by decide) rfl rfl (by decide) ?_
        first | (refine wl_guard_skip (by decide) rfl rfl (by decide) ?_) | (refine wl_guard_take rfl rfl ?_; (first | refine s_gtr_t rfl rfl (by omega) (by decide) ?_ | refine s_gtr_f rfl rfl (by omega) (by decide) ?_)) | (refine wl_guard_skipV (by decide) rfl rfl ?_)
        first | refine s_pick_t rfl (ev_bool rfl) (by decide) ?_ | refine s_pick_f rfl (ev_bool rfl) (by decide) ?_
        refine wl_end ?_
        refine wc_cond_t rfl ?_
        refine wc_seq ?_
        refine wc_region ?_
        refine s_assign (ev_str rfl) (by decide) ?_
        refine s_assign (ev_int rfl) (by decide) ?_
        refine wl_end ?_
        refine wc_ret ?_
        refine k_ret ?_
        refine b_ret ?_
        refine k_ret ?_
        refine k_ret ?_
        refine b_ret ?_
        refine k_ret ?_
        -- at ('end', 'ret')
        refine ret2 (by first | exact .inr rfl | exact .inl rfl) rfl rfl rfl ?_
        obtain ⟨e1, e2⟩ := of_bad hx (by simp [expOk]; omega)
        rw [e1, e2]
        exact ⟨rfl, hh.below⟩
      · by_cases h1 : 127 < x
        · refine wc_seq ?_
          refine wc_seq ?_
          refine wc_region ?_
          refine s_move (ev_int rfl) (by decide) ?_
          refine s_move (ev_sl rfl) (by decide) ?_
          refine s_len_sl UIs.out rfl (by decide) ?_
          first | refine s_lss_t rfl rfl (by omega) (by decide) ?_ | refine s_lss_f rfl rfl (by omega) (by decide) ?_
          refine wl_end ?_
          refine wc_cond_t rfl ?_
          refine wc_skip ?_
          refine k_then ?_
          refine wc_seq ?_
          refine wc_block ?_
          refine wc_seq ?_
          refine wc_seq ?_
          refine wc_region ?_
          refine s_move (ev_sl rfl) (by decide) ?_
          refine s_move (ev_int rfl) (by decide) ?_
          refine s_indexAddr UIs.out TIs.size rfl rfl (by omega) (by omega) (by decide) ?_
          -- at some 15 := Op.load 3 (Operand.tmp 14)
          refine s_load1 TIs.out rfl (rd_elem1 hr (i64s_at hx) rfl) (by decide) ?_
          first | refine s_lss_t rfl rfl (by omega) (by decide) ?_ | refine s_lss_f rfl rfl (by omega) (by decide) ?_
          refine s_move (ev_bool rfl) (by decide) ?_
          first | (refine wl_guard_skip (by decide) rfl rfl (by decide) ?_) | (refine wl_guard_take rfl rfl ?_; (refine s_move (ev_sl rfl) (by decide) ?_)) | (refine wl_guard_skipV (by decide) rfl rfl ?_)
          first | (refine wl_guard_skip (by decide) rfl rfl (by decide) ?_) | (refine wl_guard_take rfl rfl ?_; (refine s_move (ev_int rfl) (by decide) ?_)) | (refine wl_guard_skipV (by decide) rfl rfl ?_)
          first | (refine wl_guard_skip (by decide) rfl rfl (by decide) ?_) | (refine wl_guard_take rfl rfl ?_; (refine s_indexAddr UIs.out TIs.size rfl rfl (by omega) (by omega) (by decide) ?_)) | (refine wl_guard_skipV (by decide) rfl rfl ?_)
          -- at guarded Op.load 3 (Operand.tmp 20)
          refine wl_guard_take rfl rfl (s_load1 TIs.out rfl (rd_elem1 hr (i64s_at hx) rfl) (by decide) ?_)
          first | (refine wl_guard_skip (by decide) rfl rfl (by decide) ?_) | (refine wl_guard_take rfl rfl ?_; (first | refine s_gtr_t rfl rfl (by omega) (by decide) ?_ | refine s_gtr_f rfl rfl (by omega) (by decide) ?_)) | (refine wl_guard_skipV (by decide) rfl rfl ?_)
          first | refine s_pick_t rfl (ev_bool rfl) (by decide) ?_ | refine s_pick_f rfl (ev_bool rfl) (by decide) ?_
          refine wl_end ?_
          refine wc_cond_t rfl ?_
          refine wc_seq ?_
          refine wc_region ?_
          refine s_assign (ev_str rfl) (by decide) ?_
          refine s_assign (ev_int rfl) (by decide) ?_
          refine wl_end ?_
          refine wc_ret ?_
          refine k_ret ?_
          refine b_ret ?_
          refine k_ret ?_
          refine k_ret ?_
          refine b_ret ?_
          refine k_ret ?_
          -- at ('end', 'ret')
          refine ret2 (by first | exact .inr rfl | exact .inl rfl) rfl rfl rfl ?_
          obtain ⟨e1, e2⟩ := of_bad hx (by simp [expOk]; omega)
          rw [e1, e2]
          exact ⟨rfl, hh.below⟩
        · have hok : expOk x = true := by simp [expOk]; omega
          refine wc_seq ?_
          refine wc_seq ?_
          refine wc_region ?_
          refine s_move (ev_int rfl) (by decide) ?_
          refine s_move (ev_sl rfl) (by decide) ?_
          refine s_len_sl UIs.out rfl (by decide) ?_
          first | refine s_lss_t rfl rfl (by omega) (by decide) ?_ | refine s_lss_f rfl rfl (by omega) (by decide) ?_
          refine wl_end ?_
          refine wc_cond_t rfl ?_
          refine wc_skip ?_
          refine k_then ?_
          refine wc_seq ?_
          refine wc_block ?_
          refine wc_seq ?_
          refine wc_seq ?_
          refine wc_region ?_
          refine s_move (ev_sl rfl) (by decide) ?_
          refine s_move (ev_int rfl) (by decide) ?_
          refine s_indexAddr UIs.out TIs.size rfl rfl (by omega) (by omega) (by decide) ?_
          -- at some 15 := Op.load 3 (Operand.tmp 14)
          refine s_load1 TIs.out rfl (rd_elem1 hr (i64s_at hx) rfl) (by decide) ?_
          first | refine s_lss_t rfl rfl (by omega) (by decide) ?_ | refine s_lss_f rfl rfl (by omega) (by decide) ?_
          refine s_move (ev_bool rfl) (by decide) ?_
          first | (refine wl_guard_skip (by decide) rfl rfl (by decide) ?_) | (refine wl_guard_take rfl rfl ?_; (refine s_move (ev_sl rfl) (by decide) ?_)) | (refine wl_guard_skipV (by decide) rfl rfl ?_)
          first | (refine wl_guard_skip (by decide) rfl rfl (by decide) ?_) | (refine wl_guard_take rfl rfl ?_; (refine s_move (ev_int rfl) (by decide) ?_)) | (refine wl_guard_skipV (by decide) rfl rfl ?_)
          first | (refine wl_guard_skip (by decide) rfl rfl (by decide) ?_) | (refine wl_guard_take rfl rfl ?_; (refine s_indexAddr UIs.out TIs.size rfl rfl (by omega) (by omega) (by decide) ?_)) | (refine wl_guard_skipV (by decide) rfl rfl ?_)
          -- at guarded Op.load 3 (Operand.tmp 20)
          refine wl_guard_take rfl rfl (s_load1 TIs.out rfl (rd_elem1 hr (i64s_at hx) rfl) (by decide) ?_)
          first | (refine wl_guard_skip (by decide) rfl rfl (by decide) ?_) | (refine wl_guard_take rfl rfl ?_; (first | refine s_gtr_t rfl rfl (by omega) (by decide) ?_ | refine s_gtr_f rfl rfl (by omega) (by decide) ?_)) | (refine wl_guard_skipV (by decide) rfl rfl ?_)
          first | refine s_pick_t rfl (ev_bool rfl) (by decide) ?_ | refine s_pick_f rfl (ev_bool rfl) (by decide) ?_
          refine wl_end ?_
          refine wc_cond_f rfl ?_
          refine wc_skip ?_
          refine k_then ?_
          refine wc_region ?_
          refine s_move (ev_str rfl) (by decide) ?_
          refine s_move (ev_sl rfl) (by decide) ?_
          refine s_move (ev_int rfl) (by decide) ?_
          refine s_indexAddr UIs.out TIs.size rfl rfl (by omega) (by omega) (by decide) ?_
          -- at some 28 := Op.load 3 (Operand.tmp 27)
          refine s_load1 TIs.out rfl (rd_elem1 hr (i64s_at hx) rfl) (by decide) ?_
          refine s_conv_int UIs.out UIs.out rfl (by decide) ?_
          refine wl_buildSlice hh (cs := [_]) UIs.out TIs.out (evp_cons (ev_int rfl) evp_nil) rfl rfl (by decide) (by decide) (by decide) rfl (by decide) ?_
          intro b30 w30 hh
          -- at some 31 := Op.convert 43 9 (Operand.tmp 30)
          rw [wrap_u8 (by omega) (by omega)] at hh
          have hsl1 : Sl w30 (some ⟨b30, 0, none⟩) 1 1 (u8s [toB x]) := by
            have := hh.sl_row (i := 0) rfl
            rw [toB_val hok] at this
            exact this
          refine s_bytes_str UIs.out UIs.out UIs.out rfl (hsl1) (by decide) ?_
          replace hh := hh.sub (List.sublist_cons_self _ _)
          refine s_cat rfl rfl (by rw [str_size]; show _ + 1 ≤ _; simp; omega) (by decide) ?_
          refine s_assign (ev_str rfl) (by decide) ?_
          refine wl_nil ?_
          refine b_norm ?_
          refine k_then ?_
          refine wc_region ?_
          refine s_move (ev_int rfl) (by decide) ?_
          refine s_addi rfl rfl (by omega) (by omega) (by decide) ?_
          refine s_assign (ev_int rfl) (by decide) ?_
          refine wl_nil ?_
          refine k_then ?_
          -- at ('round',)
          have e0 : str ((xs.take k).map toB) ++ ByteArray.mk #[toB x] = str ((xs.take (k + 1)).map toB) := by
            rw [show ByteArray.mk #[toB x] = str [toB x] from rfl, str_append, take_snoc hx, List.map_append]; rfl
          refine ⟨⟨k + 1, by omega, rfl, congrArg Value.string e0, all_snoc hx hall hok, hh⟩, by show n - (k + 1) < n - k; omega, ?_⟩
          (repeat (first | exact agree_mask _ _ _ | refine agree_upd rfl ?_ | refine agree_mask2 rfl ?_))
    · obtain rfl : k = n := by omega
      rw [List.take_of_length_le (by omega)] at hall
      obtain ⟨e1, e2⟩ := of_good hall
      refine wc_seq ?_
      refine wc_seq ?_
      refine wc_region ?_
      refine s_move (ev_int rfl) (by decide) ?_
      refine s_move (ev_sl rfl) (by decide) ?_
      refine s_len_sl UIs.out rfl (by decide) ?_
      first | refine s_lss_t rfl rfl (by omega) (by decide) ?_ | refine s_lss_f rfl rfl (by omega) (by decide) ?_
      refine wl_end ?_
      refine wc_cond_f rfl ?_
      refine wc_exit ?_
      refine k_exit ?_
      refine k_exit ?_
      refine b_here ?_
      refine k_then ?_
      refine wc_seq ?_
      refine wc_region ?_
      refine s_move (ev_str rfl) (by decide) ?_
      refine s_assign (ev_str rfl) (by decide) ?_
      refine s_assign (ev_int rfl) (by decide) ?_
      refine wl_end ?_
      refine wc_ret ?_
      -- at ('end', 'ret')
      refine ret2 (by first | exact .inr rfl | exact .inl rfl) rfl rfl rfl ?_
      rw [e1, e2, List.take_of_length_le (by omega)]
      exact ⟨rfl, hh.below⟩
theorem rmay_self (s : ByteArray) (w : World) (hs : s.size ≤ 9223372036854775807) :
    Calls Try.prog 17 #[.string s, .int .i64 s.size] w fun e w' => e = .returned (.bool (mayB s.data.toList)) ∧ Below w.heap.size w w' := by
  have h := rmay_calls s s.size w hs
  simpa using h
theorem rexps_calls (s : ByteArray) (w : World) (hs : s.size ≤ 100000) :
    Calls Try.prog 13 #[.string s] w fun e w' => ∃ A c, e = .returned (.slice A (expsL s.data.toList).length c) ∧ w'.ownsRow w.heap.size 3 1 (.slice A (expsL s.data.toList).length c) (expsL s.data.toList).length (i64s (expsL s.data.toList)) ∧ Below w.heap.size w w' := by
  have hh := Hp.start w
  have hsz := ba_size s
  cases hm : mayB s.data.toList with
  | false =>
    refine calls_vc (N := 24) (l := [.string s]) Try.func13 rfl rfl (by simp) ?_
    refine wc_seq ?_
    refine wc_region ?_
    refine s_assign (ev_sl rfl) (by decide) ?_
    refine wl_end ?_
    refine wc_seq ?_
    refine wc_seq ?_
    refine wc_region ?_
    refine s_move (ev_str rfl) (by decide) ?_
    refine s_move (ev_str rfl) (by decide) ?_
    refine s_len_str UIs.out rfl (by decide) ?_
    -- at some 8 := Op.call { callee := Callee.value (Operand.func 17), args := #[Operand.tmp 5, Operand.tmp 7
    refine s_callf (rmay_self s _ (by omega)) FnIs.out rfl (by decide) ?_
    rintro e_ w8 ⟨rfl, hb_⟩
    refine ⟨_, rfl, ?_⟩
    replace hh := hh.ext hb_
    rw [hm]
    refine s_not rfl (by decide) ?_
    refine wl_end ?_
    refine wc_cond_t rfl ?_
    refine wc_seq ?_
    refine wc_region ?_
    refine s_assign (ev_sl rfl) (by decide) ?_
    refine wl_end ?_
    refine wc_ret ?_
    refine k_ret ?_
    -- at ('end', 'ret')
    refine ret1 (by first | exact .inr rfl | exact .inl rfl) rfl rfl ?_
    rw [exps_bad hm]
    exact ⟨none, 0, rfl, World.ownsRow_nil _ _ _ _, hh.below⟩
  | true =>
    refine calls_vc (N := 24) (l := [.string s]) Try.func13 rfl rfl (by simp) ?_
    refine wc_seq ?_
    refine wc_region ?_
    refine s_assign (ev_sl rfl) (by decide) ?_
    refine wl_end ?_
    refine wc_seq ?_
    refine wc_seq ?_
    refine wc_region ?_
    refine s_move (ev_str rfl) (by decide) ?_
    refine s_move (ev_str rfl) (by decide) ?_
    refine s_len_str UIs.out rfl (by decide) ?_
    -- at some 8 := Op.call { callee := Callee.value (Operand.func 17), args := #[Operand.tmp 5, Operand.tmp 7
    refine s_callf (rmay_self s _ (by omega)) FnIs.out rfl (by decide) ?_
    rintro e_ w8 ⟨rfl, hb_⟩
    refine ⟨_, rfl, ?_⟩
    replace hh := hh.ext hb_
    rw [hm]
    refine s_not rfl (by decide) ?_
    refine wl_end ?_
    refine wc_cond_f rfl ?_
    refine wc_skip ?_
    refine k_then ?_
    refine wc_seq ?_
    refine wc_region ?_
    refine s_assign (ev_sl rfl) (by decide) ?_
    refine wl_end ?_
    refine wc_seq ?_
    refine wc_seq ?_
    refine wc_region ?_
    refine s_assign (ev_int rfl) (by decide) ?_
    refine wl_end ?_
    refine wc_block ?_
    -- at a loop
    refine wc_loop2 [3, 4, 10, 11, 12, 13, 14, 15, 16, 17, 18, 19, 20, 21, 22] 3 4
      (fun v i w' => ∃ (k c' : Nat) (A' : Option Addr), k ≤ s.size ∧ i = .int .i64 k ∧ v = .slice A' k c' ∧ Hp w [.row A' k c' 3 1 (i64s (ints (s.data.toList.take k)))] w')
      (fun _ i _ => s.size - (intOf i).toNat) ?_ ?_
    · exact ⟨0, 0, none, Nat.zero_le _, rfl, rfl, hh.nil_row _ _⟩
    · clear hh
      rintro ρ' v i w' ⟨k, c', A', hk, rfl, rfl, hh⟩
      -- 
      -- 
      by_cases hlt : k < s.size
      · obtain ⟨c, hc⟩ := get_of_lt (l := s.data.toList) (k := k) (by omega)
        have h8 := mayB_at hm hc
        refine wc_seq ?_
        refine wc_seq ?_
        refine wc_region ?_
        refine s_move (ev_int rfl) (by decide) ?_
        refine s_move (ev_str rfl) (by decide) ?_
        refine s_len_str UIs.out rfl (by decide) ?_
        first | refine s_lss_t rfl rfl (by omega) (by decide) ?_ | refine s_lss_f rfl rfl (by omega) (by decide) ?_
        refine wl_end ?_
        refine wc_cond_t rfl ?_
        refine wc_skip ?_
        refine k_then ?_
        refine wc_seq ?_
        refine wc_block ?_
        refine wc_region ?_
        refine s_move (ev_sl rfl) (by decide) ?_
        refine s_move (ev_str rfl) (by decide) ?_
        refine s_move (ev_int rfl) (by decide) ?_
        refine s_index_str UIs.out rfl rfl (by omega) (by assumption) (by decide) ?_
        refine s_conv_i64 UIs.out UIs.out rfl (by omega) (by omega) (by decide) ?_
        refine wl_buildSlice hh (cs := [_]) UIs.out TIs.out (evp_cons (ev_int rfl) evp_nil) rfl rfl (by decide) (by decide) (by decide) rfl (by decide) ?_
        intro b21 w21 hh
        refine wl_append hh (i := 1) rfl rfl rfl (hh.sl_row (i := 0) rfl) UIs.out TIs.out rfl (by decide) rfl (by omega) (by omega) (by decide) ?_
        intro A22 c22 w22 hh
        simp only [List.set_cons_zero, List.set_cons_succ] at hh
        replace hh := hh.sub (List.sublist_cons_self _ _)
        refine s_assign (ev_sl rfl) (by decide) ?_
        refine wl_nil ?_
        refine b_norm ?_
        refine k_then ?_
        refine wc_region ?_
        refine s_move (ev_int rfl) (by decide) ?_
        refine s_addi rfl rfl (by omega) (by omega) (by decide) ?_
        refine s_assign (ev_int rfl) (by decide) ?_
        refine wl_nil ?_
        refine k_then ?_
        -- at ('round',)
        rw [i64s_ints_snoc hc] at hh
        refine ⟨⟨k + 1, c22, A22, by omega, rfl, rfl, hh⟩, by show s.size - (k + 1) < s.size - k; omega, ?_⟩
        (repeat (first | exact agree_mask _ _ _ | refine agree_upd rfl ?_ | refine agree_mask2 rfl ?_))
      · refine wc_seq ?_
        refine wc_seq ?_
        refine wc_region ?_
        refine s_move (ev_int rfl) (by decide) ?_
        refine s_move (ev_str rfl) (by decide) ?_
        refine s_len_str UIs.out rfl (by decide) ?_
        first | refine s_lss_t rfl rfl (by omega) (by decide) ?_ | refine s_lss_f rfl rfl (by omega) (by decide) ?_
        refine wl_end ?_
        refine wc_cond_f rfl ?_
        refine wc_exit ?_
        refine k_exit ?_
        refine k_exit ?_
        refine b_here ?_
        refine k_then ?_
        refine wc_seq ?_
        refine wc_region ?_
        refine s_move (ev_sl rfl) (by decide) ?_
        refine s_assign (ev_sl rfl) (by decide) ?_
        refine wl_end ?_
        refine wc_ret ?_
        -- at ('end', 'ret')
        refine ret1 (by first | exact .inr rfl | exact .inl rfl) rfl rfl ?_
        obtain rfl : k = s.size := by omega
        rw [List.take_of_length_le (by omega)] at hh
        have h1 := hh.at_ (i := 0) rfl
        rw [exps_good hm, length_ints, ← hsz]
        exact ⟨A', c', rfl, h1, hh.below⟩
theorem rdegree_calls (s : ByteArray) (w : World) (hs : s.size ≤ 100000) :
    Calls Try.prog 15 #[.string s] w fun e w' => e = .returned (.int .i64 (degL s.data.toList)) ∧ Below w.heap.size w w' := by
  have hh := Hp.start w
  have hsz := ba_size s
  have hle := length_exps s.data.toList
  have hbd := sum_bd (l := expsL s.data.toList) 127 (by omega) (fun _ _ h => exps_bd h)
  refine calls_vc (N := 21) (l := [.string s]) Try.func15 rfl rfl (by simp) ?_
  refine wc_seq ?_
  refine wc_region ?_
  refine s_assign (ev_int rfl) (by decide) ?_
  refine wl_end ?_
  refine wc_seq ?_
  refine wc_region ?_
  refine s_assign (ev_int rfl) (by decide) ?_
  refine wl_end ?_
  refine wc_seq ?_
  refine wc_region ?_
  refine s_move (ev_str rfl) (by decide) ?_
  -- at some 7 := Op.call { callee := Callee.value (Operand.func 13), args := #[Operand.tmp 6], argTypes := 
  refine s_callf (rexps_calls s _ hs) FnIs.out rfl (by decide) ?_
  rintro e_ w7 ⟨A7, c7, rfl, hown_, hb_⟩
  refine ⟨_, rfl, ?_⟩
  replace hh := hh.push_new (x := .row _ _ _ _ _ _) hb_ hown_
  refine s_assign (ev_sl rfl) (by decide) ?_
  refine wl_end ?_
  refine wc_seq ?_
  refine wc_seq ?_
  refine wc_region ?_
  refine s_assign (ev_int rfl) (by decide) ?_
  refine wl_end ?_
  refine wc_block ?_
  -- at a loop
  refine wc_loop2 [3, 5, 8, 9, 10, 11, 12, 13, 14, 15, 16, 17, 18, 19] 3 5
    (fun v i w' => ∃ k : Nat, k ≤ (expsL s.data.toList).length ∧ i = .int .i64 k ∧ v = .int .i64 ((expsL s.data.toList).take k).sum ∧ w' = w7)
    (fun _ i _ => (expsL s.data.toList).length - (intOf i).toNat) ?_ ?_
  · exact ⟨0, Nat.zero_le _, rfl, rfl, rfl⟩
  · rintro ρ' v i w' ⟨k, hk, rfl, rfl, rfl⟩
    have hb1 := hbd k
    by_cases hlt : k < (expsL s.data.toList).length
    · obtain ⟨x, hx⟩ := get_of_lt hlt
      have hbx := exps_bd hx
      have hx2 := i64s_at hx
      obtain ⟨g, rfl⟩ := hh.row_some (i := 0) rfl (by omega)
      refine wc_seq ?_
      refine wc_seq ?_
      refine wc_region ?_
      refine s_move (ev_int rfl) (by decide) ?_
      refine s_move (ev_sl rfl) (by decide) ?_
      refine s_len_sl UIs.out rfl (by decide) ?_
      first | refine s_lss_t rfl rfl (by omega) (by decide) ?_ | refine s_lss_f rfl rfl (by omega) (by decide) ?_
      refine wl_end ?_
      refine wc_cond_t rfl ?_
      refine wc_skip ?_
      refine k_then ?_
      refine wc_seq ?_
      refine wc_block ?_
      refine wc_region ?_
      refine s_move (ev_int rfl) (by decide) ?_
      refine s_move (ev_sl rfl) (by decide) ?_
      refine s_move (ev_int rfl) (by decide) ?_
      refine s_indexRow UIs.out TIs.size rfl rfl rfl (by omega) (by decide) ?_
      refine s_load1 TIs.out rfl (hh.cell_row (i := 0) rfl (by first | assumption | (simp only [Nat.mul_one]; assumption))) (by decide) ?_
      refine s_addi rfl rfl (by omega) (by omega) (by decide) ?_
      refine s_assign (ev_int rfl) (by decide) ?_
      refine wl_nil ?_
      refine b_norm ?_
      refine k_then ?_
      refine wc_region ?_
      refine s_move (ev_int rfl) (by decide) ?_
      refine s_addi rfl rfl (by omega) (by omega) (by decide) ?_
      refine s_assign (ev_int rfl) (by decide) ?_
      refine wl_nil ?_
      refine k_then ?_
      -- at ('round',)
      refine ⟨⟨k + 1, by omega, rfl, by rw [sum_snoc hx]; rfl, rfl⟩, by show _ - (k + 1) < _ - k; omega, ?_⟩
      (repeat (first | exact agree_mask _ _ _ | refine agree_upd rfl ?_ | refine agree_mask2 rfl ?_))
    · refine wc_seq ?_
      refine wc_seq ?_
      refine wc_region ?_
      refine s_move (ev_int rfl) (by decide) ?_
      refine s_move (ev_sl rfl) (by decide) ?_
      refine s_len_sl UIs.out rfl (by decide) ?_
      first | refine s_lss_t rfl rfl (by omega) (by decide) ?_ | refine s_lss_f rfl rfl (by omega) (by decide) ?_
      refine wl_end ?_
      refine wc_cond_f rfl ?_
      refine wc_exit ?_
      refine k_exit ?_
      refine k_exit ?_
      refine b_here ?_
      refine k_then ?_
      refine wc_seq ?_
      refine wc_region ?_
      refine s_move (ev_int rfl) (by decide) ?_
      refine s_assign (ev_int rfl) (by decide) ?_
      refine wl_end ?_
      refine wc_ret ?_
      -- at ('end', 'ret')
      refine ret1 (by first | exact .inr rfl | exact .inl rfl) rfl rfl ?_
      rw [List.take_of_length_le (by omega)]
      exact ⟨rfl, hh.below⟩
theorem rmul_calls (a b : ByteArray) (w : World) (ha : a.size ≤ 100000) (hb : b.size ≤ 100000) :
    Calls Try.prog 19 #[.string a, .string b] w fun e w' => e = .returned (.tuple #[.string (str (mulL a.data.toList b.data.toList).1), .int .i64 (mulL a.data.toList b.data.toList).2]) ∧ Below w.heap.size w w' := by
  have hh := Hp.start w
  have hsa := ba_size a
  have hsb := ba_size b
  cases hma : mayB a.data.toList with
  | false =>
    refine calls_vc (N := 42) (l := [.string a, .string b]) Try.func19 rfl rfl (by simp) ?_
    refine wc_seq ?_
    refine wc_region ?_
    refine s_assign (ev_str rfl) (by decide) ?_
    refine s_assign (ev_int rfl) (by decide) ?_
    refine wl_end ?_
    refine wc_seq ?_
    refine wc_seq ?_
    refine wc_region ?_
    refine s_move (ev_str rfl) (by decide) ?_
    refine s_move (ev_str rfl) (by decide) ?_
    refine s_len_str UIs.out rfl (by decide) ?_
    -- at some 11 := Op.call { callee := Callee.value (Operand.func 17), args := #[Operand.tmp 8, Operand.tmp 1
    refine s_callf (rmay_self a _ (by omega)) FnIs.out rfl (by decide) ?_
    rintro e_ w11 ⟨rfl, hb_⟩
    refine ⟨_, rfl, ?_⟩
    replace hh := hh.ext hb_
    rw [hma]
    refine s_not rfl (by decide) ?_
    refine s_move (ev_bool rfl) (by decide) ?_
    first | (refine wl_guard_skip (by decide) rfl rfl (by decide) ?_) | (refine wl_guard_take rfl rfl ?_; (refine s_move (ev_str rfl) (by decide) ?_)) | (refine wl_guard_skipV (by decide) rfl rfl ?_)
    first | (refine wl_guard_skip (by decide) rfl rfl (by decide) ?_) | (refine wl_guard_take rfl rfl ?_; (refine s_move (ev_str rfl) (by decide) ?_)) | (refine wl_guard_skipV (by decide) rfl rfl ?_)
    first | (refine wl_guard_skip (by decide) rfl rfl (by decide) ?_) | (refine wl_guard_take rfl rfl ?_; (refine s_len_str UIs.out rfl (by decide) ?_)) | (refine wl_guard_skipV (by decide) rfl rfl ?_)
    refine wl_guard_skip (by decide) rfl rfl (by decide) ?_
    first | (refine wl_guard_skip (by decide) rfl rfl (by decide) ?_) | (refine wl_guard_take rfl rfl ?_; (refine s_not rfl (by decide) ?_)) | (refine wl_guard_skipV (by decide) rfl rfl ?_)
    first | refine s_pick_t rfl (ev_bool rfl) (by decide) ?_ | refine s_pick_f rfl (ev_bool rfl) (by decide) ?_
    refine wl_end ?_
    refine wc_cond_t rfl ?_
    refine wc_seq ?_
    refine wc_region ?_
    refine s_assign (ev_str rfl) (by decide) ?_
    refine s_assign (ev_int rfl) (by decide) ?_
    refine wl_end ?_
    refine wc_ret ?_
    refine k_ret ?_
    -- at ('end', 'ret')
    refine ret2 (by first | exact .inr rfl | exact .inl rfl) rfl rfl rfl ?_
    have : bothL (· + ·) a.data.toList b.data.toList = none := by simp [bothL, hma]
    simp only [mulL, this]
    exact ⟨rfl, hh.below⟩
  | true =>
    cases hmb : (mayB b.data.toList && decide ((b.size : Int) = a.size)) with
    | false =>
      refine calls_vc (N := 42) (l := [.string a, .string b]) Try.func19 rfl rfl (by simp) ?_
      refine wc_seq ?_
      refine wc_region ?_
      refine s_assign (ev_str rfl) (by decide) ?_
      refine s_assign (ev_int rfl) (by decide) ?_
      refine wl_end ?_
      refine wc_seq ?_
      refine wc_seq ?_
      refine wc_region ?_
      refine s_move (ev_str rfl) (by decide) ?_
      refine s_move (ev_str rfl) (by decide) ?_
      refine s_len_str UIs.out rfl (by decide) ?_
      -- at some 11 := Op.call { callee := Callee.value (Operand.func 17), args := #[Operand.tmp 8, Operand.tmp 1
      refine s_callf (rmay_self a _ (by omega)) FnIs.out rfl (by decide) ?_
      rintro e_ w11 ⟨rfl, hb_⟩
      refine ⟨_, rfl, ?_⟩
      replace hh := hh.ext hb_
      rw [hma]
      refine s_not rfl (by decide) ?_
      refine s_move (ev_bool rfl) (by decide) ?_
      first | (refine wl_guard_skip (by decide) rfl rfl (by decide) ?_) | (refine wl_guard_take rfl rfl ?_; (refine s_move (ev_str rfl) (by decide) ?_)) | (refine wl_guard_skipV (by decide) rfl rfl ?_)
      first | (refine wl_guard_skip (by decide) rfl rfl (by decide) ?_) | (refine wl_guard_take rfl rfl ?_; (refine s_move (ev_str rfl) (by decide) ?_)) | (refine wl_guard_skipV (by decide) rfl rfl ?_)
      first | (refine wl_guard_skip (by decide) rfl rfl (by decide) ?_) | (refine wl_guard_take rfl rfl ?_; (refine s_len_str UIs.out rfl (by decide) ?_)) | (refine wl_guard_skipV (by decide) rfl rfl ?_)
      -- at guarded Op.call { callee := Callee.value (Operand.func 17), args := #[Operand.tmp 14, Op
      refine wl_guard_take rfl rfl ?_
      refine s_callf (rmay_calls b _ _ (by omega)) FnIs.out rfl (by decide) ?_
      rintro e_ w17 ⟨rfl, hb_⟩
      refine ⟨_, rfl, ?_⟩
      replace hh := hh.ext hb_
      rw [hmb]
      first | (refine wl_guard_skip (by decide) rfl rfl (by decide) ?_) | (refine wl_guard_take rfl rfl ?_; (refine s_not rfl (by decide) ?_)) | (refine wl_guard_skipV (by decide) rfl rfl ?_)
      first | refine s_pick_t rfl (ev_bool rfl) (by decide) ?_ | refine s_pick_f rfl (ev_bool rfl) (by decide) ?_
      refine wl_end ?_
      refine wc_cond_t rfl ?_
      refine wc_seq ?_
      refine wc_region ?_
      refine s_assign (ev_str rfl) (by decide) ?_
      refine s_assign (ev_int rfl) (by decide) ?_
      refine wl_end ?_
      refine wc_ret ?_
      refine k_ret ?_
      -- at ('end', 'ret')
      refine ret2 (by first | exact .inr rfl | exact .inl rfl) rfl rfl rfl ?_
      have h2 : (mayB b.data.toList && decide ((b.data.toList.length : Int) = a.data.toList.length)) = false := by rw [← hsa, ← hsb]; exact hmb
      have : bothL (· + ·) a.data.toList b.data.toList = none := by simp only [bothL, hma, h2]; rfl
      simp only [mulL, this]
      exact ⟨rfl, hh.below⟩
    | true =>
      have hmb2 := hmb
      simp only [Bool.and_eq_true, decide_eq_true_eq] at hmb2
      have hbl : bothL (· + ·) a.data.toList b.data.toList = some (List.zipWith (· + ·) (ints a.data.toList) (ints b.data.toList)) := by
        have : (mayB b.data.toList && decide ((b.data.toList.length : Int) = a.data.toList.length)) = true := by rw [← hsa, ← hsb]; exact hmb
        simp only [bothL, hma, this]; rfl
      have hzl : (List.zipWith (· + ·) (ints a.data.toList) (ints b.data.toList)).length = a.size := by simp [ints]; omega
      refine calls_vc (N := 42) (l := [.string a, .string b]) Try.func19 rfl rfl (by simp) ?_
      refine wc_seq ?_
      refine wc_region ?_
      refine s_assign (ev_str rfl) (by decide) ?_
      refine s_assign (ev_int rfl) (by decide) ?_
      refine wl_end ?_
      refine wc_seq ?_
      refine wc_seq ?_
      refine wc_region ?_
      refine s_move (ev_str rfl) (by decide) ?_
      refine s_move (ev_str rfl) (by decide) ?_
      refine s_len_str UIs.out rfl (by decide) ?_
      -- at some 11 := Op.call { callee := Callee.value (Operand.func 17), args := #[Operand.tmp 8, Operand.tmp 1
      refine s_callf (rmay_self a _ (by omega)) FnIs.out rfl (by decide) ?_
      rintro e_ w11 ⟨rfl, hb_⟩
      refine ⟨_, rfl, ?_⟩
      replace hh := hh.ext hb_
      rw [hma]
      refine s_not rfl (by decide) ?_
      refine s_move (ev_bool rfl) (by decide) ?_
      first | (refine wl_guard_skip (by decide) rfl rfl (by decide) ?_) | (refine wl_guard_take rfl rfl ?_; (refine s_move (ev_str rfl) (by decide) ?_)) | (refine wl_guard_skipV (by decide) rfl rfl ?_)
      first | (refine wl_guard_skip (by decide) rfl rfl (by decide) ?_) | (refine wl_guard_take rfl rfl ?_; (refine s_move (ev_str rfl) (by decide) ?_)) | (refine wl_guard_skipV (by decide) rfl rfl ?_)
      first | (refine wl_guard_skip (by decide) rfl rfl (by decide) ?_) | (refine wl_guard_take rfl rfl ?_; (refine s_len_str UIs.out rfl (by decide) ?_)) | (refine wl_guard_skipV (by decide) rfl rfl ?_)
      -- at guarded Op.call { callee := Callee.value (Operand.func 17), args := #[Operand.tmp 14, Op
      refine wl_guard_take rfl rfl ?_
      refine s_callf (rmay_calls b _ _ (by omega)) FnIs.out rfl (by decide) ?_
      rintro e_ w17 ⟨rfl, hb_⟩
      refine ⟨_, rfl, ?_⟩
      replace hh := hh.ext hb_
      rw [hmb]
      first | (refine wl_guard_skip (by decide) rfl rfl (by decide) ?_) | (refine wl_guard_take rfl rfl ?_; (refine s_not rfl (by decide) ?_)) | (refine wl_guard_skipV (by decide) rfl rfl ?_)
      first | refine s_pick_t rfl (ev_bool rfl) (by decide) ?_ | refine s_pick_f rfl (ev_bool rfl) (by decide) ?_
      refine wl_end ?_
      refine wc_cond_f rfl ?_
      refine wc_skip ?_
      refine k_then ?_
      refine wc_seq ?_
      refine wc_region ?_
      refine s_assign (ev_sl rfl) (by decide) ?_
      refine wl_end ?_
      refine wc_seq ?_
      refine wc_seq ?_
      refine wc_region ?_
      refine s_assign (ev_int rfl) (by decide) ?_
      refine wl_end ?_
      refine wc_block ?_
      -- at a loop
      refine wc_loop2 [6, 7, 20, 21, 22, 23, 24, 25, 26, 27, 28, 29, 30, 31, 32, 33, 34, 35, 36, 37] 6 7
        (fun v i w' => ∃ (k c' : Nat) (A' : Option Addr), k ≤ a.size ∧ i = .int .i64 k ∧ v = .slice A' k c' ∧ Hp w [.row A' k c' 3 1 (i64s ((List.zipWith (· + ·) (ints a.data.toList) (ints b.data.toList)).take k))] w')
        (fun _ i _ => a.size - (intOf i).toNat) ?_ ?_
      · exact ⟨0, 0, none, Nat.zero_le _, rfl, rfl, hh.nil_row _ _⟩
      · clear hh
        rintro ρ' v i w' ⟨k, c', A', hk, rfl, rfl, hh⟩
        -- 
        -- 
        by_cases hlt : k < a.size
        · obtain ⟨x, hx⟩ := get_of_lt (l := a.data.toList) (k := k) (by omega)
          obtain ⟨y, hy⟩ := get_of_lt (l := b.data.toList) (k := k) (by omega)
          have bx := mayB_at hma hx
          have byy := mayB_at hmb2.1 hy
          refine wc_seq ?_
          refine wc_seq ?_
          refine wc_region ?_
          refine s_move (ev_int rfl) (by decide) ?_
          refine s_move (ev_str rfl) (by decide) ?_
          refine s_len_str UIs.out rfl (by decide) ?_
          first | refine s_lss_t rfl rfl (by omega) (by decide) ?_ | refine s_lss_f rfl rfl (by omega) (by decide) ?_
          refine wl_end ?_
          refine wc_cond_t rfl ?_
          refine wc_skip ?_
          refine k_then ?_
          refine wc_seq ?_
          refine wc_block ?_
          -- at the drawn region 7
          refine wc_drawn 11 [[(6, none)], [(0, none)], [(7, none)], [(27, some 1), (28, some 2)], [(29, some 3)], [(1, none)], [(7, none)], [(31, some 5), (32, some 6)], [(33, some 7)], [(30, some 4), (34, some 8)], [(35, some 9)]] [(10, 36), (9, 35), (8, 34), (7, 33), (6, 32), (5, 31), (4, 30), (3, 29), (2, 28), (1, 27), (0, 26)] hh mixed (by kernel_rfl) ?_
          refine dx_val (i := 0) (fun ρ1 w1 hj hR => x_move (show ρ1 6 = Value.slice _ _ _ from hR.1)) ?_
          refine dx_val (i := 1) (fun ρ1 w1 hj hR => x_move (show ρ1 0 = Value.string _ from hR.1)) ?_
          refine dx_val (i := 2) (fun ρ1 w1 hj hR => x_move (show ρ1 7 = Value.int _ _ from hR.1)) ?_
          refine dx_val (i := 3) (fun ρ1 w1 hj hR => x_index_str UIs.out (show ρ1 27 = Value.string _ from hR.1) (show ρ1 28 = Value.int _ _ from hR.2.1) (by omega) (by assumption)) ?_
          refine dx_val (i := 4) (fun ρ1 w1 hj hR => x_conv_i64 UIs.out UIs.out (show ρ1 29 = Value.int _ _ from hR.1) (by omega) (by omega)) ?_
          refine dx_val (i := 5) (fun ρ1 w1 hj hR => x_move (show ρ1 1 = Value.string _ from hR.1)) ?_
          refine dx_val (i := 6) (fun ρ1 w1 hj hR => x_move (show ρ1 7 = Value.int _ _ from hR.1)) ?_
          refine dx_val (i := 7) (fun ρ1 w1 hj hR => x_index_str UIs.out (show ρ1 31 = Value.string _ from hR.1) (show ρ1 32 = Value.int _ _ from hR.2.1) (by omega) (by assumption)) ?_
          refine dx_val (i := 8) (fun ρ1 w1 hj hR => x_conv_i64 UIs.out UIs.out (show ρ1 33 = Value.int _ _ from hR.1) (by omega) (by omega)) ?_
          refine dx_val (i := 9) (fun ρ1 w1 hj hR => x_addi (show ρ1 30 = Value.int _ _ from hR.1) (show ρ1 34 = Value.int _ _ from hR.2.1) (by omega) (by omega)) ?_
          refine dx_buildSlice (i := 10) (cs := [_]) UIs.out TIs.out (fun ρ1 w1 hj hR => (evp_cons (show ρ1 35 = Value.int _ _ from hR.1) evp_nil)) rfl rfl (by decide) (by decide) rfl ?_
          refine dx_nil ?_
          intro f W hJ hV
          have hb_7 := hJ.bl
          obtain ⟨v36, v35, v34, v33, v32, v31, v30, v29, v28, v27, v26, _⟩ := hV
          simp only [updL]
          have e26 : f 0 = _ := v26
          rw [e26]
          have e27 : f 1 = _ := v27
          rw [e27]
          have e28 : f 2 = _ := v28
          rw [e28]
          have e29 : f 3 = _ := v29
          rw [e29]
          have e30 : f 4 = _ := v30
          rw [e30]
          have e31 : f 5 = _ := v31
          rw [e31]
          have e32 : f 6 = _ := v32
          rw [e32]
          have e33 : f 7 = _ := v33
          rw [e33]
          have e34 : f 8 = _ := v34
          rw [e34]
          have e35 : f 9 = _ := v35
          rw [e35]
          obtain ⟨A36, c36, e36, f36⟩ : Rows _ _ _ (f 10) W := v36
          rw [e36]
          replace hh := hJ.hp
          clear e26 e27 e28 e29 e30 e31 e32 e33 e34 e35 e36 hJ
          refine wl_append hh (i := 0) rfl rfl rfl (f36) UIs.out TIs.out rfl (by decide) rfl (by omega) (by omega) (by decide) ?_
          intro A37 c37 w37 hh
          simp only [List.set_cons_zero] at hh
          refine s_assign (ev_sl rfl) (by decide) ?_
          refine wl_nil ?_
          refine b_norm ?_
          refine k_then ?_
          refine wc_region ?_
          refine s_move (ev_int rfl) (by decide) ?_
          refine s_addi rfl rfl (by omega) (by omega) (by decide) ?_
          refine s_assign (ev_int rfl) (by decide) ?_
          refine wl_nil ?_
          refine k_then ?_
          -- at ('round',)
          refine ⟨⟨k + 1, c37, A37, by omega, rfl, rfl, ?_⟩, by show a.size - (k + 1) < a.size - k; omega, ?_⟩
          · rw [take_snoc (zip_at (ints_at hx) (ints_at hy)), i64s_append]
            exact hh
          · (repeat (first | exact agree_mask _ _ _ | refine agree_upd rfl ?_ | refine agree_mask2 rfl ?_))
        · refine wc_seq ?_
          refine wc_seq ?_
          refine wc_region ?_
          refine s_move (ev_int rfl) (by decide) ?_
          refine s_move (ev_str rfl) (by decide) ?_
          refine s_len_str UIs.out rfl (by decide) ?_
          first | refine s_lss_t rfl rfl (by omega) (by decide) ?_ | refine s_lss_f rfl rfl (by omega) (by decide) ?_
          refine wl_end ?_
          refine wc_cond_f rfl ?_
          refine wc_exit ?_
          refine k_exit ?_
          refine k_exit ?_
          refine b_here ?_
          refine k_then ?_
          refine wc_seq ?_
          refine wc_region ?_
          refine s_move (ev_sl rfl) (by decide) ?_
          -- at some 39 := Op.call { callee := Callee.value (Operand.func 10), args := #[Operand.tmp 38], argTypes :=
          obtain rfl : k = a.size := by omega
          rw [List.take_of_length_le (by omega)] at hh
          refine s_callf (rof_calls _ _ _ _ _ (hh.sl_row (i := 0) rfl) (by omega)) FnIs.out rfl (by decide) ?_
          rintro e_ w39 ⟨rfl, hb_⟩
          refine ⟨_, rfl, ?_⟩
          replace hh := hh.ext hb_
          refine s_extract rfl rfl (by decide) ?_
          refine s_extract rfl rfl (by decide) ?_
          refine s_assign (ev_str rfl) (by decide) ?_
          refine s_assign (ev_int rfl) (by decide) ?_
          refine wl_end ?_
          refine wc_ret ?_
          -- at ('end', 'ret')
          refine ret2 (by first | exact .inr rfl | exact .inl rfl) rfl rfl rfl ?_
          simp only [mulL, hbl]
          exact ⟨rfl, hh.below⟩
theorem rdiv_calls (a b : ByteArray) (w : World) (ha : a.size ≤ 100000) (hb : b.size ≤ 100000) :
    Calls Try.prog 21 #[.string a, .string b] w fun e w' => e = .returned (.tuple #[.string (str (divL a.data.toList b.data.toList).1), .bool (divL a.data.toList b.data.toList).2]) ∧ Below w.heap.size w w' := by
  have hh := Hp.start w
  have hsa := ba_size a
  have hsb := ba_size b
  cases hma : mayB a.data.toList with
  | false =>
    refine calls_vc (N := 48) (l := [.string a, .string b]) Try.func21 rfl rfl (by simp) ?_
    refine wc_seq ?_
    refine wc_region ?_
    refine s_assign (ev_str rfl) (by decide) ?_
    refine s_assign (ev_bool rfl) (by decide) ?_
    refine wl_end ?_
    refine wc_seq ?_
    refine wc_seq ?_
    refine wc_region ?_
    refine s_move (ev_str rfl) (by decide) ?_
    refine s_move (ev_str rfl) (by decide) ?_
    refine s_len_str UIs.out rfl (by decide) ?_
    -- at some 13 := Op.call { callee := Callee.value (Operand.func 17), args := #[Operand.tmp 10, Operand.tmp 
    refine s_callf (rmay_self a _ (by omega)) FnIs.out rfl (by decide) ?_
    rintro e_ w13 ⟨rfl, hb_⟩
    refine ⟨_, rfl, ?_⟩
    replace hh := hh.ext hb_
    rw [hma]
    refine s_not rfl (by decide) ?_
    refine s_move (ev_bool rfl) (by decide) ?_
    first | (refine wl_guard_skip (by decide) rfl rfl (by decide) ?_) | (refine wl_guard_take rfl rfl ?_; (refine s_move (ev_str rfl) (by decide) ?_)) | (refine wl_guard_skipV (by decide) rfl rfl ?_)
    first | (refine wl_guard_skip (by decide) rfl rfl (by decide) ?_) | (refine wl_guard_take rfl rfl ?_; (refine s_move (ev_str rfl) (by decide) ?_)) | (refine wl_guard_skipV (by decide) rfl rfl ?_)
    first | (refine wl_guard_skip (by decide) rfl rfl (by decide) ?_) | (refine wl_guard_take rfl rfl ?_; (refine s_len_str UIs.out rfl (by decide) ?_)) | (refine wl_guard_skipV (by decide) rfl rfl ?_)
    refine wl_guard_skip (by decide) rfl rfl (by decide) ?_
    first | (refine wl_guard_skip (by decide) rfl rfl (by decide) ?_) | (refine wl_guard_take rfl rfl ?_; (refine s_not rfl (by decide) ?_)) | (refine wl_guard_skipV (by decide) rfl rfl ?_)
    first | refine s_pick_t rfl (ev_bool rfl) (by decide) ?_ | refine s_pick_f rfl (ev_bool rfl) (by decide) ?_
    refine wl_end ?_
    refine wc_cond_t rfl ?_
    refine wc_seq ?_
    refine wc_region ?_
    refine s_assign (ev_str rfl) (by decide) ?_
    refine s_assign (ev_bool rfl) (by decide) ?_
    refine wl_end ?_
    refine wc_ret ?_
    refine k_ret ?_
    -- at ('end', 'ret')
    refine ret2 (by first | exact .inr rfl | exact .inl rfl) rfl rfl rfl ?_
    have : bothL (· - ·) a.data.toList b.data.toList = none := by simp [bothL, hma]
    simp only [divL, this]
    exact ⟨rfl, hh.below⟩
  | true =>
    cases hmb : (mayB b.data.toList && decide ((b.size : Int) = a.size)) with
    | false =>
      refine calls_vc (N := 48) (l := [.string a, .string b]) Try.func21 rfl rfl (by simp) ?_
      refine wc_seq ?_
      refine wc_region ?_
      refine s_assign (ev_str rfl) (by decide) ?_
      refine s_assign (ev_bool rfl) (by decide) ?_
      refine wl_end ?_
      refine wc_seq ?_
      refine wc_seq ?_
      refine wc_region ?_
      refine s_move (ev_str rfl) (by decide) ?_
      refine s_move (ev_str rfl) (by decide) ?_
      refine s_len_str UIs.out rfl (by decide) ?_
      -- at some 13 := Op.call { callee := Callee.value (Operand.func 17), args := #[Operand.tmp 10, Operand.tmp 
      refine s_callf (rmay_self a _ (by omega)) FnIs.out rfl (by decide) ?_
      rintro e_ w13 ⟨rfl, hb_⟩
      refine ⟨_, rfl, ?_⟩
      replace hh := hh.ext hb_
      rw [hma]
      refine s_not rfl (by decide) ?_
      refine s_move (ev_bool rfl) (by decide) ?_
      first | (refine wl_guard_skip (by decide) rfl rfl (by decide) ?_) | (refine wl_guard_take rfl rfl ?_; (refine s_move (ev_str rfl) (by decide) ?_)) | (refine wl_guard_skipV (by decide) rfl rfl ?_)
      first | (refine wl_guard_skip (by decide) rfl rfl (by decide) ?_) | (refine wl_guard_take rfl rfl ?_; (refine s_move (ev_str rfl) (by decide) ?_)) | (refine wl_guard_skipV (by decide) rfl rfl ?_)
      first | (refine wl_guard_skip (by decide) rfl rfl (by decide) ?_) | (refine wl_guard_take rfl rfl ?_; (refine s_len_str UIs.out rfl (by decide) ?_)) | (refine wl_guard_skipV (by decide) rfl rfl ?_)
      -- at guarded Op.call { callee := Callee.value (Operand.func 17), args := #[Operand.tmp 16, Op
      refine wl_guard_take rfl rfl ?_
      refine s_callf (rmay_calls b _ _ (by omega)) FnIs.out rfl (by decide) ?_
      rintro e_ w19 ⟨rfl, hb_⟩
      refine ⟨_, rfl, ?_⟩
      replace hh := hh.ext hb_
      rw [hmb]
      first | (refine wl_guard_skip (by decide) rfl rfl (by decide) ?_) | (refine wl_guard_take rfl rfl ?_; (refine s_not rfl (by decide) ?_)) | (refine wl_guard_skipV (by decide) rfl rfl ?_)
      first | refine s_pick_t rfl (ev_bool rfl) (by decide) ?_ | refine s_pick_f rfl (ev_bool rfl) (by decide) ?_
      refine wl_end ?_
      refine wc_cond_t rfl ?_
      refine wc_seq ?_
      refine wc_region ?_
      refine s_assign (ev_str rfl) (by decide) ?_
      refine s_assign (ev_bool rfl) (by decide) ?_
      refine wl_end ?_
      refine wc_ret ?_
      refine k_ret ?_
      -- at ('end', 'ret')
      refine ret2 (by first | exact .inr rfl | exact .inl rfl) rfl rfl rfl ?_
      have h2 : (mayB b.data.toList && decide ((b.data.toList.length : Int) = a.data.toList.length)) = false := by rw [← hsa, ← hsb]; exact hmb
      have : bothL (· - ·) a.data.toList b.data.toList = none := by simp only [bothL, hma, h2]; rfl
      simp only [divL, this]
      exact ⟨rfl, hh.below⟩
    | true =>
      have hmb2 := hmb
      simp only [Bool.and_eq_true, decide_eq_true_eq] at hmb2
      have hbl : bothL (· - ·) a.data.toList b.data.toList = some (List.zipWith (· - ·) (ints a.data.toList) (ints b.data.toList)) := by
        have : (mayB b.data.toList && decide ((b.data.toList.length : Int) = a.data.toList.length)) = true := by rw [← hsa, ← hsb]; exact hmb
        simp only [bothL, hma, this]; rfl
      have hzl : (List.zipWith (· - ·) (ints a.data.toList) (ints b.data.toList)).length = a.size := by simp [ints]; omega
      refine calls_vc (N := 48) (l := [.string a, .string b]) Try.func21 rfl rfl (by simp) ?_
      refine wc_seq ?_
      refine wc_region ?_
      refine s_assign (ev_str rfl) (by decide) ?_
      refine s_assign (ev_bool rfl) (by decide) ?_
      refine wl_end ?_
      refine wc_seq ?_
      refine wc_seq ?_
      refine wc_region ?_
      refine s_move (ev_str rfl) (by decide) ?_
      refine s_move (ev_str rfl) (by decide) ?_
      refine s_len_str UIs.out rfl (by decide) ?_
      -- at some 13 := Op.call { callee := Callee.value (Operand.func 17), args := #[Operand.tmp 10, Operand.tmp 
      refine s_callf (rmay_self a _ (by omega)) FnIs.out rfl (by decide) ?_
      rintro e_ w13 ⟨rfl, hb_⟩
      refine ⟨_, rfl, ?_⟩
      replace hh := hh.ext hb_
      rw [hma]
      refine s_not rfl (by decide) ?_
      refine s_move (ev_bool rfl) (by decide) ?_
      first | (refine wl_guard_skip (by decide) rfl rfl (by decide) ?_) | (refine wl_guard_take rfl rfl ?_; (refine s_move (ev_str rfl) (by decide) ?_)) | (refine wl_guard_skipV (by decide) rfl rfl ?_)
      first | (refine wl_guard_skip (by decide) rfl rfl (by decide) ?_) | (refine wl_guard_take rfl rfl ?_; (refine s_move (ev_str rfl) (by decide) ?_)) | (refine wl_guard_skipV (by decide) rfl rfl ?_)
      first | (refine wl_guard_skip (by decide) rfl rfl (by decide) ?_) | (refine wl_guard_take rfl rfl ?_; (refine s_len_str UIs.out rfl (by decide) ?_)) | (refine wl_guard_skipV (by decide) rfl rfl ?_)
      -- at guarded Op.call { callee := Callee.value (Operand.func 17), args := #[Operand.tmp 16, Op
      refine wl_guard_take rfl rfl ?_
      refine s_callf (rmay_calls b _ _ (by omega)) FnIs.out rfl (by decide) ?_
      rintro e_ w19 ⟨rfl, hb_⟩
      refine ⟨_, rfl, ?_⟩
      replace hh := hh.ext hb_
      rw [hmb]
      first | (refine wl_guard_skip (by decide) rfl rfl (by decide) ?_) | (refine wl_guard_take rfl rfl ?_; (refine s_not rfl (by decide) ?_)) | (refine wl_guard_skipV (by decide) rfl rfl ?_)
      first | refine s_pick_t rfl (ev_bool rfl) (by decide) ?_ | refine s_pick_f rfl (ev_bool rfl) (by decide) ?_
      refine wl_end ?_
      refine wc_cond_f rfl ?_
      refine wc_skip ?_
      refine k_then ?_
      refine wc_seq ?_
      refine wc_region ?_
      refine s_assign (ev_sl rfl) (by decide) ?_
      refine wl_end ?_
      refine wc_seq ?_
      refine wc_seq ?_
      refine wc_region ?_
      refine s_assign (ev_int rfl) (by decide) ?_
      refine wl_end ?_
      refine wc_block ?_
      -- at a loop
      refine wc_loop2 [6, 7, 22, 23, 24, 25, 26, 27, 28, 29, 30, 31, 32, 33, 34, 35, 36, 37, 38, 39] 6 7
        (fun v i w' => ∃ (k c' : Nat) (A' : Option Addr), k ≤ a.size ∧ i = .int .i64 k ∧ v = .slice A' k c' ∧ Hp w [.row A' k c' 3 1 (i64s ((List.zipWith (· - ·) (ints a.data.toList) (ints b.data.toList)).take k))] w')
        (fun _ i _ => a.size - (intOf i).toNat) ?_ ?_
      · exact ⟨0, 0, none, Nat.zero_le _, rfl, rfl, hh.nil_row _ _⟩
      · clear hh
        rintro ρ' v i w' ⟨k, c', A', hk, rfl, rfl, hh⟩
        -- 
        -- 
        by_cases hlt : k < a.size
        · obtain ⟨x, hx⟩ := get_of_lt (l := a.data.toList) (k := k) (by omega)
          obtain ⟨y, hy⟩ := get_of_lt (l := b.data.toList) (k := k) (by omega)
          have bx := mayB_at hma hx
          have byy := mayB_at hmb2.1 hy
          refine wc_seq ?_
          refine wc_seq ?_
          refine wc_region ?_
          refine s_move (ev_int rfl) (by decide) ?_
          refine s_move (ev_str rfl) (by decide) ?_
          refine s_len_str UIs.out rfl (by decide) ?_
          first | refine s_lss_t rfl rfl (by omega) (by decide) ?_ | refine s_lss_f rfl rfl (by omega) (by decide) ?_
          refine wl_end ?_
          refine wc_cond_t rfl ?_
          refine wc_skip ?_
          refine k_then ?_
          refine wc_seq ?_
          refine wc_block ?_
          -- at the drawn region 7
          refine wc_drawn 11 [[(6, none)], [(0, none)], [(7, none)], [(29, some 1), (30, some 2)], [(31, some 3)], [(1, none)], [(7, none)], [(33, some 5), (34, some 6)], [(35, some 7)], [(32, some 4), (36, some 8)], [(37, some 9)]] [(10, 38), (9, 37), (8, 36), (7, 35), (6, 34), (5, 33), (4, 32), (3, 31), (2, 30), (1, 29), (0, 28)] hh mixed (by kernel_rfl) ?_
          refine dx_val (i := 0) (fun ρ1 w1 hj hR => x_move (show ρ1 6 = Value.slice _ _ _ from hR.1)) ?_
          refine dx_val (i := 1) (fun ρ1 w1 hj hR => x_move (show ρ1 0 = Value.string _ from hR.1)) ?_
          refine dx_val (i := 2) (fun ρ1 w1 hj hR => x_move (show ρ1 7 = Value.int _ _ from hR.1)) ?_
          refine dx_val (i := 3) (fun ρ1 w1 hj hR => x_index_str UIs.out (show ρ1 29 = Value.string _ from hR.1) (show ρ1 30 = Value.int _ _ from hR.2.1) (by omega) (by assumption)) ?_
          refine dx_val (i := 4) (fun ρ1 w1 hj hR => x_conv_i64 UIs.out UIs.out (show ρ1 31 = Value.int _ _ from hR.1) (by omega) (by omega)) ?_
          refine dx_val (i := 5) (fun ρ1 w1 hj hR => x_move (show ρ1 1 = Value.string _ from hR.1)) ?_
          refine dx_val (i := 6) (fun ρ1 w1 hj hR => x_move (show ρ1 7 = Value.int _ _ from hR.1)) ?_
          refine dx_val (i := 7) (fun ρ1 w1 hj hR => x_index_str UIs.out (show ρ1 33 = Value.string _ from hR.1) (show ρ1 34 = Value.int _ _ from hR.2.1) (by omega) (by assumption)) ?_
          refine dx_val (i := 8) (fun ρ1 w1 hj hR => x_conv_i64 UIs.out UIs.out (show ρ1 35 = Value.int _ _ from hR.1) (by omega) (by omega)) ?_
          refine dx_val (i := 9) (fun ρ1 w1 hj hR => x_subi (show ρ1 32 = Value.int _ _ from hR.1) (show ρ1 36 = Value.int _ _ from hR.2.1) (by omega) (by omega)) ?_
          refine dx_buildSlice (i := 10) (cs := [_]) UIs.out TIs.out (fun ρ1 w1 hj hR => (evp_cons (show ρ1 37 = Value.int _ _ from hR.1) evp_nil)) rfl rfl (by decide) (by decide) rfl ?_
          refine dx_nil ?_
          intro f W hJ hV
          have hb_7 := hJ.bl
          obtain ⟨v38, v37, v36, v35, v34, v33, v32, v31, v30, v29, v28, _⟩ := hV
          simp only [updL]
          have e28 : f 0 = _ := v28
          rw [e28]
          have e29 : f 1 = _ := v29
          rw [e29]
          have e30 : f 2 = _ := v30
          rw [e30]
          have e31 : f 3 = _ := v31
          rw [e31]
          have e32 : f 4 = _ := v32
          rw [e32]
          have e33 : f 5 = _ := v33
          rw [e33]
          have e34 : f 6 = _ := v34
          rw [e34]
          have e35 : f 7 = _ := v35
          rw [e35]
          have e36 : f 8 = _ := v36
          rw [e36]
          have e37 : f 9 = _ := v37
          rw [e37]
          obtain ⟨A38, c38, e38, f38⟩ : Rows _ _ _ (f 10) W := v38
          rw [e38]
          replace hh := hJ.hp
          clear e28 e29 e30 e31 e32 e33 e34 e35 e36 e37 e38 hJ
          refine wl_append hh (i := 0) rfl rfl rfl (f38) UIs.out TIs.out rfl (by decide) rfl (by omega) (by omega) (by decide) ?_
          intro A39 c39 w39 hh
          simp only [List.set_cons_zero] at hh
          refine s_assign (ev_sl rfl) (by decide) ?_
          refine wl_nil ?_
          refine b_norm ?_
          refine k_then ?_
          refine wc_region ?_
          refine s_move (ev_int rfl) (by decide) ?_
          refine s_addi rfl rfl (by omega) (by omega) (by decide) ?_
          refine s_assign (ev_int rfl) (by decide) ?_
          refine wl_nil ?_
          refine k_then ?_
          -- at ('round',)
          refine ⟨⟨k + 1, c39, A39, by omega, rfl, rfl, ?_⟩, by show a.size - (k + 1) < a.size - k; omega, ?_⟩
          · rw [take_snoc (zip_at (ints_at hx) (ints_at hy)), i64s_append]
            exact hh
          · (repeat (first | exact agree_mask _ _ _ | refine agree_upd rfl ?_ | refine agree_mask2 rfl ?_))
        · refine wc_seq ?_
          refine wc_seq ?_
          refine wc_region ?_
          refine s_move (ev_int rfl) (by decide) ?_
          refine s_move (ev_str rfl) (by decide) ?_
          refine s_len_str UIs.out rfl (by decide) ?_
          first | refine s_lss_t rfl rfl (by omega) (by decide) ?_ | refine s_lss_f rfl rfl (by omega) (by decide) ?_
          refine wl_end ?_
          refine wc_cond_f rfl ?_
          refine wc_exit ?_
          refine k_exit ?_
          refine k_exit ?_
          refine b_here ?_
          refine k_then ?_
          refine wc_seq ?_
          refine wc_region ?_
          refine s_move (ev_sl rfl) (by decide) ?_
          -- at some 42 := Op.call { callee := Callee.value (Operand.func 10), args := #[Operand.tmp 41], argTypes :=
          obtain rfl : k = a.size := by omega
          rw [List.take_of_length_le (by omega)] at hh
          refine s_callf (rof_calls _ _ _ _ _ (hh.sl_row (i := 0) rfl) (by omega)) FnIs.out rfl (by decide) ?_
          rintro e_ w42 ⟨rfl, hb_⟩
          refine ⟨_, rfl, ?_⟩
          replace hh := hh.ext hb_
          refine s_move (ev_tup rfl) (by decide) ?_
          refine s_extract rfl rfl (by decide) ?_
          refine s_extract rfl rfl (by decide) ?_
          refine s_assign (ev_str rfl) (by decide) ?_
          refine s_assign (ev_int rfl) (by decide) ?_
          refine wl_end ?_
          refine wc_seq ?_
          refine wc_region ?_
          refine s_move (ev_str rfl) (by decide) ?_
          refine s_move (ev_int rfl) (by decide) ?_
          refine s_eql_v rfl rfl (by decide) ?_
          refine s_assign (ev_str rfl) (by decide) ?_
          refine s_assign (ev_bool rfl) (by decide) ?_
          refine wl_end ?_
          refine wc_ret ?_
          -- at ('end', 'ret')
          refine ret2 (by first | exact .inr rfl | exact .inl rfl) rfl rfl rfl ?_
          simp only [divL, hbl]
          exact ⟨rfl, hh.below⟩
theorem numbers_calls (A B : Option Addr) (n m c c' : Nat) (xs ys : List Int) (w : World) (hx : Sl w A n 1 (i64s xs)) (hy : Sl w B m 1 (i64s ys)) (hn : n ≤ 100000) (hm : m ≤ 100000) :
    Calls Try.prog 11 #[.slice A n c, .slice B m c'] w fun e w' => e = .returned (.bool (decide (xs = ys))) ∧ Below w.heap.size w w' := by
  have hxl : xs.length = n := by have := hx.1; rw [length_i64s] at this; omega
  have hyl : ys.length = m := by have := hy.1; rw [length_i64s] at this; omega
  have hh := Hp.start w
  by_cases hnm : n = m
  · subst hnm
    refine calls_vc (N := 26) (l := [.slice A n c, .slice B n c']) Try.func11 rfl rfl (by simp) ?_
    refine wc_seq ?_
    refine wc_region ?_
    refine s_assign (ev_bool rfl) (by decide) ?_
    refine wl_end ?_
    refine wc_seq ?_
    refine wc_seq ?_
    refine wc_region ?_
    refine s_move (ev_sl rfl) (by decide) ?_
    refine s_len_sl UIs.out rfl (by decide) ?_
    refine s_move (ev_sl rfl) (by decide) ?_
    refine s_len_sl UIs.out rfl (by decide) ?_
    first | refine s_neq_t rfl rfl (by omega) (by decide) ?_ | refine s_neq_f rfl rfl (by omega) (by decide) ?_
    refine wl_end ?_
    refine wc_cond_f rfl ?_
    refine wc_skip ?_
    refine k_then ?_
    refine wc_seq ?_
    refine wc_seq ?_
    refine wc_region ?_
    refine s_assign (ev_int rfl) (by decide) ?_
    refine wl_end ?_
    refine wc_block ?_
    -- at a loop
    refine wc_loop1 [4, 5, 11, 12, 13, 14, 15, 16, 17, 18, 19, 20, 21, 22, 23, 24, 25] 5
      (fun i w' => ∃ k : Nat, k ≤ n ∧ i = .int .i64 k ∧ xs.take k = ys.take k ∧ Hp w [] w')
      (fun i _ => n - (intOf i).toNat) ?_ ?_
    · exact ⟨0, Nat.zero_le _, rfl, rfl, hh⟩
    · clear hh
      rintro ρ' i w' ⟨k, hk, rfl, he, hh⟩
      replace hx := hx.ext hh.below
      replace hy := hy.ext hh.below
      by_cases hlt : k < n
      · obtain ⟨x, hxk⟩ := get_of_lt (l := xs) (k := k) (by omega)
        obtain ⟨y, hyk⟩ := get_of_lt (l := ys) (k := k) (by omega)
        obtain ⟨ad, rfl, hr⟩ := hx.at_ (by omega)
        obtain ⟨bd, rfl, hs⟩ := hy.at_ (by omega)
        by_cases hxy : x = y
        · subst hxy
          refine wc_seq ?_
          refine wc_seq ?_
          refine wc_region ?_
          refine s_move (ev_int rfl) (by decide) ?_
          refine s_move (ev_sl rfl) (by decide) ?_
          refine s_len_sl UIs.out rfl (by decide) ?_
          first | refine s_lss_t rfl rfl (by omega) (by decide) ?_ | refine s_lss_f rfl rfl (by omega) (by decide) ?_
          refine wl_end ?_
          refine wc_cond_t rfl ?_
          refine wc_skip ?_
          refine k_then ?_
          refine wc_seq ?_
          refine wc_block ?_
          refine wc_seq ?_
          -- at the drawn region 6
          refine wc_drawn 8 [[(0, none)], [(5, none)], [(17, some 0), (18, some 1)], [(19, some 2)], [(1, none)], [(5, none)], [(21, some 4), (22, some 5)], [(23, some 6)]] [(7, 24), (6, 23), (5, 22), (4, 21), (3, 20), (2, 19), (1, 18), (0, 17)] hh mixed (by kernel_rfl) ?_
          refine dx_val (i := 0) (fun ρ1 w1 hj hR => x_move (show ρ1 0 = Value.slice _ _ _ from hR.1)) ?_
          refine dx_val (i := 1) (fun ρ1 w1 hj hR => x_move (show ρ1 5 = Value.int _ _ from hR.1)) ?_
          refine dx_val (i := 2) (fun ρ1 w1 hj hR => x_indexAddr UIs.out TIs.size (show ρ1 17 = Value.slice _ _ _ from hR.1) (show ρ1 18 = Value.int _ _ from hR.2.1) (by omega) (by omega)) ?_
          refine dx_val (i := 3) (fun ρ1 w1 hj hR => x_load1 TIs.out (show ρ1 19 = Value.pointer _ from hR.1) (rd_elem1 (hr.ext hj.bl) (i64s_at hxk) rfl)) ?_
          refine dx_val (i := 4) (fun ρ1 w1 hj hR => x_move (show ρ1 1 = Value.slice _ _ _ from hR.1)) ?_
          refine dx_val (i := 5) (fun ρ1 w1 hj hR => x_move (show ρ1 5 = Value.int _ _ from hR.1)) ?_
          refine dx_val (i := 6) (fun ρ1 w1 hj hR => x_indexAddr UIs.out TIs.size (show ρ1 21 = Value.slice _ _ _ from hR.1) (show ρ1 22 = Value.int _ _ from hR.2.1) (by omega) (by omega)) ?_
          refine dx_val (i := 7) (fun ρ1 w1 hj hR => x_load1 TIs.out (show ρ1 23 = Value.pointer _ from hR.1) (rd_elem1 (hs.ext hj.bl) (i64s_at hyk) rfl)) ?_
          refine dx_nil ?_
          intro f W hJ hV
          have hb_6 := hJ.bl
          obtain ⟨v24, v23, v22, v21, v20, v19, v18, v17, _⟩ := hV
          simp only [updL]
          have e17 : f 0 = _ := v17
          rw [e17]
          have e18 : f 1 = _ := v18
          rw [e18]
          have e19 : f 2 = _ := v19
          rw [e19]
          have e20 : f 3 = _ := v20
          rw [e20]
          have e21 : f 4 = _ := v21
          rw [e21]
          have e22 : f 5 = _ := v22
          rw [e22]
          have e23 : f 6 = _ := v23
          rw [e23]
          have e24 : f 7 = _ := v24
          rw [e24]
          replace hh := hJ.hp
          clear e17 e18 e19 e20 e21 e22 e23 e24 hJ
          first | refine s_neq_t rfl rfl (by omega) (by decide) ?_ | refine s_neq_f rfl rfl (by omega) (by decide) ?_
          refine wl_end ?_
          refine wc_cond_f rfl ?_
          refine wc_skip ?_
          refine b_norm ?_
          refine k_then ?_
          refine wc_region ?_
          refine s_move (ev_int rfl) (by decide) ?_
          refine s_addi rfl rfl (by omega) (by omega) (by decide) ?_
          refine s_assign (ev_int rfl) (by decide) ?_
          refine wl_nil ?_
          refine k_then ?_
          -- at ('round',)
          refine ⟨⟨k + 1, by omega, rfl, by rw [take_snoc hxk, take_snoc hyk, he], hh⟩, by show n - (k + 1) < n - k; omega, ?_⟩
          (repeat (first | exact agree_mask _ _ _ | refine agree_upd rfl ?_ | refine agree_mask2 rfl ?_))
        · refine wc_seq ?_
          refine wc_seq ?_
          refine wc_region ?_
          refine s_move (ev_int rfl) (by decide) ?_
          refine s_move (ev_sl rfl) (by decide) ?_
          refine s_len_sl UIs.out rfl (by decide) ?_
          first | refine s_lss_t rfl rfl (by omega) (by decide) ?_ | refine s_lss_f rfl rfl (by omega) (by decide) ?_
          refine wl_end ?_
          refine wc_cond_t rfl ?_
          refine wc_skip ?_
          refine k_then ?_
          refine wc_seq ?_
          refine wc_block ?_
          refine wc_seq ?_
          -- at the drawn region 6
          refine wc_drawn 8 [[(0, none)], [(5, none)], [(17, some 0), (18, some 1)], [(19, some 2)], [(1, none)], [(5, none)], [(21, some 4), (22, some 5)], [(23, some 6)]] [(7, 24), (6, 23), (5, 22), (4, 21), (3, 20), (2, 19), (1, 18), (0, 17)] hh mixed (by kernel_rfl) ?_
          refine dx_val (i := 0) (fun ρ1 w1 hj hR => x_move (show ρ1 0 = Value.slice _ _ _ from hR.1)) ?_
          refine dx_val (i := 1) (fun ρ1 w1 hj hR => x_move (show ρ1 5 = Value.int _ _ from hR.1)) ?_
          refine dx_val (i := 2) (fun ρ1 w1 hj hR => x_indexAddr UIs.out TIs.size (show ρ1 17 = Value.slice _ _ _ from hR.1) (show ρ1 18 = Value.int _ _ from hR.2.1) (by omega) (by omega)) ?_
          refine dx_val (i := 3) (fun ρ1 w1 hj hR => x_load1 TIs.out (show ρ1 19 = Value.pointer _ from hR.1) (rd_elem1 (hr.ext hj.bl) (i64s_at hxk) rfl)) ?_
          refine dx_val (i := 4) (fun ρ1 w1 hj hR => x_move (show ρ1 1 = Value.slice _ _ _ from hR.1)) ?_
          refine dx_val (i := 5) (fun ρ1 w1 hj hR => x_move (show ρ1 5 = Value.int _ _ from hR.1)) ?_
          refine dx_val (i := 6) (fun ρ1 w1 hj hR => x_indexAddr UIs.out TIs.size (show ρ1 21 = Value.slice _ _ _ from hR.1) (show ρ1 22 = Value.int _ _ from hR.2.1) (by omega) (by omega)) ?_
          refine dx_val (i := 7) (fun ρ1 w1 hj hR => x_load1 TIs.out (show ρ1 23 = Value.pointer _ from hR.1) (rd_elem1 (hs.ext hj.bl) (i64s_at hyk) rfl)) ?_
          refine dx_nil ?_
          intro f W hJ hV
          have hb_6 := hJ.bl
          obtain ⟨v24, v23, v22, v21, v20, v19, v18, v17, _⟩ := hV
          simp only [updL]
          have e17 : f 0 = _ := v17
          rw [e17]
          have e18 : f 1 = _ := v18
          rw [e18]
          have e19 : f 2 = _ := v19
          rw [e19]
          have e20 : f 3 = _ := v20
          rw [e20]
          have e21 : f 4 = _ := v21
          rw [e21]
          have e22 : f 5 = _ := v22
          rw [e22]
          have e23 : f 6 = _ := v23
          rw [e23]
          have e24 : f 7 = _ := v24
          rw [e24]
          replace hh := hJ.hp
          clear e17 e18 e19 e20 e21 e22 e23 e24 hJ
          first | refine s_neq_t rfl rfl (by omega) (by decide) ?_ | refine s_neq_f rfl rfl (by omega) (by decide) ?_
          refine wl_end ?_
          refine wc_cond_t rfl ?_
          refine wc_seq ?_
          refine wc_region ?_
          refine s_assign (ev_bool rfl) (by decide) ?_
          refine wl_end ?_
          refine wc_ret ?_
          refine b_ret ?_
          refine k_ret ?_
          refine k_ret ?_
          refine b_ret ?_
          refine k_ret ?_
          -- at ('end', 'ret')
          refine ret1 (by first | exact .inr rfl | exact .inl rfl) rfl rfl ?_
          have : ¬ xs = ys := fun h => hxy (by rw [h, hyk] at hxk; exact (Option.some.inj hxk).symm)
          simp only [this, decide_false]
          exact ⟨rfl, hh.below⟩
      · refine wc_seq ?_
        refine wc_seq ?_
        refine wc_region ?_
        refine s_move (ev_int rfl) (by decide) ?_
        refine s_move (ev_sl rfl) (by decide) ?_
        refine s_len_sl UIs.out rfl (by decide) ?_
        first | refine s_lss_t rfl rfl (by omega) (by decide) ?_ | refine s_lss_f rfl rfl (by omega) (by decide) ?_
        refine wl_end ?_
        refine wc_cond_f rfl ?_
        refine wc_exit ?_
        refine k_exit ?_
        refine k_exit ?_
        refine b_here ?_
        refine k_then ?_
        refine wc_seq ?_
        refine wc_region ?_
        refine s_assign (ev_bool rfl) (by decide) ?_
        refine wl_end ?_
        refine wc_ret ?_
        -- at ('end', 'ret')
        refine ret1 (by first | exact .inr rfl | exact .inl rfl) rfl rfl ?_
        rw [List.take_of_length_le (by omega), List.take_of_length_le (by omega)] at he
        simp only [he, decide_true]
        exact ⟨rfl, hh.below⟩
  · refine calls_vc (N := 26) (l := [.slice A n c, .slice B m c']) Try.func11 rfl rfl (by simp) ?_
    refine wc_seq ?_
    refine wc_region ?_
    refine s_assign (ev_bool rfl) (by decide) ?_
    refine wl_end ?_
    refine wc_seq ?_
    refine wc_seq ?_
    refine wc_region ?_
    refine s_move (ev_sl rfl) (by decide) ?_
    refine s_len_sl UIs.out rfl (by decide) ?_
    refine s_move (ev_sl rfl) (by decide) ?_
    refine s_len_sl UIs.out rfl (by decide) ?_
    first | refine s_neq_t rfl rfl (by omega) (by decide) ?_ | refine s_neq_f rfl rfl (by omega) (by decide) ?_
    refine wl_end ?_
    refine wc_cond_t rfl ?_
    refine wc_seq ?_
    refine wc_region ?_
    refine s_assign (ev_bool rfl) (by decide) ?_
    refine wl_end ?_
    refine wc_ret ?_
    refine k_ret ?_
    -- at ('end', 'ret')
    refine ret1 (by first | exact .inr rfl | exact .inl rfl) rfl rfl ?_
    have : ¬ xs = ys := fun h => hnm (by rw [← hxl, ← hyl, h])
    simp only [this, decide_false]
    exact ⟨rfl, hh.below⟩
def strs (l : List ByteArray) : List Value := l.map Value.string
theorem length_strs (l : List ByteArray) : (strs l).length = l.length := by simp [strs]
theorem strs_at {l : List ByteArray} {k : Nat} {x : ByteArray} (h : l[k]? = some x) : (strs l)[k]? = some (.string x) := by simp [strs, h]
theorem same_calls (A B : Option Addr) (n m c c' : Nat) (xs ys : List ByteArray) (w : World) (hx : Sl w A n 1 (strs xs)) (hy : Sl w B m 1 (strs ys)) (hn : n ≤ 100000) (hm : m ≤ 100000) :
    Calls Try.prog 22 #[.slice A n c, .slice B m c'] w fun e w' => e = .returned (.bool (decide (xs = ys))) ∧ Below w.heap.size w w' := by
  have hxl : xs.length = n := by have := hx.1; rw [length_strs] at this; omega
  have hyl : ys.length = m := by have := hy.1; rw [length_strs] at this; omega
  have hh := Hp.start w
  by_cases hnm : n = m
  · subst hnm
    refine calls_vc (N := 26) (l := [.slice A n c, .slice B n c']) Try.func22 rfl rfl (by simp) ?_
    refine wc_seq ?_
    refine wc_region ?_
    refine s_assign (ev_bool rfl) (by decide) ?_
    refine wl_end ?_
    refine wc_seq ?_
    refine wc_seq ?_
    refine wc_region ?_
    refine s_move (ev_sl rfl) (by decide) ?_
    refine s_len_sl UIs.out rfl (by decide) ?_
    refine s_move (ev_sl rfl) (by decide) ?_
    refine s_len_sl UIs.out rfl (by decide) ?_
    first | refine s_neq_t rfl rfl (by omega) (by decide) ?_ | refine s_neq_f rfl rfl (by omega) (by decide) ?_
    refine wl_end ?_
    refine wc_cond_f rfl ?_
    refine wc_skip ?_
    refine k_then ?_
    refine wc_seq ?_
    refine wc_seq ?_
    refine wc_region ?_
    refine s_assign (ev_int rfl) (by decide) ?_
    refine wl_end ?_
    refine wc_block ?_
    -- at a loop
    refine wc_loop1 [4, 5, 11, 12, 13, 14, 15, 16, 17, 18, 19, 20, 21, 22, 23, 24, 25] 5
      (fun i w' => ∃ k : Nat, k ≤ n ∧ i = .int .i64 k ∧ xs.take k = ys.take k ∧ Hp w [] w')
      (fun i _ => n - (intOf i).toNat) ?_ ?_
    · exact ⟨0, Nat.zero_le _, rfl, rfl, hh⟩
    · clear hh
      rintro ρ' i w' ⟨k, hk, rfl, he, hh⟩
      replace hx := hx.ext hh.below
      replace hy := hy.ext hh.below
      by_cases hlt : k < n
      · obtain ⟨x, hxk⟩ := get_of_lt (l := xs) (k := k) (by omega)
        obtain ⟨y, hyk⟩ := get_of_lt (l := ys) (k := k) (by omega)
        obtain ⟨ad, rfl, hr⟩ := hx.at_ (by omega)
        obtain ⟨bd, rfl, hs⟩ := hy.at_ (by omega)
        by_cases hxy : x = y
        · subst hxy
          refine wc_seq ?_
          refine wc_seq ?_
          refine wc_region ?_
          refine s_move (ev_int rfl) (by decide) ?_
          refine s_move (ev_sl rfl) (by decide) ?_
          refine s_len_sl UIs.out rfl (by decide) ?_
          first | refine s_lss_t rfl rfl (by omega) (by decide) ?_ | refine s_lss_f rfl rfl (by omega) (by decide) ?_
          refine wl_end ?_
          refine wc_cond_t rfl ?_
          refine wc_skip ?_
          refine k_then ?_
          refine wc_seq ?_
          refine wc_block ?_
          refine wc_seq ?_
          -- at the drawn region 6
          refine wc_drawn 8 [[(0, none)], [(5, none)], [(17, some 0), (18, some 1)], [(19, some 2)], [(1, none)], [(5, none)], [(21, some 4), (22, some 5)], [(23, some 6)]] [(7, 24), (6, 23), (5, 22), (4, 21), (3, 20), (2, 19), (1, 18), (0, 17)] hh mixed (by kernel_rfl) ?_
          refine dx_val (i := 0) (fun ρ1 w1 hj hR => x_move (show ρ1 0 = Value.slice _ _ _ from hR.1)) ?_
          refine dx_val (i := 1) (fun ρ1 w1 hj hR => x_move (show ρ1 5 = Value.int _ _ from hR.1)) ?_
          refine dx_val (i := 2) (fun ρ1 w1 hj hR => x_indexAddr UIs.out TIs.size (show ρ1 17 = Value.slice _ _ _ from hR.1) (show ρ1 18 = Value.int _ _ from hR.2.1) (by omega) (by omega)) ?_
          refine dx_val (i := 3) (fun ρ1 w1 hj hR => x_load1 TIs.out (show ρ1 19 = Value.pointer _ from hR.1) (rd_elem1 (hr.ext hj.bl) (strs_at hxk) rfl)) ?_
          refine dx_val (i := 4) (fun ρ1 w1 hj hR => x_move (show ρ1 1 = Value.slice _ _ _ from hR.1)) ?_
          refine dx_val (i := 5) (fun ρ1 w1 hj hR => x_move (show ρ1 5 = Value.int _ _ from hR.1)) ?_
          refine dx_val (i := 6) (fun ρ1 w1 hj hR => x_indexAddr UIs.out TIs.size (show ρ1 21 = Value.slice _ _ _ from hR.1) (show ρ1 22 = Value.int _ _ from hR.2.1) (by omega) (by omega)) ?_
          refine dx_val (i := 7) (fun ρ1 w1 hj hR => x_load1 TIs.out (show ρ1 23 = Value.pointer _ from hR.1) (rd_elem1 (hs.ext hj.bl) (strs_at hyk) rfl)) ?_
          refine dx_nil ?_
          intro f W hJ hV
          have hb_6 := hJ.bl
          obtain ⟨v24, v23, v22, v21, v20, v19, v18, v17, _⟩ := hV
          simp only [updL]
          have e17 : f 0 = _ := v17
          rw [e17]
          have e18 : f 1 = _ := v18
          rw [e18]
          have e19 : f 2 = _ := v19
          rw [e19]
          have e20 : f 3 = _ := v20
          rw [e20]
          have e21 : f 4 = _ := v21
          rw [e21]
          have e22 : f 5 = _ := v22
          rw [e22]
          have e23 : f 6 = _ := v23
          rw [e23]
          have e24 : f 7 = _ := v24
          rw [e24]
          replace hh := hJ.hp
          clear e17 e18 e19 e20 e21 e22 e23 e24 hJ
          first | refine s_neq_str_f rfl rfl (by first | rfl | assumption | decide) (by decide) ?_ | refine s_neq_str_t rfl rfl (by first | assumption | decide) (by decide) ?_
          refine wl_end ?_
          refine wc_cond_f rfl ?_
          refine wc_skip ?_
          refine b_norm ?_
          refine k_then ?_
          refine wc_region ?_
          refine s_move (ev_int rfl) (by decide) ?_
          refine s_addi rfl rfl (by omega) (by omega) (by decide) ?_
          refine s_assign (ev_int rfl) (by decide) ?_
          refine wl_nil ?_
          refine k_then ?_
          -- at ('round',)
          refine ⟨⟨k + 1, by omega, rfl, by rw [take_snoc hxk, take_snoc hyk, he], hh⟩, by show n - (k + 1) < n - k; omega, ?_⟩
          (repeat (first | exact agree_mask _ _ _ | refine agree_upd rfl ?_ | refine agree_mask2 rfl ?_))
        · refine wc_seq ?_
          refine wc_seq ?_
          refine wc_region ?_
          refine s_move (ev_int rfl) (by decide) ?_
          refine s_move (ev_sl rfl) (by decide) ?_
          refine s_len_sl UIs.out rfl (by decide) ?_
          first | refine s_lss_t rfl rfl (by omega) (by decide) ?_ | refine s_lss_f rfl rfl (by omega) (by decide) ?_
          refine wl_end ?_
          refine wc_cond_t rfl ?_
          refine wc_skip ?_
          refine k_then ?_
          refine wc_seq ?_
          refine wc_block ?_
          refine wc_seq ?_
          -- at the drawn region 6
          refine wc_drawn 8 [[(0, none)], [(5, none)], [(17, some 0), (18, some 1)], [(19, some 2)], [(1, none)], [(5, none)], [(21, some 4), (22, some 5)], [(23, some 6)]] [(7, 24), (6, 23), (5, 22), (4, 21), (3, 20), (2, 19), (1, 18), (0, 17)] hh mixed (by kernel_rfl) ?_
          refine dx_val (i := 0) (fun ρ1 w1 hj hR => x_move (show ρ1 0 = Value.slice _ _ _ from hR.1)) ?_
          refine dx_val (i := 1) (fun ρ1 w1 hj hR => x_move (show ρ1 5 = Value.int _ _ from hR.1)) ?_
          refine dx_val (i := 2) (fun ρ1 w1 hj hR => x_indexAddr UIs.out TIs.size (show ρ1 17 = Value.slice _ _ _ from hR.1) (show ρ1 18 = Value.int _ _ from hR.2.1) (by omega) (by omega)) ?_
          refine dx_val (i := 3) (fun ρ1 w1 hj hR => x_load1 TIs.out (show ρ1 19 = Value.pointer _ from hR.1) (rd_elem1 (hr.ext hj.bl) (strs_at hxk) rfl)) ?_
          refine dx_val (i := 4) (fun ρ1 w1 hj hR => x_move (show ρ1 1 = Value.slice _ _ _ from hR.1)) ?_
          refine dx_val (i := 5) (fun ρ1 w1 hj hR => x_move (show ρ1 5 = Value.int _ _ from hR.1)) ?_
          refine dx_val (i := 6) (fun ρ1 w1 hj hR => x_indexAddr UIs.out TIs.size (show ρ1 21 = Value.slice _ _ _ from hR.1) (show ρ1 22 = Value.int _ _ from hR.2.1) (by omega) (by omega)) ?_
          refine dx_val (i := 7) (fun ρ1 w1 hj hR => x_load1 TIs.out (show ρ1 23 = Value.pointer _ from hR.1) (rd_elem1 (hs.ext hj.bl) (strs_at hyk) rfl)) ?_
          refine dx_nil ?_
          intro f W hJ hV
          have hb_6 := hJ.bl
          obtain ⟨v24, v23, v22, v21, v20, v19, v18, v17, _⟩ := hV
          simp only [updL]
          have e17 : f 0 = _ := v17
          rw [e17]
          have e18 : f 1 = _ := v18
          rw [e18]
          have e19 : f 2 = _ := v19
          rw [e19]
          have e20 : f 3 = _ := v20
          rw [e20]
          have e21 : f 4 = _ := v21
          rw [e21]
          have e22 : f 5 = _ := v22
          rw [e22]
          have e23 : f 6 = _ := v23
          rw [e23]
          have e24 : f 7 = _ := v24
          rw [e24]
          replace hh := hJ.hp
          clear e17 e18 e19 e20 e21 e22 e23 e24 hJ
          first | refine s_neq_str_f rfl rfl (by first | rfl | assumption | decide) (by decide) ?_ | refine s_neq_str_t rfl rfl (by first | assumption | decide) (by decide) ?_
          refine wl_end ?_
          refine wc_cond_t rfl ?_
          refine wc_seq ?_
          refine wc_region ?_
          refine s_assign (ev_bool rfl) (by decide) ?_
          refine wl_end ?_
          refine wc_ret ?_
          refine b_ret ?_
          refine k_ret ?_
          refine k_ret ?_
          refine b_ret ?_
          refine k_ret ?_
          -- at ('end', 'ret')
          refine ret1 (by first | exact .inr rfl | exact .inl rfl) rfl rfl ?_
          have : ¬ xs = ys := fun h => hxy (by rw [h, hyk] at hxk; exact (Option.some.inj hxk).symm)
          simp only [this, decide_false]
          exact ⟨rfl, hh.below⟩
      · refine wc_seq ?_
        refine wc_seq ?_
        refine wc_region ?_
        refine s_move (ev_int rfl) (by decide) ?_
        refine s_move (ev_sl rfl) (by decide) ?_
        refine s_len_sl UIs.out rfl (by decide) ?_
        first | refine s_lss_t rfl rfl (by omega) (by decide) ?_ | refine s_lss_f rfl rfl (by omega) (by decide) ?_
        refine wl_end ?_
        refine wc_cond_f rfl ?_
        refine wc_exit ?_
        refine k_exit ?_
        refine k_exit ?_
        refine b_here ?_
        refine k_then ?_
        refine wc_seq ?_
        refine wc_region ?_
        refine s_assign (ev_bool rfl) (by decide) ?_
        refine wl_end ?_
        refine wc_ret ?_
        -- at ('end', 'ret')
        refine ret1 (by first | exact .inr rfl | exact .inl rfl) rfl rfl ?_
        rw [List.take_of_length_le (by omega), List.take_of_length_le (by omega)] at he
        simp only [he, decide_true]
        exact ⟨rfl, hh.below⟩
  · refine calls_vc (N := 26) (l := [.slice A n c, .slice B m c']) Try.func22 rfl rfl (by simp) ?_
    refine wc_seq ?_
    refine wc_region ?_
    refine s_assign (ev_bool rfl) (by decide) ?_
    refine wl_end ?_
    refine wc_seq ?_
    refine wc_seq ?_
    refine wc_region ?_
    refine s_move (ev_sl rfl) (by decide) ?_
    refine s_len_sl UIs.out rfl (by decide) ?_
    refine s_move (ev_sl rfl) (by decide) ?_
    refine s_len_sl UIs.out rfl (by decide) ?_
    first | refine s_neq_t rfl rfl (by omega) (by decide) ?_ | refine s_neq_f rfl rfl (by omega) (by decide) ?_
    refine wl_end ?_
    refine wc_cond_t rfl ?_
    refine wc_seq ?_
    refine wc_region ?_
    refine s_assign (ev_bool rfl) (by decide) ?_
    refine wl_end ?_
    refine wc_ret ?_
    refine k_ret ?_
    -- at ('end', 'ret')
    refine ret1 (by first | exact .inr rfl | exact .inl rfl) rfl rfl ?_
    have : ¬ xs = ys := fun h => hnm (by rw [← hxl, ← hyl, h])
    simp only [this, decide_false]
    exact ⟨rfl, hh.below⟩
end Go.Proofs.Ytgljgalcbbjfgaa
