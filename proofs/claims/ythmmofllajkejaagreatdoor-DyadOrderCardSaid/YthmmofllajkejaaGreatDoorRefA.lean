/- The walks through the document's answer for natural numbers (ogeeref01): bits. -/
import Derived.Test.YthmmofllajkejaaGreatDoorDyadC
namespace Go.Proofs.YthmmofllajkejaaGreatDoor
open Go.RowKit
-- umode
theorem Sl.take8 {w : World} {A : Option Addr} {n : Nat} {xs : List Nat} (h : Sl w A n 1 (u8n xs)) {k : Nat} (hk : k ≤ n) : Sl w A k 1 (u8n (xs.take k)) := by
  have hl := h.1
  rw [length_u8n] at hl
  refine ⟨by rw [length_u8n, List.length_take]; omega, fun h0 => ?_⟩
  obtain ⟨ad, he, hr⟩ := h.2 (by omega)
  exact ⟨ad, he, by rw [u8n_take]; exact hr.take k⟩
theorem Sl.cutL8 {w : World} {A : Option Addr} {n : Nat} {xs : List Nat} (h : Sl w A n 1 (u8n xs)) : Sl w A (cutL xs).length 1 (u8n (cutL xs)) := by
  have hl := h.1
  rw [length_u8n] at hl
  have := cutL_len xs
  have h2 := h.take8 (k := (cutL xs).length) (by omega)
  rwa [← cutL_take] at h2
theorem Hp.cut8 {w0 w : World} {H : List HE} {A : Option Addr} {n c : Nat} {t : TypeId} {xs : List Nat} (h : Hp w0 (.row A n c t 1 (u8n xs) :: H) w) (hl : xs.length = n) : Hp w0 (.row A (cutL xs).length c t 1 (u8n (cutL xs)) :: H) w := by
  have h1 := cutL_len xs
  have h2 := h.cutRow (k := (cutL xs).length) (by omega)
  rw [Nat.mul_one, ← u8n_take, ← cutL_take] at h2
  exact h2
theorem rcut_calls (A : Option Addr) (n c : Nat) (xs : List Nat) (w : World) (hx : Sl w A n 1 (u8n xs)) (hc : n ≤ c) (hn : n ≤ 1000000000000) :
    Calls Tryz.prog 163 #[.slice A n c] w fun e w' => e = .returned (.slice A (cutL xs).length c) ∧ Below w.heap.size w w' := by
  have hlen : xs.length = n := by have := hx.1; rw [length_u8n] at this; omega
  have hh := Hp.start w
  refine calls_vc (N := 21) (l := [.slice A n c]) Tryz.func163 rfl rfl (by simp) ?_
  refine wc_seq ?_
  refine wc_region ?_
  refine s_assign (ev_sl rfl) (by decide) ?_
  refine wl_end ?_
  refine wc_seq ?_
  refine wc_region ?_
  refine s_move (ev_sl rfl) (by decide) ?_
  refine s_len_sl UIs.out rfl (by decide) ?_
  refine s_assign (ev_int rfl) (by decide) ?_
  refine wl_end ?_
  refine wc_seq ?_
  refine wc_block ?_
  -- at a loop
  refine wc_loop1 [3, 6, 7, 8, 9, 10, 11, 12, 13, 14, 15, 16, 17] 3
    (fun v w' => ∃ k : Nat, k ≤ n ∧ v = .int .i64 k ∧ cutL (xs.take k) = cutL xs ∧ w' = w)
    (fun v _ => (intOf v).toNat) ?_ ?_
  · exact ⟨n, Nat.le_refl _, rfl, by rw [List.take_of_length_le (by omega)], rfl⟩
  · rintro ρ' v w' ⟨k, hk, rfl, hcut, rfl⟩
    by_cases h0 : k = 0
    · subst h0
      refine wc_seq ?_
      refine wc_seq ?_
      refine wc_region ?_
      refine s_move (ev_int rfl) (by decide) ?_
      first | refine s_gtr_t rfl rfl (by omega) (by decide) ?_ | refine s_gtr_f rfl rfl (by omega) (by decide) ?_ | refine s_gtr_v rfl rfl (by decide) ?_
      refine s_move (ev_bool rfl) (by decide) ?_
      first | (refine wl_guard_skip (by decide) rfl rfl (by decide) ?_) | (refine wl_guard_take rfl rfl ?_; (refine s_move (ev_sl rfl) (by decide) ?_)) | (refine wl_guard_skipV (by decide) rfl rfl ?_)
      first | (refine wl_guard_skip (by decide) rfl rfl (by decide) ?_) | (refine wl_guard_take rfl rfl ?_; (refine s_move (ev_int rfl) (by decide) ?_)) | (refine wl_guard_skipV (by decide) rfl rfl ?_)
      first | (refine wl_guard_skip (by decide) rfl rfl (by decide) ?_) | (refine wl_guard_take rfl rfl ?_; (refine s_subi rfl rfl (by omega) (by omega) (by decide) ?_)) | (refine wl_guard_skipV (by decide) rfl rfl ?_)
      first | (refine wl_guard_skip (by decide) rfl rfl (by decide) ?_) | (refine wl_guard_take rfl rfl ?_; (refine s_indexAddr UIs.out TIs.size rfl rfl (by omega) (by omega) (by decide) ?_)) | (refine wl_guard_skipV (by decide) rfl rfl ?_)
      first | (refine wl_guard_skip (by decide) rfl rfl (by decide) ?_) | (refine wl_guard_skipV (by decide) rfl rfl ?_)
      first | (refine wl_guard_skip (by decide) rfl rfl (by decide) ?_) | (refine wl_guard_take rfl rfl ?_; (first | refine s_eql_t rfl rfl (by omega) (by decide) ?_ | refine s_eql_f rfl rfl (by omega) (by decide) ?_ | refine s_eql_v rfl rfl (by decide) ?_)) | (refine wl_guard_skipV (by decide) rfl rfl ?_)
      first | refine s_pick_t rfl (ev_bool rfl) (by decide) ?_ | refine s_pick_f rfl (ev_bool rfl) (by decide) ?_
      refine wl_end ?_
      refine wc_cond_f rfl ?_
      refine wc_exit ?_
      refine k_exit ?_
      refine k_exit ?_
      refine b_here ?_
      refine k_then ?_
      refine wc_seq ?_
      refine wc_region ?_
      refine s_move (ev_sl rfl) (by decide) ?_
      refine s_move (ev_int rfl) (by decide) ?_
      refine s_cutEnd (h := 0) UIs.out TIs.size rfl rfl (by omega) (by omega) (by decide) ?_
      refine s_assign (ev_sl rfl) (by decide) ?_
      refine wl_end ?_
      refine wc_ret ?_
      -- at ('end', 'ret')
      refine ret1 (by first | exact .inr rfl | exact .inl rfl) rfl (v_sl rfl) ?_
      rw [← hcut]
      exact ⟨rfl, hh.below⟩
    · obtain ⟨j, rfl⟩ : ∃ j, k = j + 1 := ⟨k - 1, by omega⟩
      obtain ⟨d, hd⟩ := get_of_lt (l := xs) (k := j) (by omega)
      obtain ⟨ad, rfl, hr⟩ := hx.at_ (by omega)
      have hd2 := u8n_at hd
      rw [take_snoc hd] at hcut
      -- 
      by_cases hz : d = 0
      · subst hz
        rw [cutL_snoc0] at hcut
        refine wc_seq ?_
        refine wc_seq ?_
        refine wc_region ?_
        refine s_move (ev_int rfl) (by decide) ?_
        first | refine s_gtr_t rfl rfl (by omega) (by decide) ?_ | refine s_gtr_f rfl rfl (by omega) (by decide) ?_ | refine s_gtr_v rfl rfl (by decide) ?_
        refine s_move (ev_bool rfl) (by decide) ?_
        first | (refine wl_guard_skip (by decide) rfl rfl (by decide) ?_) | (refine wl_guard_take rfl rfl ?_; (refine s_move (ev_sl rfl) (by decide) ?_)) | (refine wl_guard_skipV (by decide) rfl rfl ?_)
        first | (refine wl_guard_skip (by decide) rfl rfl (by decide) ?_) | (refine wl_guard_take rfl rfl ?_; (refine s_move (ev_int rfl) (by decide) ?_)) | (refine wl_guard_skipV (by decide) rfl rfl ?_)
        first | (refine wl_guard_skip (by decide) rfl rfl (by decide) ?_) | (refine wl_guard_take rfl rfl ?_; (refine s_subi rfl rfl (by omega) (by omega) (by decide) ?_)) | (refine wl_guard_skipV (by decide) rfl rfl ?_)
        first | (refine wl_guard_skip (by decide) rfl rfl (by decide) ?_) | (refine wl_guard_take rfl rfl ?_; (refine s_indexSl (k := j) UIs.out TIs.size rfl rfl (by omega) (by omega) (by decide) ?_)) | (refine wl_guard_skipV (by decide) rfl rfl ?_)
        first | (refine wl_guard_skip (by decide) rfl rfl (by decide) ?_) | (refine wl_guard_take rfl rfl ?_; (refine s_load1 TIs.out rfl ((hr.ext hh.below).at1 (by assumption)) (by decide) ?_)) | (refine wl_guard_skipV (by decide) rfl rfl ?_)
        first | (refine wl_guard_skip (by decide) rfl rfl (by decide) ?_) | (refine wl_guard_take rfl rfl ?_; (first | refine s_eql_t rfl rfl (by omega) (by decide) ?_ | refine s_eql_f rfl rfl (by omega) (by decide) ?_ | refine s_eql_v rfl rfl (by decide) ?_)) | (refine wl_guard_skipV (by decide) rfl rfl ?_)
        first | refine s_pick_t rfl (ev_bool rfl) (by decide) ?_ | refine s_pick_f rfl (ev_bool rfl) (by decide) ?_
        refine wl_end ?_
        refine wc_cond_t rfl ?_
        refine wc_skip ?_
        refine k_then ?_
        refine wc_block ?_
        refine wc_region ?_
        refine s_move (ev_int rfl) (by decide) ?_
        refine s_subi rfl rfl (by omega) (by omega) (by decide) ?_
        refine s_assign (ev_int rfl) (by decide) ?_
        refine wl_nil ?_
        refine b_norm ?_
        refine k_then ?_
        -- at ('round',)
        refine ⟨⟨j, by omega, by show Value.int _ _ = Value.int _ _; congr 1; omega, hcut, rfl⟩, by show (((j + 1 : Nat) : Int) - 1).toNat < (((j + 1 : Nat) : Int)).toNat; omega, ?_⟩
        (repeat (first | exact agree_mask _ _ _ | refine agree_upd rfl ?_ | refine agree_mask2 rfl ?_))
      · rw [cutL_snoc hz] at hcut
        refine wc_seq ?_
        refine wc_seq ?_
        refine wc_region ?_
        refine s_move (ev_int rfl) (by decide) ?_
        first | refine s_gtr_t rfl rfl (by omega) (by decide) ?_ | refine s_gtr_f rfl rfl (by omega) (by decide) ?_ | refine s_gtr_v rfl rfl (by decide) ?_
        refine s_move (ev_bool rfl) (by decide) ?_
        first | (refine wl_guard_skip (by decide) rfl rfl (by decide) ?_) | (refine wl_guard_take rfl rfl ?_; (refine s_move (ev_sl rfl) (by decide) ?_)) | (refine wl_guard_skipV (by decide) rfl rfl ?_)
        first | (refine wl_guard_skip (by decide) rfl rfl (by decide) ?_) | (refine wl_guard_take rfl rfl ?_; (refine s_move (ev_int rfl) (by decide) ?_)) | (refine wl_guard_skipV (by decide) rfl rfl ?_)
        first | (refine wl_guard_skip (by decide) rfl rfl (by decide) ?_) | (refine wl_guard_take rfl rfl ?_; (refine s_subi rfl rfl (by omega) (by omega) (by decide) ?_)) | (refine wl_guard_skipV (by decide) rfl rfl ?_)
        first | (refine wl_guard_skip (by decide) rfl rfl (by decide) ?_) | (refine wl_guard_take rfl rfl ?_; (refine s_indexSl (k := j) UIs.out TIs.size rfl rfl (by omega) (by omega) (by decide) ?_)) | (refine wl_guard_skipV (by decide) rfl rfl ?_)
        first | (refine wl_guard_skip (by decide) rfl rfl (by decide) ?_) | (refine wl_guard_take rfl rfl ?_; (refine s_load1 TIs.out rfl ((hr.ext hh.below).at1 (by assumption)) (by decide) ?_)) | (refine wl_guard_skipV (by decide) rfl rfl ?_)
        first | (refine wl_guard_skip (by decide) rfl rfl (by decide) ?_) | (refine wl_guard_take rfl rfl ?_; (first | refine s_eql_t rfl rfl (by omega) (by decide) ?_ | refine s_eql_f rfl rfl (by omega) (by decide) ?_ | refine s_eql_v rfl rfl (by decide) ?_)) | (refine wl_guard_skipV (by decide) rfl rfl ?_)
        first | refine s_pick_t rfl (ev_bool rfl) (by decide) ?_ | refine s_pick_f rfl (ev_bool rfl) (by decide) ?_
        refine wl_end ?_
        refine wc_cond_f rfl ?_
        refine wc_exit ?_
        refine k_exit ?_
        refine k_exit ?_
        refine b_here ?_
        refine k_then ?_
        refine wc_seq ?_
        refine wc_region ?_
        refine s_move (ev_sl rfl) (by decide) ?_
        refine s_move (ev_int rfl) (by decide) ?_
        refine s_cutEnd (h := j + 1) UIs.out TIs.size rfl rfl (by omega) (by omega) (by decide) ?_
        refine s_assign (ev_sl rfl) (by decide) ?_
        refine wl_end ?_
        refine wc_ret ?_
        -- at ('end', 'ret')
        refine ret1 (by first | exact .inr rfl | exact .inl rfl) rfl (v_sl rfl) ?_
        rw [← hcut, List.length_append, List.length_take, Nat.min_eq_left (by omega)]
        exact ⟨rfl, hh.below⟩
theorem bits_step {s : List UInt8} {j k : Nat} {c : UInt8} (hc : (lo8 s)[j]? = some c.toNat) (hk : k < 8) : c.toNat / 2 ^ k % 2 = bn s / 2 ^ (8 * j + k) % 2 := by
  have h1 := dig_get (dg_lo8 s) hc
  rw [← h1, ← bn, Nat.pow_add, Nat.pow_mul, show (2 ^ 8 : Nat) = 256 from rfl, ← Nat.div_div_eq_div_mul]
  generalize bn s / 256 ^ j = m
  have e : (256 : Nat) = 2 ^ k * 2 ^ (8 - k) := by rw [← Nat.pow_add, show k + (8 - k) = 8 by omega]
  have e2 : 2 ^ (8 - k) = 2 * 2 ^ (7 - k) := by rw [← Nat.pow_succ']; congr 1; omega
  rw [e, Nat.mod_mul_right_div_self, e2, Nat.mod_mul_right_mod]
theorem rbits_calls (a : ByteArray) (w : World) (ha : a.size ≤ 1000000000) :
    Calls Tryz.prog 157 #[.string a] w fun e w' => ∃ A c, e = .returned (.slice A (digs 2 (bN a)).length c) ∧ w'.ownsRow w.heap.size 5 1 (.slice A (digs 2 (bN a)).length c) (digs 2 (bN a)).length (u8n (digs 2 (bN a))) ∧ Below w.heap.size w w' := by
  have hsz := ba_size a
  have hh := Hp.start w
  refine calls_vc (N := 28) (l := [.string a]) Tryz.func157 rfl rfl (by simp) ?_
  refine wc_seq ?_
  refine wc_region ?_
  refine s_assign (ev_sl rfl) (by decide) ?_
  refine wl_end ?_
  refine wc_seq ?_
  refine wc_region ?_
  refine s_assign (ev_sl rfl) (by decide) ?_
  refine wl_end ?_
  refine wc_seq ?_
  refine wc_seq ?_
  refine wc_region ?_
  refine s_move (ev_str rfl) (by decide) ?_
  refine s_len_str UIs.out rfl (by decide) ?_
  refine s_subi rfl rfl (by omega) (by omega) (by decide) ?_
  refine s_assign (ev_int rfl) (by decide) ?_
  refine wl_end ?_
  refine wc_block ?_
  -- at a loop
  replace hh := hh.nil_row 5 1
  refine wc_loop2 [3, 4, 5, 9, 10, 11, 12, 13, 14, 15, 16, 17, 18, 19, 20, 21, 22, 23, 24, 25] 3 4
    (fun o v w' => ∃ (j : Nat) (A : Option Addr) (c : Nat), j ≤ a.size ∧ v = .int .i64 ((a.size : Int) - 1 - j) ∧ o = .slice A (8 * j) c ∧ Hp w [.row A (8 * j) c 5 1 (u8n (digK 2 (8 * j) (bN a)))] w')
    (fun _ v _ => (intOf v + 1).toNat) ?_ ?_
  · exact ⟨0, none, 0, Nat.zero_le _, by show Value.int _ _ = Value.int _ _; congr 1; omega, rfl, hh⟩
  · clear hh
    rintro ρ' o v w' ⟨j, A, c, hj, rfl, rfl, hh⟩
    by_cases hlt : j < a.size
    · obtain ⟨ch, hc⟩ := get_of_lt (l := a.data.toList) (k := ((a.size : Int) - 1 - j).toNat) (by omega)
      have hlo := lo8_at (s := a.data.toList) (i := j) (c := ch) (by omega) (by rw [← hc]; congr 1; omega)
      have hc8 := ch.toNat_lt
      refine wc_seq ?_
      refine wc_seq ?_
      refine wc_region ?_
      refine s_move (ev_int rfl) (by decide) ?_
      first | refine s_geq_t rfl rfl (by omega) (by decide) ?_ | refine s_geq_f rfl rfl (by omega) (by decide) ?_ | refine s_geq_v rfl rfl (by decide) ?_
      refine wl_end ?_
      refine wc_cond_t rfl ?_
      refine wc_skip ?_
      refine k_then ?_
      refine wc_seq ?_
      refine wc_block ?_
      refine wc_seq ?_
      refine wc_region ?_
      refine s_assign (ev_int rfl) (by decide) ?_
      refine wl_end ?_
      refine wc_block ?_
      -- at a loop
      refine wc_loop2 [3, 5, 13, 14, 15, 16, 17, 18, 19, 20, 21, 22, 23, 24, 25] 3 5
        (fun o v w' => ∃ (k : Nat) (A : Option Addr) (c : Nat), k ≤ 8 ∧ v = .int .i64 (k : Int) ∧ o = .slice A (8 * j + k) c ∧ Hp w [.row A (8 * j + k) c 5 1 (u8n (digK 2 (8 * j + k) (bN a)))] w')
        (fun _ v _ => 8 - (intOf v).toNat) ?_ ?_
      · exact ⟨0, A, c, Nat.zero_le _, rfl, rfl, hh⟩
      · clear hh
        rintro ρ2 o v w2 ⟨k, A2, c2, hk, rfl, rfl, hh⟩
        -- 
        -- 
        by_cases hk8 : k < 8
        · have hst := bits_step hlo hk8
          have hand : ∀ z : Nat, z &&& 1 = z % 2 := fun z => Nat.and_one_is_mod z
          have hcl : ch.toNat / 2 ^ (k : Int).toNat < 256 := Nat.lt_of_le_of_lt (Nat.div_le_self _ _) hc8
          refine wc_seq ?_
          refine wc_seq ?_
          refine wc_region ?_
          refine s_move (ev_int rfl) (by decide) ?_
          first | refine s_lss_t rfl rfl (by omega) (by decide) ?_ | refine s_lss_f rfl rfl (by omega) (by decide) ?_ | refine s_lss_v rfl rfl (by decide) ?_
          refine wl_end ?_
          refine wc_cond_t rfl ?_
          refine wc_skip ?_
          refine k_then ?_
          refine wc_seq ?_
          refine wc_block ?_
          refine wc_region ?_
          refine s_move (ev_sl rfl) (by decide) ?_
          refine s_move (ev_str rfl) (by decide) ?_
          refine s_move (ev_int rfl) (by decide) ?_
          refine s_index_str UIs.out rfl rfl (by omega) (by assumption) (by decide) ?_
          refine s_move (ev_int rfl) (by decide) ?_
          refine s_shru rfl rfl (by omega) (by decide) ?_
          refine s_andu (b := 1) rfl rfl (by first | assumption | omega) (by first | assumption | omega) (by decide) ?_
          refine wl_buildSlice hh (cs := [_]) UIs.out TIs.out (evp_cons (ev_int rfl) evp_nil) rfl rfl (by decide) (by decide) (by decide) rfl (by decide) ?_
          intro b24 w24 hh
          refine wl_append hh (i := 1) rfl rfl rfl (hh.sl_row (i := 0) rfl) UIs.out TIs.out rfl (by decide) (by first | rfl | exact oneCells_u8n _ | exact oneCells_u64s _ | exact oneCells_i64s _ | exact recs_oneCells NR.one _) (by omega) (by omega) (by decide) ?_
          intro A25 c25 w25 hh
          simp only [List.set_cons_zero, List.set_cons_succ] at hh
          replace hh := hh.sub (List.sublist_cons_self _ _)
          refine s_assign (ev_sl rfl) (by decide) ?_
          refine wl_nil ?_
          refine b_norm ?_
          refine k_then ?_
          refine wc_region ?_
          refine s_move (ev_int rfl) (by decide) ?_
          refine s_addi rfl rfl (by omega) (by omega) (by decide) ?_
          refine s_assign (ev_int rfl) (by decide) ?_
          refine wl_nil ?_
          refine k_then ?_
          -- at ('round',)
          have e1 : u8n (digK 2 (8 * j + k) (bN a)) ++ [Value.int .u8 ((ch.toNat / 2 ^ (k : Int).toNat &&& 1 : Nat) : Int)] = u8n (digK 2 (8 * j + (k + 1)) (bN a)) := by
            rw [hand, Int.toNat_natCast, hst, ← Nat.add_assoc, digK_snoc, u8n_append]; rfl
          rw [e1] at hh
          refine ⟨⟨k + 1, A25, c25, by omega, rfl, rfl, hh⟩, by show 8 - (k + 1) < 8 - k; omega, ?_⟩
          (repeat (first | exact agree_mask _ _ _ | refine agree_upd rfl ?_ | refine agree_mask2 rfl ?_))
        · obtain rfl : k = 8 := by omega
          refine wc_seq ?_
          refine wc_seq ?_
          refine wc_region ?_
          refine s_move (ev_int rfl) (by decide) ?_
          first | refine s_lss_t rfl rfl (by omega) (by decide) ?_ | refine s_lss_f rfl rfl (by omega) (by decide) ?_ | refine s_lss_v rfl rfl (by decide) ?_
          refine wl_end ?_
          refine wc_cond_f rfl ?_
          refine wc_exit ?_
          refine k_exit ?_
          refine k_exit ?_
          refine b_here ?_
          refine b_norm ?_
          refine k_then ?_
          refine wc_region ?_
          refine s_move (ev_int rfl) (by decide) ?_
          refine s_subi rfl rfl (by omega) (by omega) (by decide) ?_
          refine s_assign (ev_int rfl) (by decide) ?_
          refine wl_nil ?_
          refine k_then ?_
          -- at ('round',)
          refine ⟨⟨j + 1, A2, c2, by omega, by show Value.int _ _ = Value.int _ _; congr 1; omega, rfl, hh⟩, by show ((a.size : Int) - 1 - j - 1 + 1).toNat < ((a.size : Int) - 1 - j + 1).toNat; omega, ?_⟩
          (repeat (first | exact agree_mask _ _ _ | refine agree_upd rfl ?_ | refine agree_mask2 rfl ?_))
    · obtain rfl : j = a.size := by omega
      -- 
      -- 
      refine wc_seq ?_
      refine wc_seq ?_
      refine wc_region ?_
      refine s_move (ev_int rfl) (by decide) ?_
      first | refine s_geq_t rfl rfl (by omega) (by decide) ?_ | refine s_geq_f rfl rfl (by omega) (by decide) ?_ | refine s_geq_v rfl rfl (by decide) ?_
      refine wl_end ?_
      refine wc_cond_f rfl ?_
      refine wc_exit ?_
      refine k_exit ?_
      refine k_exit ?_
      refine b_here ?_
      refine k_then ?_
      refine wc_seq ?_
      refine wc_region ?_
      refine s_move (ev_sl rfl) (by decide) ?_
      -- at some 27 := Op.call { callee := Callee.value (Operand.func 163), args := #[Operand.tmp 26], argTypes :
      refine s_callf (rcut_calls _ _ _ (digK 2 (8 * a.size) (bN a)) _ (hh.sl_row (i := 0) rfl) (hh.row_cap (i := 0) rfl) (by omega)) FnIs.out rfl (by decide) ?_
      rintro e_ w27 ⟨rfl, hb_⟩
      refine ⟨_, rfl, ?_⟩
      replace hh := hh.ext hb_
      refine s_assign (ev_sl rfl) (by decide) ?_
      refine wl_end ?_
      refine wc_ret ?_
      -- at ('end', 'ret')
      refine ret1 (by first | exact .inr rfl | exact .inl rfl) rfl (v_sl rfl) ?_
      have hb := bN_lt a
      rw [show (256 : Nat) = 2 ^ 8 from rfl, ← Nat.pow_mul] at hb
      have hd : cutL (digK 2 (8 * a.size) (bN a)) = digs 2 (bN a) := by
        rw [cutL_digs (by omega) (dg_digK (by omega) _ _), dig_digK_lt hb]
      have h1 := (Hp.cut8 (xs := digK 2 (8 * a.size) (bN a)) hh (length_digK _ _)).at_ (i := 0) rfl
      rw [hd] at h1
      rw [hd]
      exact ⟨_, _, rfl, h1, hh.below⟩
theorem rev_set {l : List Nat} {j v : Nat} (h : j < l.length) : l.reverse.set (l.length - 1 - j) v = (l.set j v).reverse := by
  apply List.ext_getElem?
  intro i
  rcases Nat.lt_or_ge i l.length with hi | hi
  · rw [List.getElem?_reverse (by rw [List.length_set]; exact hi), List.length_set, List.getElem?_set, List.getElem?_set, List.getElem?_reverse hi, List.length_reverse]
    by_cases he : l.length - 1 - j = i
    · rw [if_pos he, if_pos (by omega), if_pos (by omega), if_pos h]
    · rw [if_neg he, if_neg (by omega)]
  · rw [List.getElem?_eq_none (by simp; omega), List.getElem?_eq_none (by simp; omega)]
theorem rtext_step {i b k : Nat} (P : Nat) (hP : P < 2 ^ i) (hb : b < 2) (hk : i / 8 < k) : P / 256 ^ (i / 8) % 256 + b * 2 ^ (i % 8) < 256 ∧ (digK 256 k P).set (i / 8) (P / 256 ^ (i / 8) % 256 + b * 2 ^ (i % 8)) = digK 256 k (P + 2 ^ i * b) := by
  have hp : 2 ^ i = 256 ^ (i / 8) * 2 ^ (i % 8) := by
    rw [show (256 : Nat) = 2 ^ 8 from rfl, ← Nat.pow_mul, ← Nat.pow_add]; congr 1; omega
  have h1 : P / 256 ^ (i / 8) < 2 ^ (i % 8) := by
    rw [Nat.div_lt_iff_lt_mul (Nat.pow_pos (by omega)), Nat.mul_comm, ← hp]; exact hP
  have h2 : 2 ^ (i % 8) ≤ 128 := by
    have := Nat.pow_le_pow_right (show 0 < 2 by omega) (show i % 8 ≤ 7 by omega)
    omega
  have h3 : P / 256 ^ (i / 8) % 256 < 2 ^ (i % 8) := Nat.lt_of_le_of_lt (Nat.mod_le _ _) h1
  have h4 : b * 2 ^ (i % 8) ≤ 1 * 2 ^ (i % 8) := Nat.mul_le_mul_right _ (by omega)
  have h5 : 2 ^ i * b = 256 ^ (i / 8) * (b * 2 ^ (i % 8)) := by rw [hp, Nat.mul_assoc, Nat.mul_comm b]
  refine ⟨by omega, ?_⟩
  rw [h5]
  refine digK_set (by omega) hk ?_ (by omega)
  rw [← h5]
  have h6 : 2 ^ i * b ≤ 2 ^ i * 1 := Nat.mul_le_mul_left _ (by omega)
  have h7 : 2 ^ (i + 1) ≤ 256 ^ k := by
    rw [show (256 : Nat) = 2 ^ 8 from rfl, ← Nat.pow_mul]
    exact Nat.pow_le_pow_right (by omega) (by omega)
  rw [Nat.pow_succ] at h7
  omega
theorem rtext_calls (A : Option Addr) (n c : Nat) (xs : List Nat) (w : World) (hx : Sl w A n 1 (u8n xs)) (hd : Dg 2 xs) (hc : n ≤ c) (hn : n ≤ 100000000000) :
    Calls Tryz.prog 143 #[.slice A n c] w fun e w' => e = .returned (.string (sN (dig 2 xs))) ∧ Below w.heap.size w w' := by
  have hl := hx.1
  rw [length_u8n] at hl
  have hcl := cutL_len xs
  have hcx := hx.cutL8
  have hcan := cutL_digs (by omega) hd
  have hlen := len256 (dig 2 xs)
  rw [hcan] at hcl hcx
  have hcd := (can_digs (B := 2) (by omega) (dig 2 xs)).1
  have hcv := dig_digs (B := 2) (by omega) (dig 2 xs)
  have hbl : (digs 2 (dig 2 xs)).length = blen (dig 2 xs) := rfl
  have hh := Hp.start w
  refine calls_vc (N := 38) (l := [.slice A n c]) Tryz.func143 rfl rfl (by simp) ?_
  refine wc_seq ?_
  refine wc_region ?_
  refine s_assign (ev_str rfl) (by decide) ?_
  refine wl_end ?_
  refine wc_seq ?_
  refine wc_region ?_
  refine s_move (ev_sl rfl) (by decide) ?_
  -- at some 6 := Op.call { callee := Callee.value (Operand.func 163), args := #[Operand.tmp 5], argTypes :=
  refine s_callf (rcut_calls _ _ _ xs _ hx hc (by omega)) FnIs.out rfl (by decide) ?_
  rintro e_ w6 ⟨rfl, hb_⟩
  refine ⟨_, rfl, ?_⟩
  replace hh := hh.ext hb_
  rw [hcan]
  generalize dig 2 xs = M at *
  generalize digs 2 M = xs' at *
  refine s_assign (ev_sl rfl) (by decide) ?_
  refine wl_end ?_
  refine wc_seq ?_
  refine wc_region ?_
  refine s_move (ev_sl rfl) (by decide) ?_
  refine s_len_sl UIs.out rfl (by decide) ?_
  refine s_addi rfl rfl (by omega) (by omega) (by decide) ?_
  refine s_quoi rfl rfl (by omega) (by omega) (by omega) (by decide) ?_
  refine wl_make (n := (xs'.length + 7) / 8) hh rfl rfl (by omega) (by omega) UIs.out TIs.out rfl (by omega) (by omega) (by decide) ?_
  intro b11 w11 hh
  refine s_assign (ev_sl rfl) (by decide) ?_
  refine wl_end ?_
  refine wc_seq ?_
  refine wc_seq ?_
  refine wc_region ?_
  refine s_assign (ev_int rfl) (by decide) ?_
  refine wl_end ?_
  refine wc_block ?_
  -- at a loop
  rw [zrep_u8] at hh
  refine wc_loop1 [4, 12, 13, 14, 15, 16, 17, 18, 19, 20, 21, 22, 23, 24, 25, 26, 27, 28, 29, 30, 31, 32, 33, 34, 35] 4
    (fun v w' => ∃ i : Nat, i ≤ xs'.length ∧ v = .int .i64 i ∧ Hp w [.row (some ⟨b11, 0, none⟩) ((xs'.length + 7) / 8) ((xs'.length + 7) / 8) 5 1 (u8n (digK 256 ((xs'.length + 7) / 8) (dig 2 (xs'.take i))).reverse)] w')
    (fun v _ => xs'.length - (intOf v).toNat) ?_ ?_
  · exact ⟨0, Nat.zero_le _, rfl, by rw [List.take_zero, dig, digK_zero, List.reverse_replicate]; exact hh⟩
  · clear hh
    rintro ρ' v w' ⟨i, hi, rfl, hh⟩
    -- 
    -- 
    by_cases hlt : i < xs'.length
    · obtain ⟨d, hdi⟩ := get_of_lt (l := xs') (k := i) (by omega)
      obtain ⟨ad, rfl, hr⟩ := hcx.at_ (by omega)
      have hd2 := u8n_at hdi
      have hdw := hcd.at_ hdi
      have hP := dig_lt (hcd.take i)
      rw [List.length_take, Nat.min_eq_left (by omega)] at hP
      obtain ⟨s1, s2⟩ := rtext_step (k := (xs'.length + 7) / 8) (dig 2 (xs'.take i)) hP hdw (by omega)
      have hg : (digK 256 ((xs'.length + 7) / 8) (dig 2 (xs'.take i))).reverse[(xs'.length + 7) / 8 - 1 - i / 8]? = some (dig 2 (xs'.take i) / 256 ^ (i / 8) % 256) := by
        rw [List.getElem?_reverse (by rw [length_digK]; omega), length_digK, show (xs'.length + 7) / 8 - 1 - ((xs'.length + 7) / 8 - 1 - i / 8) = i / 8 by omega]
        exact digK_get _ _ _ (by omega)
      have hg2 := u8n_at hg
      have e1 : ((i : Int) % 8).toNat = i % 8 := by omega
      have hset := rev_set (l := digK 256 ((xs'.length + 7) / 8) (dig 2 (xs'.take i))) (j := i / 8) (v := dig 2 (xs'.take i) / 256 ^ (i / 8) % 256 + d * 2 ^ (i % 8)) (by rw [length_digK]; omega)
      rw [length_digK, s2] at hset
      -- 
      refine wc_seq ?_
      refine wc_seq ?_
      refine wc_region ?_
      refine s_move (ev_int rfl) (by decide) ?_
      refine s_move (ev_sl rfl) (by decide) ?_
      refine s_len_sl UIs.out rfl (by decide) ?_
      first | refine s_lss_t rfl rfl (by omega) (by decide) ?_ | refine s_lss_f rfl rfl (by omega) (by decide) ?_ | refine s_lss_v rfl rfl (by decide) ?_
      refine wl_end ?_
      refine wc_cond_t rfl ?_
      refine wc_skip ?_
      refine k_then ?_
      refine wc_seq ?_
      refine wc_block ?_
      -- at the drawn region 6
      refine wc_drawn 16 [[(3, none)], [(3, none)], [(19, some 1)], [(20, some 2)], [(4, none)], [(22, some 4)], [(21, some 3), (23, some 5)], [(18, some 0), (24, some 6)], [(25, some 7)], [(0, none)], [(4, none)], [(27, some 9), (28, some 10)], [(29, some 11)], [(4, none)], [(31, some 13)], [(30, some 12), (32, some 14)]] [(15, 33), (14, 32), (13, 31), (12, 30), (11, 29), (10, 28), (9, 27), (8, 26), (7, 25), (6, 24), (5, 23), (4, 22), (3, 21), (2, 20), (1, 19), (0, 18)] hh mixed (by kernel_rfl) ?_
      refine dx_val (i := 0) (fun ρ1 w1 hj hR => x_move (show ρ1 3 = Value.slice _ _ _ from hR.1)) ?_
      refine dx_val (i := 1) (fun ρ1 w1 hj hR => x_move (show ρ1 3 = Value.slice _ _ _ from hR.1)) ?_
      refine dx_val (i := 2) (fun ρ1 w1 hj hR => x_len_sl UIs.out (show ρ1 19 = Value.slice _ _ _ from hR.1)) ?_
      refine dx_val (i := 3) (fun ρ1 w1 hj hR => x_subi (show ρ1 20 = Value.int _ _ from hR.1) rfl (by omega) (by omega)) ?_
      refine dx_val (i := 4) (fun ρ1 w1 hj hR => x_move (show ρ1 4 = Value.int _ _ from hR.1)) ?_
      refine dx_val (i := 5) (fun ρ1 w1 hj hR => x_quoi (show ρ1 22 = Value.int _ _ from hR.1) rfl (by omega) (by omega) (by omega)) ?_
      refine dx_val (i := 6) (fun ρ1 w1 hj hR => x_subi (show ρ1 21 = Value.int _ _ from hR.1) (show ρ1 23 = Value.int _ _ from hR.2.1) (by omega) (by omega)) ?_
      refine dx_val (i := 7) (fun ρ1 w1 hj hR => x_indexRow (k := (xs'.length + 7) / 8 - 1 - i / 8) UIs.out TIs.size (show ρ1 18 = Value.slice _ _ _ from hR.1) (show ρ1 24 = Value.int _ _ from hR.2.1) (by omega) (by omega)) ?_
      refine dx_val (i := 8) (fun ρ1 w1 hj hR => x_load1 TIs.out (show ρ1 25 = Value.pointer _ from hR.1) (hj.hp.cell_row (i := 0) rfl (by rw [Nat.mul_one]; exact hg2))) ?_
      refine dx_val (i := 9) (fun ρ1 w1 hj hR => x_move (show ρ1 0 = Value.slice _ _ _ from hR.1)) ?_
      refine dx_val (i := 10) (fun ρ1 w1 hj hR => x_move (show ρ1 4 = Value.int _ _ from hR.1)) ?_
      refine dx_val (i := 11) (fun ρ1 w1 hj hR => x_indexSl (k := i) UIs.out TIs.size (show ρ1 27 = Value.slice _ _ _ from hR.1) (show ρ1 28 = Value.int _ _ from hR.2.1) (by omega) (by omega)) ?_
      refine dx_val (i := 12) (fun ρ1 w1 hj hR => x_load1 TIs.out (show ρ1 29 = Value.pointer _ from hR.1) ((hr.ext hj.hp.below).at1 hd2)) ?_
      refine dx_val (i := 13) (fun ρ1 w1 hj hR => x_move (show ρ1 4 = Value.int _ _ from hR.1)) ?_
      refine dx_val (i := 14) (fun ρ1 w1 hj hR => x_remi (show ρ1 31 = Value.int _ _ from hR.1) rfl (by omega) (by omega)) ?_
      refine dx_val (i := 15) (fun ρ1 w1 hj hR => x_shlu (show ρ1 30 = Value.int _ _ from hR.1) (show ρ1 32 = Value.int _ _ from hR.2.1) (by omega)) ?_
      refine dx_nil ?_
      intro f W hJ hV
      have hb_6 := hJ.bl
      obtain ⟨v33, v32, v31, v30, v29, v28, v27, v26, v25, v24, v23, v22, v21, v20, v19, v18, _⟩ := hV
      simp only [updL]
      have e18 : f 0 = _ := v18
      rw [e18]
      have e19 : f 1 = _ := v19
      rw [e19]
      have e20 : f 2 = _ := v20
      rw [e20]
      have e21 : f 3 = _ := v21
      rw [e21]
      have e22 : f 4 = _ := v22
      rw [e22]
      have e23 : f 5 = _ := v23
      rw [e23]
      have e24 : f 6 = _ := v24
      rw [e24]
      have e25 : f 7 = _ := v25
      rw [e25]
      have e26 : f 8 = _ := v26
      rw [e26]
      have e27 : f 9 = _ := v27
      rw [e27]
      have e28 : f 10 = _ := v28
      rw [e28]
      have e29 : f 11 = _ := v29
      rw [e29]
      have e30 : f 12 = _ := v30
      rw [e30]
      have e31 : f 13 = _ := v31
      rw [e31]
      have e32 : f 14 = _ := v32
      rw [e32]
      have e33 : f 15 = _ := v33
      rw [e33]
      replace hh := hJ.hp
      clear e18 e19 e20 e21 e22 e23 e24 e25 e26 e27 e28 e29 e30 e31 e32 e33 hJ
      refine s_addu rfl rfl (by decide) ?_
      refine s_indexRow (k := (xs'.length + 7) / 8 - 1 - i / 8) UIs.out TIs.size rfl rfl (by omega) (by omega) (by decide) ?_
      -- at none := Op.store 5 (Operand.tmp 35) (Operand.tmp 34)
      refine wl_store_row hh (i := 0) (vs := [_]) rfl rfl (ev_int rfl) rfl TIs.out rfl (by rw [length_u8n, List.length_reverse, length_digK]; omega) rfl ?_
      intro ws hh
      simp only [List.set_cons_zero] at hh
      rw [e1, Nat.mod_eq_of_lt (show d * 2 ^ (i % 8) < 256 by omega), Nat.mod_eq_of_lt s1, Nat.mul_one, splice_one (by rw [length_u8n, List.length_reverse, length_digK]; omega), u8n_set, hset, ← dig_take_snoc hdi] at hh
      refine wl_nil ?_
      refine b_norm ?_
      refine k_then ?_
      refine wc_region ?_
      refine s_move (ev_int rfl) (by decide) ?_
      refine s_addi rfl rfl (by omega) (by omega) (by decide) ?_
      refine s_assign (ev_int rfl) (by decide) ?_
      refine wl_nil ?_
      refine k_then ?_
      -- at ('round',)
      refine ⟨⟨i + 1, by omega, rfl, hh⟩, by show xs'.length - (i + 1) < xs'.length - i; omega, ?_⟩
      (repeat (first | exact agree_mask _ _ _ | refine agree_upd rfl ?_ | refine agree_mask2 rfl ?_))
    · obtain rfl : i = xs'.length := by omega
      rw [List.take_length, hcv, hbl] at hh
      have hfin : u8n (digK 256 ((blen M + 7) / 8) M).reverse = u8s (sb M) := by
        rw [← hlen]
        have h1 : M < 256 ^ (digs 256 M).length := digs_lt (by omega) M
        rw [digs_pad (by omega) h1, Nat.sub_self, List.replicate_zero, List.append_nil, u8n_bytes (fun d hd => (can_digs (B := 256) (by omega) M).1 d (List.mem_reverse.1 hd)), sb, List.map_reverse]
      rw [hfin, ← hbl] at hh
      refine wc_seq ?_
      refine wc_seq ?_
      refine wc_region ?_
      refine s_move (ev_int rfl) (by decide) ?_
      refine s_move (ev_sl rfl) (by decide) ?_
      refine s_len_sl UIs.out rfl (by decide) ?_
      first | refine s_lss_t rfl rfl (by omega) (by decide) ?_ | refine s_lss_f rfl rfl (by omega) (by decide) ?_ | refine s_lss_v rfl rfl (by decide) ?_
      refine wl_end ?_
      refine wc_cond_f rfl ?_
      refine wc_exit ?_
      refine k_exit ?_
      refine k_exit ?_
      refine b_here ?_
      refine k_then ?_
      refine wc_seq ?_
      refine wc_region ?_
      refine s_move (ev_sl rfl) (by decide) ?_
      -- at some 37 := Op.convert 151 9 (Operand.tmp 36)
      refine s_bytes_str UIs.out UIs.out UIs.out rfl (hh.sl_row (i := 0) rfl) (by decide) ?_
      refine s_assign (ev_str rfl) (by decide) ?_
      refine wl_end ?_
      refine wc_ret ?_
      -- at ('end', 'ret')
      refine ret1 (by first | exact .inr rfl | exact .inl rfl) rfl (v_str rfl) ?_
      exact ⟨rfl, hh.below⟩
end Go.Proofs.YthmmofllajkejaaGreatDoor
