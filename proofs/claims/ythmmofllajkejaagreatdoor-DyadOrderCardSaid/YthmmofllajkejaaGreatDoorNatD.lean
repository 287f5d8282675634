/- The walks through the program's natural numbers (nat): down, and the package's own functions. -/
import Derived.Test.YthmmofllajkejaaGreatDoorNatC
namespace Go.Proofs.YthmmofllajkejaaGreatDoor
open Go.RowKit
-- umode
theorem Sl.drop64 {w : World} {ad : Addr} {n : Nat} {xs : List Nat} (h : Sl w (some ad) n 1 (u64s xs)) {k : Nat} (hk : k < n) : Sl w (some (ad.add (k * 1))) (n - k) 1 (u64s (xs.drop k)) := by
  have hl := h.1
  rw [length_u64s] at hl
  refine ⟨by rw [length_u64s, List.length_drop]; omega, fun h0 => ⟨_, rfl, ?_⟩⟩
  obtain ⟨ad', he, hr⟩ := h.2 (by omega)
  injection he with he
  subst he
  rw [Nat.mul_one, u64s_drop]
  exact hr.drop k
theorem down_step {N j s : Nat} (hs : s < 64) (h0 : 0 < s) :
    (N / 18446744073709551616 ^ (j + 1) % 18446744073709551616) * 2 ^ (64 - s) % 18446744073709551616 = N / 18446744073709551616 ^ (j + 1) % 2 ^ s * 2 ^ (64 - s) ∧
    (N / 18446744073709551616 ^ j % 18446744073709551616 / 2 ^ s ||| (N / 18446744073709551616 ^ (j + 1) % 18446744073709551616) * 2 ^ (64 - s) % 18446744073709551616) = N / 2 ^ (64 * j + s) % 18446744073709551616 := by
  have hW : (18446744073709551616 : Nat) = 2 ^ 64 := by decide
  have e : (18446744073709551616 : Nat) = 2 ^ s * 2 ^ (64 - s) := by rw [← Nat.pow_add, hW]; congr 1; omega
  have h1 : (N / 18446744073709551616 ^ (j + 1) % 18446744073709551616) * 2 ^ (64 - s) % 18446744073709551616 = N / 18446744073709551616 ^ (j + 1) % 2 ^ s * 2 ^ (64 - s) := by
    generalize N / 18446744073709551616 ^ (j + 1) = m
    rw [e, Nat.mul_mod_mul_right, Nat.mod_mul_right_mod]
  obtain ⟨h2, h3⟩ := down_limb N j s hs h0
  exact ⟨h1, by rw [h1, or_add h2, h3]⟩
theorem ndown_calls (A : Option Addr) (n c m : Nat) (xs : List Nat) (w : World) (hx : Sl w A n 1 (u64s xs)) (hd : Dg 18446744073709551616 xs) (hc : n ≤ c) (hn : n ≤ 1000000000) (hm : m ≤ 1000000000000) :
    Calls Tryz.prog 161 #[.slice A n c, .int .i64 (m : Int)] w fun e w' => ∃ A c, e = .returned (.slice A (digs 18446744073709551616 (dig 18446744073709551616 xs / 2 ^ m)).length c) ∧ w'.ownsRow w.heap.size 124 1 (.slice A (digs 18446744073709551616 (dig 18446744073709551616 xs / 2 ^ m)).length c) (digs 18446744073709551616 (dig 18446744073709551616 xs / 2 ^ m)).length (u64s (digs 18446744073709551616 (dig 18446744073709551616 xs / 2 ^ m))) ∧ Below w.heap.size w w' := by
  have hl := hx.1
  rw [length_u64s] at hl
  have hh := Hp.start w
  have hs1 : ((m : Int) % 64).toNat = m % 64 := by omega
  have hW : (18446744073709551616 : Nat) = 2 ^ 64 := by decide
  have hmm : 2 ^ m = 18446744073709551616 ^ (m / 64) * 2 ^ (m % 64) := by
    rw [hW, ← Nat.pow_mul, ← Nat.pow_add]; congr 1; omega
  have hlt := dig_lt hd
  rw [show xs.length = n by omega] at hlt
  by_cases hbig : n ≤ m / 64
  · have h0 : dig 18446744073709551616 xs / 2 ^ m = 0 := by
      apply Nat.div_eq_of_lt
      refine Nat.lt_of_lt_of_le hlt (Nat.le_trans (Nat.pow_le_pow_right (by decide) hbig) ?_)
      rw [hmm]
      exact Nat.le_mul_of_pos_right _ (Nat.pow_pos (by omega))
    refine calls_vc (N := 61) (l := [.slice A n c, .int .i64 (m : Int)]) Tryz.func161 rfl rfl (by simp) ?_
    refine wc_seq ?_
    refine wc_region ?_
    refine s_assign (ev_sl rfl) (by decide) ?_
    refine wl_end ?_
    refine wc_seq ?_
    refine wc_seq ?_
    refine wc_region ?_
    refine s_move (ev_int rfl) (by decide) ?_
    refine s_quoi rfl rfl (by omega) (by omega) (by omega) (by decide) ?_
    refine s_move (ev_sl rfl) (by decide) ?_
    refine s_len_sl UIs.out rfl (by decide) ?_
    first | refine s_geq_t rfl rfl (by omega) (by decide) ?_ | refine s_geq_f rfl rfl (by omega) (by decide) ?_ | refine s_geq_v rfl rfl (by decide) ?_
    refine wl_end ?_
    refine wc_cond_t rfl ?_
    refine wc_seq ?_
    refine wc_region ?_
    refine s_assign (ev_sl rfl) (by decide) ?_
    refine wl_end ?_
    refine wc_ret ?_
    refine k_ret ?_
    -- at ('end', 'ret')
    refine ret1 (by first | exact .inr rfl | exact .inl rfl) rfl (v_sl rfl) ?_
    rw [h0, digs_zero (by omega)]
    exact ⟨none, 0, rfl, World.ownsRow_nil _ _ _ _, hh.below⟩
  · obtain ⟨ad, rfl, hr⟩ := hx.at_ (by omega)
    have hsd := hx.drop64 (k := m / 64) (by omega)
    have hget : ∀ j, j < n → xs[j]? = some (dig 18446744073709551616 xs / 18446744073709551616 ^ j % 18446744073709551616) := fun j hj => by
      obtain ⟨d, hdj⟩ := get_of_lt (l := xs) (k := j) (by omega)
      rw [hdj, dig_get hd hdj]
    refine calls_vc (N := 61) (l := [.slice (some ad) n c, .int .i64 (m : Int)]) Tryz.func161 rfl rfl (by simp) ?_
    refine wc_seq ?_
    refine wc_region ?_
    refine s_assign (ev_sl rfl) (by decide) ?_
    refine wl_end ?_
    refine wc_seq ?_
    refine wc_seq ?_
    refine wc_region ?_
    refine s_move (ev_int rfl) (by decide) ?_
    refine s_quoi rfl rfl (by omega) (by omega) (by omega) (by decide) ?_
    refine s_move (ev_sl rfl) (by decide) ?_
    refine s_len_sl UIs.out rfl (by decide) ?_
    first | refine s_geq_t rfl rfl (by omega) (by decide) ?_ | refine s_geq_f rfl rfl (by omega) (by decide) ?_ | refine s_geq_v rfl rfl (by decide) ?_
    refine wl_end ?_
    refine wc_cond_f rfl ?_
    refine wc_skip ?_
    refine k_then ?_
    refine wc_seq ?_
    refine wc_region ?_
    refine s_move (ev_sl rfl) (by decide) ?_
    refine s_move (ev_int rfl) (by decide) ?_
    refine s_quoi rfl rfl (by omega) (by omega) (by omega) (by decide) ?_
    first | refine s_cutBegin (l := m / 64) UIs.out TIs.size rfl rfl (by omega) (by omega) (by omega) (by omega) (by decide) ?_ | refine s_cutBeginA (l := m / 64) UIs.out TIs.size rfl rfl (by omega) (by omega) (by omega) (by omega) (by decide) ?_
    -- at some 16 := Op.call { callee := Callee.value (Operand.func 165), args := #[Operand.tmp 15, Operand.con
    refine s_callf (ncopied_calls _ _ _ 0 _ _ hsd (by omega) (by omega)) FnIs.out rfl (by decide) ?_
    rintro e_ w_ ⟨b16, rfl, hown_, hb_⟩
    refine ⟨_, rfl, ?_⟩
    replace hh := hh.push_new (x := .row _ _ _ _ _ _) hb_ hown_
    rw [Nat.zero_max, Nat.sub_self, List.replicate_zero, List.append_nil] at hh
    rw [Nat.zero_max]
    refine s_assign (ev_sl rfl) (by decide) ?_
    refine wl_end ?_
    refine wc_seq ?_
    refine wc_seq ?_
    refine wc_region ?_
    refine s_move (ev_sl rfl) (by decide) ?_
    refine s_len_sl UIs.out rfl (by decide) ?_
    refine s_move (ev_int rfl) (by decide) ?_
    refine wl_end ?_
    refine wc_block ?_
    -- at a loop
    refine wc_loop1 [6, 19, 20, 21, 22, 23, 24, 25, 26, 27, 28, 29, 30, 31, 32, 33, 34, 35, 36, 37, 38, 39, 40, 41, 42, 43, 44, 45, 46, 47, 48, 49, 50, 51, 52, 53, 54, 55, 56, 57, 58] 19
      (fun v w' => ∃ i : Nat, i ≤ n - m / 64 ∧ v = .int .i64 i ∧ Hp w [.row (some ⟨b16, 0, none⟩) (n - m / 64) (n - m / 64) 124 1 (u64s (digK 18446744073709551616 i (dig 18446744073709551616 xs / 2 ^ m) ++ xs.drop (m / 64 + i)))] w')
      (fun v _ => (n - m / 64) - (intOf v).toNat) ?_ ?_
    · exact ⟨0, Nat.zero_le _, rfl, hh⟩
    · clear hh
      rintro ρ' v w' ⟨i, hi, rfl, hh⟩
      -- 
      -- 
      by_cases hlt2 : i < n - m / 64
      · have hgi := hget (m / 64 + i) (by omega)
        have hdr : xs.drop (m / 64 + i) = (dig 18446744073709551616 xs / 18446744073709551616 ^ (m / 64 + i) % 18446744073709551616) :: xs.drop (m / 64 + i + 1) := by
          rw [List.drop_eq_getElem_cons (by omega)]
          congr 1
          have := List.getElem?_eq_some_iff.1 hgi
          exact this.2
        have hcell : (digK 18446744073709551616 i (dig 18446744073709551616 xs / 2 ^ m) ++ xs.drop (m / 64 + i))[i]? = some (dig 18446744073709551616 xs / 18446744073709551616 ^ (m / 64 + i) % 18446744073709551616) := by
          rw [List.getElem?_append_right (by rw [length_digK]; omega), length_digK, hdr]; simp
        have hg := u64s_at hcell
        have hset : ∀ y, (digK 18446744073709551616 i (dig 18446744073709551616 xs / 2 ^ m) ++ xs.drop (m / 64 + i)).set i y = digK 18446744073709551616 i (dig 18446744073709551616 xs / 2 ^ m) ++ y :: xs.drop (m / 64 + i + 1) := fun y => by
          rw [hdr, List.set_append_right _ _ (by rw [length_digK]; omega), length_digK, Nat.sub_self, List.set_cons_zero]
        have hll : (digK 18446744073709551616 i (dig 18446744073709551616 xs / 2 ^ m) ++ xs.drop (m / 64 + i)).length = n - m / 64 := by rw [List.length_append, length_digK, List.length_drop]; omega
        have hac : ∀ y, digK 18446744073709551616 i (dig 18446744073709551616 xs / 2 ^ m) ++ y :: xs.drop (m / 64 + i + 1) = (digK 18446744073709551616 i (dig 18446744073709551616 xs / 2 ^ m) ++ [y]) ++ xs.drop (m / 64 + (i + 1)) := fun y => List.append_cons _ _ _
        have hnew : digK 18446744073709551616 (i + 1) (dig 18446744073709551616 xs / 2 ^ m) = digK 18446744073709551616 i (dig 18446744073709551616 xs / 2 ^ m) ++ [dig 18446744073709551616 xs / 2 ^ (64 * (m / 64 + i) + m % 64) % 18446744073709551616] := by
          rw [digK_snoc, Nat.div_div_eq_div_mul]
          congr 4
          rw [hW, ← Nat.pow_mul, ← Nat.pow_add]; congr 1; omega
        refine wc_seq ?_
        refine wc_region ?_
        first | refine s_lss_t rfl rfl (by omega) (by decide) ?_ | refine s_lss_f rfl rfl (by omega) (by decide) ?_ | refine s_lss_v rfl rfl (by decide) ?_
        refine wl_end ?_
        refine wc_seq ?_
        refine wc_cond_t rfl ?_
        refine wc_skip ?_
        refine k_then ?_
        refine wc_seq ?_
        refine wc_block ?_
        refine wc_seq ?_
        refine wc_region ?_
        refine s_move (ev_int rfl) (by decide) ?_
        refine s_assign (ev_int rfl) (by decide) ?_
        refine wl_end ?_
        refine wc_seq ?_
        refine wc_region ?_
        refine s_move (ev_sl rfl) (by decide) ?_
        refine s_move (ev_int rfl) (by decide) ?_
        refine s_indexRow (k := i) UIs.out TIs.size rfl rfl (by omega) (by omega) (by decide) ?_
        refine s_load1 TIs.out rfl (hh.cell_row (i := 0) rfl (by first | assumption | (simp only [Nat.mul_one]; assumption))) (by decide) ?_
        refine s_move (ev_int rfl) (by decide) ?_
        refine s_remi rfl rfl (by omega) (by omega) (by decide) ?_
        refine s_shru rfl rfl (by omega) (by decide) ?_
        refine s_indexRow (k := i) UIs.out TIs.size rfl rfl (by omega) (by omega) (by decide) ?_
        -- at none := Op.store 124 (Operand.tmp 29) (Operand.tmp 28)
        refine wl_store_row hh (i := 0) (vs := [_]) rfl rfl (ev_int rfl) rfl TIs.out rfl (by rw [length_u64s, hll]; omega) rfl ?_
        intro ws hh
        simp only [List.set_cons_zero] at hh
        rw [hs1, Nat.mul_one, splice_one (by rw [length_u64s, hll]; omega), u64s_set, hset] at hh
        by_cases h0 : m % 64 = 0
        · have e1 : dig 18446744073709551616 xs / 18446744073709551616 ^ (m / 64 + i) % 18446744073709551616 / 2 ^ (m % 64) = dig 18446744073709551616 xs / 2 ^ (64 * (m / 64 + i) + m % 64) % 18446744073709551616 := by
            rw [h0, Nat.pow_zero, Nat.div_one, Nat.add_zero, Nat.pow_mul, ← hW]
          by_cases hl : i + 1 < n - m / 64
          · refine wl_end ?_
            refine wc_seq ?_
            refine wc_region ?_
            refine s_move (ev_int rfl) (by decide) ?_
            refine s_addi rfl rfl (by omega) (by omega) (by decide) ?_
            refine s_move (ev_sl rfl) (by decide) ?_
            refine s_len_sl UIs.out rfl (by decide) ?_
            first | refine s_lss_t rfl rfl (by omega) (by decide) ?_ | refine s_lss_f rfl rfl (by omega) (by decide) ?_ | refine s_lss_v rfl rfl (by decide) ?_
            refine s_move (ev_bool rfl) (by decide) ?_
            first | (refine wl_guard_skip (by decide) rfl rfl (by decide) ?_) | (refine wl_guard_take rfl rfl ?_; (refine s_move (ev_int rfl) (by decide) ?_)) | (refine wl_guard_skipV (by decide) rfl rfl ?_)
            first | (refine wl_guard_skip (by decide) rfl rfl (by decide) ?_) | (refine wl_guard_take rfl rfl ?_; (refine s_remi rfl rfl (by omega) (by omega) (by decide) ?_)) | (refine wl_guard_skipV (by decide) rfl rfl ?_)
            first | (refine wl_guard_skip (by decide) rfl rfl (by decide) ?_) | (refine wl_guard_take rfl rfl ?_; (first | refine s_gtr_t rfl rfl (by omega) (by decide) ?_ | refine s_gtr_f rfl rfl (by omega) (by decide) ?_ | refine s_gtr_v rfl rfl (by decide) ?_)) | (refine wl_guard_skipV (by decide) rfl rfl ?_)
            first | refine s_pick_t rfl (ev_bool rfl) (by decide) ?_ | refine s_pick_f rfl (ev_bool rfl) (by decide) ?_
            refine wl_end ?_
            refine wc_cond_f rfl ?_
            refine wc_skip ?_
            refine b_norm ?_
            refine k_then ?_
            refine wc_region ?_
            refine s_addi rfl rfl (by omega) (by omega) (by decide) ?_
            refine s_move (ev_int rfl) (by decide) ?_
            refine wl_nil ?_
            refine k_then ?_
            -- at ('round',)
            rw [e1, hac, ← hnew] at hh
            refine ⟨⟨i + 1, by omega, rfl, hh⟩, by show (n - m / 64) - (i + 1) < (n - m / 64) - i; omega, ?_⟩
            (repeat (first | exact agree_mask _ _ _ | refine agree_upd rfl ?_ | refine agree_mask2 rfl ?_))
          · refine wl_end ?_
            refine wc_seq ?_
            refine wc_region ?_
            refine s_move (ev_int rfl) (by decide) ?_
            refine s_addi rfl rfl (by omega) (by omega) (by decide) ?_
            refine s_move (ev_sl rfl) (by decide) ?_
            refine s_len_sl UIs.out rfl (by decide) ?_
            first | refine s_lss_t rfl rfl (by omega) (by decide) ?_ | refine s_lss_f rfl rfl (by omega) (by decide) ?_ | refine s_lss_v rfl rfl (by decide) ?_
            refine s_move (ev_bool rfl) (by decide) ?_
            first | (refine wl_guard_skip (by decide) rfl rfl (by decide) ?_) | (refine wl_guard_take rfl rfl ?_; (refine s_move (ev_int rfl) (by decide) ?_)) | (refine wl_guard_skipV (by decide) rfl rfl ?_)
            first | (refine wl_guard_skip (by decide) rfl rfl (by decide) ?_) | (refine wl_guard_take rfl rfl ?_; (refine s_remi rfl rfl (by omega) (by omega) (by decide) ?_)) | (refine wl_guard_skipV (by decide) rfl rfl ?_)
            first | (refine wl_guard_skip (by decide) rfl rfl (by decide) ?_) | (refine wl_guard_take rfl rfl ?_; (first | refine s_gtr_t rfl rfl (by omega) (by decide) ?_ | refine s_gtr_f rfl rfl (by omega) (by decide) ?_ | refine s_gtr_v rfl rfl (by decide) ?_)) | (refine wl_guard_skipV (by decide) rfl rfl ?_)
            first | refine s_pick_t rfl (ev_bool rfl) (by decide) ?_ | refine s_pick_f rfl (ev_bool rfl) (by decide) ?_
            refine wl_end ?_
            refine wc_cond_f rfl ?_
            refine wc_skip ?_
            refine b_norm ?_
            refine k_then ?_
            refine wc_region ?_
            refine s_addi rfl rfl (by omega) (by omega) (by decide) ?_
            refine s_move (ev_int rfl) (by decide) ?_
            refine wl_nil ?_
            refine k_then ?_
            -- at ('round',)
            rw [e1, hac, ← hnew] at hh
            refine ⟨⟨i + 1, by omega, rfl, hh⟩, by show (n - m / 64) - (i + 1) < (n - m / 64) - i; omega, ?_⟩
            (repeat (first | exact agree_mask _ _ _ | refine agree_upd rfl ?_ | refine agree_mask2 rfl ?_))
        · by_cases hl : i + 1 < n - m / 64
          · have hgj := hget (m / 64 + i + 1) (by omega)
            have hgj2 := u64s_at hgj
            obtain ⟨d1, d2⟩ := down_step (N := dig 18446744073709551616 xs) (j := m / 64 + i) (s := m % 64) (Nat.mod_lt _ (by omega)) (by omega)
            have hcell2 : (digK 18446744073709551616 i (dig 18446744073709551616 xs / 2 ^ m) ++ (dig 18446744073709551616 xs / 18446744073709551616 ^ (m / 64 + i) % 18446744073709551616 / 2 ^ (m % 64)) :: xs.drop (m / 64 + i + 1))[i]? = some (dig 18446744073709551616 xs / 18446744073709551616 ^ (m / 64 + i) % 18446744073709551616 / 2 ^ (m % 64)) := by
              rw [List.getElem?_append_right (by rw [length_digK]; omega), length_digK]; simp
            have hg2 := u64s_at hcell2
            have hset2 : ∀ y z, (digK 18446744073709551616 i (dig 18446744073709551616 xs / 2 ^ m) ++ y :: xs.drop (m / 64 + i + 1)).set i z = digK 18446744073709551616 i (dig 18446744073709551616 xs / 2 ^ m) ++ z :: xs.drop (m / 64 + i + 1) := fun y z => by
              rw [List.set_append_right _ _ (by rw [length_digK]; omega), length_digK, Nat.sub_self, List.set_cons_zero]
            have hll2 : ∀ y, (digK 18446744073709551616 i (dig 18446744073709551616 xs / 2 ^ m) ++ y :: xs.drop (m / 64 + i + 1)).length = n - m / 64 := fun y => by rw [List.length_append, length_digK, List.length_cons, List.length_drop]; omega
            have hs2 : (64 - (m : Int) % 64).toNat = 64 - m % 64 := by omega
            have b1 : dig 18446744073709551616 xs / 18446744073709551616 ^ (m / 64 + i) % 18446744073709551616 / 2 ^ (m % 64) < 18446744073709551616 := Nat.lt_of_le_of_lt (Nat.div_le_self _ _) (Nat.mod_lt _ (by omega))
            have b2 : dig 18446744073709551616 xs / 18446744073709551616 ^ (m / 64 + i + 1) % 18446744073709551616 * 2 ^ (64 - (m : Int) % 64).toNat % 18446744073709551616 < 18446744073709551616 := Nat.mod_lt _ (by omega)
            -- 
            refine wl_end ?_
            refine wc_seq ?_
            refine wc_region ?_
            refine s_move (ev_int rfl) (by decide) ?_
            refine s_addi rfl rfl (by omega) (by omega) (by decide) ?_
            refine s_move (ev_sl rfl) (by decide) ?_
            refine s_len_sl UIs.out rfl (by decide) ?_
            first | refine s_lss_t rfl rfl (by omega) (by decide) ?_ | refine s_lss_f rfl rfl (by omega) (by decide) ?_ | refine s_lss_v rfl rfl (by decide) ?_
            refine s_move (ev_bool rfl) (by decide) ?_
            first | (refine wl_guard_skip (by decide) rfl rfl (by decide) ?_) | (refine wl_guard_take rfl rfl ?_; (refine s_move (ev_int rfl) (by decide) ?_)) | (refine wl_guard_skipV (by decide) rfl rfl ?_)
            first | (refine wl_guard_skip (by decide) rfl rfl (by decide) ?_) | (refine wl_guard_take rfl rfl ?_; (refine s_remi rfl rfl (by omega) (by omega) (by decide) ?_)) | (refine wl_guard_skipV (by decide) rfl rfl ?_)
            first | (refine wl_guard_skip (by decide) rfl rfl (by decide) ?_) | (refine wl_guard_take rfl rfl ?_; (first | refine s_gtr_t rfl rfl (by omega) (by decide) ?_ | refine s_gtr_f rfl rfl (by omega) (by decide) ?_ | refine s_gtr_v rfl rfl (by decide) ?_)) | (refine wl_guard_skipV (by decide) rfl rfl ?_)
            first | refine s_pick_t rfl (ev_bool rfl) (by decide) ?_ | refine s_pick_f rfl (ev_bool rfl) (by decide) ?_
            refine wl_end ?_
            refine wc_cond_t rfl ?_
            -- at the drawn region 9
            refine wc_drawn 16 [[(5, none)], [(6, none)], [(40, some 0), (41, some 1)], [(42, some 2)], [(0, none)], [(1, none)], [(45, some 5)], [(6, none)], [(46, some 6), (47, some 7)], [(48, some 8)], [(44, some 4), (49, some 9)], [(50, some 10)], [(1, none)], [(52, some 12)], [(53, some 13)], [(51, some 11), (54, some 14)]] [(15, 55), (14, 54), (13, 53), (12, 52), (11, 51), (10, 50), (9, 49), (8, 48), (7, 47), (6, 46), (5, 45), (4, 44), (3, 43), (2, 42), (1, 41), (0, 40)] hh mixed (by kernel_rfl) ?_
            refine dx_val (i := 0) (fun ρ1 w1 hj hR => x_move (show ρ1 5 = Value.slice _ _ _ from hR.1)) ?_
            refine dx_val (i := 1) (fun ρ1 w1 hj hR => x_move (show ρ1 6 = Value.int _ _ from hR.1)) ?_
            refine dx_val (i := 2) (fun ρ1 w1 hj hR => x_indexRow (k := i) UIs.out TIs.size (show ρ1 40 = Value.slice _ _ _ from hR.1) (show ρ1 41 = Value.int _ _ from hR.2.1) (by omega) (by omega)) ?_
            refine dx_val (i := 3) (fun ρ1 w1 hj hR => x_load1 TIs.out (show ρ1 42 = Value.pointer _ from hR.1) (hj.hp.cell_row (i := 0) rfl (by rw [Nat.mul_one]; exact hg2))) ?_
            refine dx_val (i := 4) (fun ρ1 w1 hj hR => x_move (show ρ1 0 = Value.slice _ _ _ from hR.1)) ?_
            refine dx_val (i := 5) (fun ρ1 w1 hj hR => x_move (show ρ1 1 = Value.int _ _ from hR.1)) ?_
            refine dx_val (i := 6) (fun ρ1 w1 hj hR => x_quoi (show ρ1 45 = Value.int _ _ from hR.1) rfl (by omega) (by omega) (by omega)) ?_
            refine dx_val (i := 7) (fun ρ1 w1 hj hR => x_move (show ρ1 6 = Value.int _ _ from hR.1)) ?_
            refine dx_val (i := 8) (fun ρ1 w1 hj hR => x_addi (show ρ1 46 = Value.int _ _ from hR.1) (show ρ1 47 = Value.int _ _ from hR.2.1) (by omega) (by omega)) ?_
            refine dx_val (i := 9) (fun ρ1 w1 hj hR => x_addi (show ρ1 48 = Value.int _ _ from hR.1) rfl (by omega) (by omega)) ?_
            refine dx_val (i := 10) (fun ρ1 w1 hj hR => x_indexSl (k := m / 64 + i + 1) UIs.out TIs.size (show ρ1 44 = Value.slice _ _ _ from hR.1) (show ρ1 49 = Value.int _ _ from hR.2.1) (by omega) (by omega)) ?_
            refine dx_val (i := 11) (fun ρ1 w1 hj hR => x_load1 TIs.out (show ρ1 50 = Value.pointer _ from hR.1) ((hr.ext hj.hp.below).at1 hgj2)) ?_
            refine dx_val (i := 12) (fun ρ1 w1 hj hR => x_move (show ρ1 1 = Value.int _ _ from hR.1)) ?_
            refine dx_val (i := 13) (fun ρ1 w1 hj hR => x_remi (show ρ1 52 = Value.int _ _ from hR.1) rfl (by omega) (by omega)) ?_
            refine dx_val (i := 14) (fun ρ1 w1 hj hR => x_subi rfl (show ρ1 53 = Value.int _ _ from hR.1) (by omega) (by omega)) ?_
            refine dx_val (i := 15) (fun ρ1 w1 hj hR => x_shlu (show ρ1 51 = Value.int _ _ from hR.1) (show ρ1 54 = Value.int _ _ from hR.2.1) (by omega)) ?_
            refine dx_nil ?_
            intro f W hJ hV
            have hb_9 := hJ.bl
            obtain ⟨v55, v54, v53, v52, v51, v50, v49, v48, v47, v46, v45, v44, v43, v42, v41, v40, _⟩ := hV
            simp only [updL]
            have e40 : f 0 = _ := v40
            rw [e40]
            have e41 : f 1 = _ := v41
            rw [e41]
            have e42 : f 2 = _ := v42
            rw [e42]
            have e43 : f 3 = _ := v43
            rw [e43]
            have e44 : f 4 = _ := v44
            rw [e44]
            have e45 : f 5 = _ := v45
            rw [e45]
            have e46 : f 6 = _ := v46
            rw [e46]
            have e47 : f 7 = _ := v47
            rw [e47]
            have e48 : f 8 = _ := v48
            rw [e48]
            have e49 : f 9 = _ := v49
            rw [e49]
            have e50 : f 10 = _ := v50
            rw [e50]
            have e51 : f 11 = _ := v51
            rw [e51]
            have e52 : f 12 = _ := v52
            rw [e52]
            have e53 : f 13 = _ := v53
            rw [e53]
            have e54 : f 14 = _ := v54
            rw [e54]
            have e55 : f 15 = _ := v55
            rw [e55]
            replace hh := hJ.hp
            clear e40 e41 e42 e43 e44 e45 e46 e47 e48 e49 e50 e51 e52 e53 e54 e55 hJ
            refine s_oru rfl rfl (by first | assumption | omega) (by first | assumption | omega) (by decide) ?_
            refine s_indexRow (k := i) UIs.out TIs.size rfl rfl (by omega) (by omega) (by decide) ?_
            -- at none := Op.store 124 (Operand.tmp 57) (Operand.tmp 56)
            refine wl_store_row hh (i := 0) (vs := [_]) rfl rfl (ev_int rfl) rfl TIs.out rfl (by rw [length_u64s, hll2]; omega) rfl ?_
            intro ws hh
            simp only [List.set_cons_zero] at hh
            rw [hs2, d2, Nat.mul_one, splice_one (by rw [length_u64s, hll2]; omega), u64s_set, hset2, hac, ← hnew] at hh
            refine wl_nil ?_
            refine b_norm ?_
            refine k_then ?_
            refine wc_region ?_
            refine s_addi rfl rfl (by omega) (by omega) (by decide) ?_
            refine s_move (ev_int rfl) (by decide) ?_
            refine wl_nil ?_
            refine k_then ?_
            -- at ('round',)
            refine ⟨⟨i + 1, by omega, rfl, hh⟩, by show (n - m / 64) - (i + 1) < (n - m / 64) - i; omega, ?_⟩
            (repeat (first | exact agree_mask _ _ _ | refine agree_upd rfl ?_ | refine agree_mask2 rfl ?_))
          · have e1 : dig 18446744073709551616 xs / 18446744073709551616 ^ (m / 64 + i) % 18446744073709551616 / 2 ^ (m % 64) = dig 18446744073709551616 xs / 2 ^ (64 * (m / 64 + i) + m % 64) % 18446744073709551616 := by
              obtain ⟨h2, h3⟩ := down_limb (dig 18446744073709551616 xs) (m / 64 + i) (m % 64) (Nat.mod_lt _ (by omega)) (by omega)
              have h4 : dig 18446744073709551616 xs / 18446744073709551616 ^ (m / 64 + i + 1) = 0 := Nat.div_eq_of_lt (Nat.lt_of_lt_of_le hlt (Nat.pow_le_pow_right (by decide) (by omega)))
              rw [h4] at h3
              simpa using h3
            refine wl_end ?_
            refine wc_seq ?_
            refine wc_region ?_
            refine s_move (ev_int rfl) (by decide) ?_
            refine s_addi rfl rfl (by omega) (by omega) (by decide) ?_
            refine s_move (ev_sl rfl) (by decide) ?_
            refine s_len_sl UIs.out rfl (by decide) ?_
            first | refine s_lss_t rfl rfl (by omega) (by decide) ?_ | refine s_lss_f rfl rfl (by omega) (by decide) ?_ | refine s_lss_v rfl rfl (by decide) ?_
            refine s_move (ev_bool rfl) (by decide) ?_
            first | (refine wl_guard_skip (by decide) rfl rfl (by decide) ?_) | (refine wl_guard_take rfl rfl ?_; (refine s_move (ev_int rfl) (by decide) ?_)) | (refine wl_guard_skipV (by decide) rfl rfl ?_)
            first | (refine wl_guard_skip (by decide) rfl rfl (by decide) ?_) | (refine wl_guard_take rfl rfl ?_; (refine s_remi rfl rfl (by omega) (by omega) (by decide) ?_)) | (refine wl_guard_skipV (by decide) rfl rfl ?_)
            first | (refine wl_guard_skip (by decide) rfl rfl (by decide) ?_) | (refine wl_guard_take rfl rfl ?_; (first | refine s_gtr_t rfl rfl (by omega) (by decide) ?_ | refine s_gtr_f rfl rfl (by omega) (by decide) ?_ | refine s_gtr_v rfl rfl (by decide) ?_)) | (refine wl_guard_skipV (by decide) rfl rfl ?_)
            first | refine s_pick_t rfl (ev_bool rfl) (by decide) ?_ | refine s_pick_f rfl (ev_bool rfl) (by decide) ?_
            refine wl_end ?_
            refine wc_cond_f rfl ?_
            refine wc_skip ?_
            refine b_norm ?_
            refine k_then ?_
            refine wc_region ?_
            refine s_addi rfl rfl (by omega) (by omega) (by decide) ?_
            refine s_move (ev_int rfl) (by decide) ?_
            refine wl_nil ?_
            refine k_then ?_
            -- at ('round',)
            rw [e1, hac, ← hnew] at hh
            refine ⟨⟨i + 1, by omega, rfl, hh⟩, by show (n - m / 64) - (i + 1) < (n - m / 64) - i; omega, ?_⟩
            (repeat (first | exact agree_mask _ _ _ | refine agree_upd rfl ?_ | refine agree_mask2 rfl ?_))
      · obtain rfl : i = n - m / 64 := by omega
        rw [List.drop_eq_nil_of_le (by omega), List.append_nil] at hh
        refine wc_seq ?_
        refine wc_region ?_
        first | refine s_lss_t rfl rfl (by omega) (by decide) ?_ | refine s_lss_f rfl rfl (by omega) (by decide) ?_ | refine s_lss_v rfl rfl (by decide) ?_
        refine wl_end ?_
        refine wc_seq ?_
        refine wc_cond_f rfl ?_
        refine wc_exit ?_
        refine k_exit ?_
        refine k_exit ?_
        refine b_here ?_
        refine k_then ?_
        refine wc_seq ?_
        refine wc_region ?_
        refine s_move (ev_sl rfl) (by decide) ?_
        -- at some 60 := Op.call { callee := Callee.value (Operand.func 159), args := #[Operand.tmp 59], argTypes :
        refine s_callf (cut_calls _ _ _ (digK 18446744073709551616 (n - m / 64) (dig 18446744073709551616 xs / 2 ^ m)) _ (hh.sl_row (i := 0) rfl) (Nat.le_refl _) (by omega)) FnIs.out rfl (by decide) ?_
        rintro e_ w60 ⟨rfl, hb_⟩
        refine ⟨_, rfl, ?_⟩
        replace hh := hh.ext hb_
        refine s_assign (ev_sl rfl) (by decide) ?_
        refine wl_end ?_
        refine wc_ret ?_
        -- at ('end', 'ret')
        refine ret1 (by first | exact .inr rfl | exact .inl rfl) rfl (v_sl rfl) ?_
        have hbd : dig 18446744073709551616 xs / 2 ^ m < 18446744073709551616 ^ (n - m / 64) := by
          rw [Nat.div_lt_iff_lt_mul (Nat.pow_pos (by omega)), hmm, ← Nat.mul_assoc, ← Nat.pow_add, show n - m / 64 + m / 64 = n by omega]
          exact Nat.lt_of_lt_of_le hlt (Nat.le_mul_of_pos_right _ (Nat.pow_pos (by omega)))
        have hd : cutL (digK 18446744073709551616 (n - m / 64) (dig 18446744073709551616 xs / 2 ^ m)) = digs 18446744073709551616 (dig 18446744073709551616 xs / 2 ^ m) := by
          rw [cutL_digs (by omega) (dg_digK (by omega) _ _), dig_digK_lt hbd]
        have h1 := (Hp.cut64 (xs := digK 18446744073709551616 (n - m / 64) (dig 18446744073709551616 xs / 2 ^ m)) hh (length_digK _ _)).at_ (i := 0) rfl
        rw [hd] at h1
        rw [hd]
        exact ⟨_, _, rfl, h1, hh.below⟩
end Go.Proofs.YthmmofllajkejaaGreatDoor
