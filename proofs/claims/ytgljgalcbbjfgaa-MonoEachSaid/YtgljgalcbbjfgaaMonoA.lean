/- The walks through count and All. -/
import Derived.Test.YtgljgalcbbjfgaaMonoR
import Derived.Test.YtgljgalcbbjfgaaMonoG
namespace Go.Proofs.Ytgljgalcbbjfgaa
open Go.RowKit
theorem count_calls {w0 : World} {H : List HE} {L D : Option Addr} {n c c' : Nat} {ls ds : List Int} (w : World) (hh : Hp w0 (.row L n c 3 1 (i64s ls) :: H) w) (hD : Sl w0 D n 1 (i64s ds)) (hn : n ≤ 100000)
    (hl : ls.all expOk = true) (hd : ds.all expOk = true) (hll : ls.length = n) :
    Calls Try.prog 28 #[.slice L n c, .slice D n c'] w fun e w' =>
      match nxt ds ls with
      | some l' => e = .returned (.bool true) ∧ Hp w0 (.row L n c 3 1 (i64s l') :: H) w'
      | none => e = .returned (.bool false) ∧ Hp w0 (.row L n c 3 1 (i64s (zeros n)) :: H) w' := by
  have hdl : ds.length = n := by have := hD.1; rw [length_i64s] at this; omega
  refine calls_vc (N := 31) (l := [.slice L n c, .slice D n c']) Try.func28 rfl rfl (by simp) ?_
  -- 
  -- 
  refine wc_seq ?_
  refine wc_region ?_
  refine s_assign (ev_bool rfl) (by decide) ?_
  refine wl_end ?_
  refine wc_seq ?_
  refine wc_seq ?_
  refine wc_region ?_
  refine s_move (ev_sl rfl) (by decide) ?_
  refine s_len_sl UIs.out rfl (by decide) ?_
  refine s_subi rfl rfl (by omega) (by omega) (by decide) ?_
  refine s_assign (ev_int rfl) (by decide) ?_
  refine wl_end ?_
  refine wc_block ?_
  -- at a loop
  refine wc_loop1 [4, 5, 9, 10, 11, 12, 13, 14, 15, 16, 17, 18, 19, 20, 21, 22, 23, 24, 25, 26, 27, 28, 29, 30] 5
    (fun i w' => ∃ (k : Nat) (z : Int), k ≤ n ∧ i = .int .i64 z ∧ z = (k : Int) - 1 ∧ nxt (ds.drop k) (ls.drop k) = none ∧ Hp w0 (.row L n c 3 1 (i64s (odoL ls k n)) :: H) w')
    (fun i _ => (intOf i + 1).toNat) ?_ ?_
  · exact ⟨n, _, Nat.le_refl _, rfl, rfl, by rw [List.drop_of_length_le (by omega)]; rfl, by rw [odo_full hll]; exact hh⟩
  · clear hh
    rintro ρ' i w' ⟨k, z, hk, rfl, hz, hnx, hh⟩
    cases k with
    | zero =>
      refine wc_seq ?_
      refine wc_seq ?_
      refine wc_region ?_
      refine s_move (ev_int rfl) (by decide) ?_
      first | refine s_geq_t rfl rfl (by omega) (by decide) ?_ | refine s_geq_f rfl rfl (by omega) (by decide) ?_
      refine wl_end ?_
      refine wc_cond_f rfl ?_
      refine wc_exit ?_
      refine k_exit ?_
      refine k_exit ?_
      refine b_here ?_
      refine k_then ?_
      refine wc_seq ?_
      refine wc_region ?_
      refine s_assign (ev_bool rfl) (by decide) ?_
      refine wl_end ?_
      refine wc_ret ?_
      -- at ('end', 'ret')
      refine ret1 (by first | exact .inr rfl | exact .inl rfl) rfl rfl ?_
      rw [List.drop_zero, List.drop_zero] at hnx
      rw [hnx]
      exact ⟨rfl, by simpa [odoL] using hh⟩
    | succ k =>
      obtain rfl : z = (k : Int) := by omega
      obtain ⟨x, hx⟩ := get_of_lt (l := ls) (k := k) (by omega)
      obtain ⟨d, hdk⟩ := get_of_lt (l := ds) (k := k) (by omega)
      have bx := expOk_at hl hx
      have bd := expOk_at hd hdk
      have hx2 := i64s_at (odo_at (n := n) hx)
      have hol := odo_len hll hk
      have hol2 := length_i64s (odoL ls (k + 1) n)
      obtain ⟨g, rfl⟩ := hh.row_some (i := 0) rfl (by omega)
      have hD' := hD.ext hh.below
      obtain ⟨ad, rfl, hr⟩ := hD'.at_ (by omega)
      by_cases hlt : x < d
      · refine wc_seq ?_
        refine wc_seq ?_
        refine wc_region ?_
        refine s_move (ev_int rfl) (by decide) ?_
        first | refine s_geq_t rfl rfl (by omega) (by decide) ?_ | refine s_geq_f rfl rfl (by omega) (by decide) ?_
        refine wl_end ?_
        refine wc_cond_t rfl ?_
        refine wc_skip ?_
        refine k_then ?_
        refine wc_seq ?_
        refine wc_block ?_
        refine wc_seq ?_
        refine wc_seq ?_
        -- at the drawn region 4
        refine wc_drawn 8 [[(0, none)], [(5, none)], [(13, some 0), (14, some 1)], [(15, some 2)], [(1, none)], [(5, none)], [(17, some 4), (18, some 5)], [(19, some 6)]] [(7, 20), (6, 19), (5, 18), (4, 17), (3, 16), (2, 15), (1, 14), (0, 13)] hh mixed (by kernel_rfl) ?_
        refine dx_val (i := 0) (fun ρ1 w1 hj hR => x_move (show ρ1 0 = Value.slice _ _ _ from hR.1)) ?_
        refine dx_val (i := 1) (fun ρ1 w1 hj hR => x_move (show ρ1 5 = Value.int _ _ from hR.1)) ?_
        refine dx_val (i := 2) (fun ρ1 w1 hj hR => x_indexRow UIs.out TIs.size (show ρ1 13 = Value.slice _ _ _ from hR.1) (show ρ1 14 = Value.int _ _ from hR.2.1) rfl (by omega)) ?_
        refine dx_val (i := 3) (fun ρ1 w1 hj hR => x_load1 TIs.out (show ρ1 15 = Value.pointer _ from hR.1) (hj.hp.cell_row (i := 0) rfl (by rw [Nat.mul_one]; exact hx2))) ?_
        refine dx_val (i := 4) (fun ρ1 w1 hj hR => x_move (show ρ1 1 = Value.slice _ _ _ from hR.1)) ?_
        refine dx_val (i := 5) (fun ρ1 w1 hj hR => x_move (show ρ1 5 = Value.int _ _ from hR.1)) ?_
        refine dx_val (i := 6) (fun ρ1 w1 hj hR => x_indexAddr UIs.out TIs.size (show ρ1 17 = Value.slice _ _ _ from hR.1) (show ρ1 18 = Value.int _ _ from hR.2.1) (by omega) (by omega)) ?_
        refine dx_val (i := 7) (fun ρ1 w1 hj hR => x_load1 TIs.out (show ρ1 19 = Value.pointer _ from hR.1) (rd_elem1 (hr.ext hj.bl) (i64s_at hdk) rfl)) ?_
        refine dx_nil ?_
        intro f W hJ hV
        have hb_4 := hJ.bl
        obtain ⟨v20, v19, v18, v17, v16, v15, v14, v13, _⟩ := hV
        simp only [updL]
        have e13 : f 0 = _ := v13
        rw [e13]
        have e14 : f 1 = _ := v14
        rw [e14]
        have e15 : f 2 = _ := v15
        rw [e15]
        have e16 : f 3 = _ := v16
        rw [e16]
        have e17 : f 4 = _ := v17
        rw [e17]
        have e18 : f 5 = _ := v18
        rw [e18]
        have e19 : f 6 = _ := v19
        rw [e19]
        have e20 : f 7 = _ := v20
        rw [e20]
        replace hh := hJ.hp
        clear e13 e14 e15 e16 e17 e18 e19 e20 hJ
        first | refine s_lss_t rfl rfl (by omega) (by decide) ?_ | refine s_lss_f rfl rfl (by omega) (by decide) ?_
        refine wl_end ?_
        refine wc_cond_t rfl ?_
        refine wc_seq ?_
        refine wc_region ?_
        refine s_move (ev_sl rfl) (by decide) ?_
        refine s_move (ev_int rfl) (by decide) ?_
        refine s_indexRow UIs.out TIs.size rfl rfl rfl (by omega) (by decide) ?_
        refine s_load1 TIs.out rfl (hh.cell_row (i := 0) rfl (by first | assumption | (simp only [Nat.mul_one]; assumption))) (by decide) ?_
        refine s_addi rfl rfl (by omega) (by omega) (by decide) ?_
        refine s_indexRow UIs.out TIs.size rfl rfl rfl (by omega) (by decide) ?_
        -- at none := Op.store 3 (Operand.tmp 27) (Operand.tmp 26)
        refine wl_store_row hh (i := 0) (vs := [_]) rfl rfl (ev_int rfl) rfl TIs.out rfl (by omega) rfl ?_
        intro ws hh
        simp only [List.set_cons_zero] at hh
        refine wl_end ?_
        refine wc_seq ?_
        refine wc_region ?_
        refine s_assign (ev_bool rfl) (by decide) ?_
        refine wl_end ?_
        refine wc_ret ?_
        refine k_ret ?_
        refine b_ret ?_
        refine k_ret ?_
        refine k_ret ?_
        refine b_ret ?_
        refine k_ret ?_
        -- at ('end', 'ret')
        refine ret1 (by first | exact .inr rfl | exact .inl rfl) rfl rfl ?_
        rw [Nat.mul_one, odo_set _ hll (by omega)] at hh
        rw [odo_some hdl hll hdk hx hnx hlt]
        exact ⟨rfl, hh⟩
      · refine wc_seq ?_
        refine wc_seq ?_
        refine wc_region ?_
        refine s_move (ev_int rfl) (by decide) ?_
        first | refine s_geq_t rfl rfl (by omega) (by decide) ?_ | refine s_geq_f rfl rfl (by omega) (by decide) ?_
        refine wl_end ?_
        refine wc_cond_t rfl ?_
        refine wc_skip ?_
        refine k_then ?_
        refine wc_seq ?_
        refine wc_block ?_
        refine wc_seq ?_
        refine wc_seq ?_
        -- at the drawn region 4
        refine wc_drawn 8 [[(0, none)], [(5, none)], [(13, some 0), (14, some 1)], [(15, some 2)], [(1, none)], [(5, none)], [(17, some 4), (18, some 5)], [(19, some 6)]] [(7, 20), (6, 19), (5, 18), (4, 17), (3, 16), (2, 15), (1, 14), (0, 13)] hh mixed (by kernel_rfl) ?_
        refine dx_val (i := 0) (fun ρ1 w1 hj hR => x_move (show ρ1 0 = Value.slice _ _ _ from hR.1)) ?_
        refine dx_val (i := 1) (fun ρ1 w1 hj hR => x_move (show ρ1 5 = Value.int _ _ from hR.1)) ?_
        refine dx_val (i := 2) (fun ρ1 w1 hj hR => x_indexRow UIs.out TIs.size (show ρ1 13 = Value.slice _ _ _ from hR.1) (show ρ1 14 = Value.int _ _ from hR.2.1) rfl (by omega)) ?_
        refine dx_val (i := 3) (fun ρ1 w1 hj hR => x_load1 TIs.out (show ρ1 15 = Value.pointer _ from hR.1) (hj.hp.cell_row (i := 0) rfl (by rw [Nat.mul_one]; exact hx2))) ?_
        refine dx_val (i := 4) (fun ρ1 w1 hj hR => x_move (show ρ1 1 = Value.slice _ _ _ from hR.1)) ?_
        refine dx_val (i := 5) (fun ρ1 w1 hj hR => x_move (show ρ1 5 = Value.int _ _ from hR.1)) ?_
        refine dx_val (i := 6) (fun ρ1 w1 hj hR => x_indexAddr UIs.out TIs.size (show ρ1 17 = Value.slice _ _ _ from hR.1) (show ρ1 18 = Value.int _ _ from hR.2.1) (by omega) (by omega)) ?_
        refine dx_val (i := 7) (fun ρ1 w1 hj hR => x_load1 TIs.out (show ρ1 19 = Value.pointer _ from hR.1) (rd_elem1 (hr.ext hj.bl) (i64s_at hdk) rfl)) ?_
        refine dx_nil ?_
        intro f W hJ hV
        have hb_4 := hJ.bl
        obtain ⟨v20, v19, v18, v17, v16, v15, v14, v13, _⟩ := hV
        simp only [updL]
        have e13 : f 0 = _ := v13
        rw [e13]
        have e14 : f 1 = _ := v14
        rw [e14]
        have e15 : f 2 = _ := v15
        rw [e15]
        have e16 : f 3 = _ := v16
        rw [e16]
        have e17 : f 4 = _ := v17
        rw [e17]
        have e18 : f 5 = _ := v18
        rw [e18]
        have e19 : f 6 = _ := v19
        rw [e19]
        have e20 : f 7 = _ := v20
        rw [e20]
        replace hh := hJ.hp
        clear e13 e14 e15 e16 e17 e18 e19 e20 hJ
        first | refine s_lss_t rfl rfl (by omega) (by decide) ?_ | refine s_lss_f rfl rfl (by omega) (by decide) ?_
        refine wl_end ?_
        refine wc_cond_f rfl ?_
        refine wc_skip ?_
        refine k_then ?_
        refine wc_region ?_
        refine s_move (ev_sl rfl) (by decide) ?_
        refine s_move (ev_int rfl) (by decide) ?_
        refine s_indexRow UIs.out TIs.size rfl rfl rfl (by omega) (by decide) ?_
        -- at none := Op.store 3 (Operand.tmp 30) (Operand.const (Value.int IntKind.i64 0))
        refine wl_store_row hh (i := 0) (vs := [_]) rfl rfl (ev_int rfl) rfl TIs.out rfl (by omega) rfl ?_
        intro ws hh
        simp only [List.set_cons_zero] at hh
        refine wl_nil ?_
        refine b_norm ?_
        refine k_then ?_
        refine wc_region ?_
        refine s_move (ev_int rfl) (by decide) ?_
        refine s_subi rfl rfl (by omega) (by omega) (by decide) ?_
        refine s_assign (ev_int rfl) (by decide) ?_
        refine wl_nil ?_
        refine k_then ?_
        -- at ('round',)
        rw [Nat.mul_one, odo_set _ hll (by omega), odo_zero (by omega)] at hh
        refine ⟨⟨k, _, by omega, rfl, rfl, odo_none hdk hx hnx hlt, hh⟩, by show ((k : Int) - 1 + 1).toNat < ((k : Int) + 1).toNat; omega, ?_⟩
        (repeat (first | exact agree_mask _ _ _ | refine agree_upd rfl ?_ | refine agree_mask2 rfl ?_))
theorem zrep_i64 (n : Nat) : zrep n [Value.int .i64 0] = i64s (zeros n) := by rw [zrep_one]; simp [i64s, zeros]
theorem strs_snoc (l : List ByteArray) (x : ByteArray) : strs l ++ [.string x] = strs (l ++ [x]) := by simp [strs]
theorem all_calls (D : Option Addr) (n c : Nat) (ds : List Int) (w : World) (hD : Sl w D n 1 (i64s ds)) (hn : n ≤ 100000) :
    Calls Try.prog 23 #[.slice D n c] w fun e w' => ∃ A c, e = .returned (.slice A (allL ds).length c) ∧ w'.ownsRow w.heap.size 9 1 (.slice A (allL ds).length c) (allL ds).length (strs (allL ds)) ∧ Below w.heap.size w w' := by
  have hdl : ds.length = n := by have := hD.1; rw [length_i64s] at this; omega
  have hh := Hp.start w
  refine calls_vc (N := 52) (l := [.slice D n c]) Try.func23 rfl rfl (by simp) ?_
  refine wc_seq ?_
  refine wc_region ?_
  refine s_assign (ev_sl rfl) (by decide) ?_
  refine wl_end ?_
  refine wc_seq ?_
  refine wc_region ?_
  refine s_assign (ev_int rfl) (by decide) ?_
  refine wl_end ?_
  refine wc_seq ?_
  refine wc_seq ?_
  refine wc_region ?_
  refine s_move (ev_sl rfl) (by decide) ?_
  refine s_len_sl UIs.out rfl (by decide) ?_
  refine s_move (ev_int rfl) (by decide) ?_
  refine wl_end ?_
  refine wc_block ?_
  -- at a loop
  refine wc_loop2 [2, 3, 5, 13, 14, 15, 16, 17, 18, 19, 20, 21, 22, 23, 24, 25, 26, 27, 28, 29, 30, 31, 32, 33, 34] 3 13
    (fun p i w' => ∃ (k : Nat), k ≤ n ∧ i = .int .i64 k ∧ p = .int .i64 (allX (ds.take k)).length ∧ (allX (ds.take k)).length ≤ 65536 ∧ okN 1 ds = okN (allX (ds.take k)).length (ds.drop k) ∧ w = w')
    (fun _ i _ => n - (intOf i).toNat) ?_ ?_
  · exact ⟨0, Nat.zero_le _, rfl, rfl, by simp [allX], rfl, rfl⟩
  · rintro ρ' p i w' ⟨k, hk, rfl, rfl, hsz, hok, rfl⟩
    by_cases hlt : k < n
    · obtain ⟨d, hdk⟩ := get_of_lt (l := ds) (k := k) (by omega)
      obtain ⟨ad, rfl, hr⟩ := hD.at_ (by omega)
      have hpos := allX_pos (ds.take k)
      by_cases hb1 : 0 ≤ d ∧ d ≤ 127
      · have hm1 : (0 : Int) ≤ (allX (ds.take k)).length * (d + 1) := Int.mul_nonneg (by omega) (by omega)
        have hm2 : ((allX (ds.take k)).length : Int) * (d + 1) ≤ 65536 * 128 := Int.mul_le_mul (by omega) (by omega) (by omega) (by omega)
        by_cases hb2 : ((allX (ds.take k)).length : Int) * (d + 1) ≤ 65536
        · have hstep := okN_step hdk hok ⟨hb1, hb2⟩
          rw [← length_take_succ hdk hb1.1] at hstep
          have hl2 := length_take_succ hdk hb1.1
          refine wc_seq ?_
          refine wc_region ?_
          first | refine s_lss_t rfl rfl (by omega) (by decide) ?_ | refine s_lss_f rfl rfl (by omega) (by decide) ?_
          refine wl_end ?_
          refine wc_seq ?_
          refine wc_cond_t rfl ?_
          refine wc_skip ?_
          refine k_then ?_
          refine wc_seq ?_
          refine wc_block ?_
          refine wc_seq ?_
          refine wc_region ?_
          refine s_indexAddr UIs.out TIs.size rfl rfl (by omega) (by omega) (by decide) ?_
          -- at some 16 := Op.load 3 (Operand.tmp 15)
          refine s_load1 TIs.out rfl (rd_elem1 hr (i64s_at hdk) rfl) (by decide) ?_
          refine s_assign (ev_int rfl) (by decide) ?_
          refine wl_end ?_
          refine wc_seq ?_
          refine wc_seq ?_
          refine wc_region ?_
          refine s_move (ev_int rfl) (by decide) ?_
          first | refine s_lss_t rfl rfl (by omega) (by decide) ?_ | refine s_lss_f rfl rfl (by omega) (by decide) ?_
          refine s_move (ev_bool rfl) (by decide) ?_
          first | (refine wl_guard_skip (by decide) rfl rfl (by decide) ?_) | (refine wl_guard_take rfl rfl ?_; (refine s_move (ev_int rfl) (by decide) ?_)) | (refine wl_guard_skipV (by decide) rfl rfl ?_)
          first | (refine wl_guard_skip (by decide) rfl rfl (by decide) ?_) | (refine wl_guard_take rfl rfl ?_; (first | refine s_gtr_t rfl rfl (by omega) (by decide) ?_ | refine s_gtr_f rfl rfl (by omega) (by decide) ?_)) | (refine wl_guard_skipV (by decide) rfl rfl ?_)
          first | refine s_pick_t rfl (ev_bool rfl) (by decide) ?_ | refine s_pick_f rfl (ev_bool rfl) (by decide) ?_
          refine s_move (ev_bool rfl) (by decide) ?_
          first | (refine wl_guard_skip (by decide) rfl rfl (by decide) ?_) | (refine wl_guard_take rfl rfl ?_; (refine s_move (ev_int rfl) (by decide) ?_)) | (refine wl_guard_skipV (by decide) rfl rfl ?_)
          first | (refine wl_guard_skip (by decide) rfl rfl (by decide) ?_) | (refine wl_guard_take rfl rfl ?_; (refine s_move (ev_int rfl) (by decide) ?_)) | (refine wl_guard_skipV (by decide) rfl rfl ?_)
          first | (refine wl_guard_skip (by decide) rfl rfl (by decide) ?_) | (refine wl_guard_take rfl rfl ?_; (refine s_addi rfl rfl (by omega) (by omega) (by decide) ?_)) | (refine wl_guard_skipV (by decide) rfl rfl ?_)
          first | (refine wl_guard_skip (by decide) rfl rfl (by decide) ?_) | (refine wl_guard_take rfl rfl ?_; (refine s_muli rfl rfl (by omega) (by omega) (by decide) ?_)) | (refine wl_guard_skipV (by decide) rfl rfl ?_)
          first | (refine wl_guard_skip (by decide) rfl rfl (by decide) ?_) | (refine wl_guard_take rfl rfl ?_; (first | refine s_gtr_t rfl rfl (by omega) (by decide) ?_ | refine s_gtr_f rfl rfl (by omega) (by decide) ?_)) | (refine wl_guard_skipV (by decide) rfl rfl ?_)
          first | refine s_pick_t rfl (ev_bool rfl) (by decide) ?_ | refine s_pick_f rfl (ev_bool rfl) (by decide) ?_
          refine wl_end ?_
          refine wc_cond_f rfl ?_
          refine wc_skip ?_
          refine k_then ?_
          refine wc_region ?_
          refine s_move (ev_int rfl) (by decide) ?_
          refine s_move (ev_int rfl) (by decide) ?_
          refine s_addi rfl rfl (by omega) (by omega) (by decide) ?_
          refine s_muli rfl rfl (by omega) (by omega) (by decide) ?_
          refine s_assign (ev_int rfl) (by decide) ?_
          refine wl_nil ?_
          refine b_norm ?_
          refine k_then ?_
          refine wc_region ?_
          refine s_addi rfl rfl (by omega) (by omega) (by decide) ?_
          refine s_move (ev_int rfl) (by decide) ?_
          refine wl_nil ?_
          refine k_then ?_
          -- at ('round',)
          refine ⟨⟨k + 1, by omega, rfl, by rw [hl2]; rfl, by omega, hstep, rfl⟩, by show n - (k + 1) < n - k; omega, ?_⟩
          (repeat (first | exact agree_mask _ _ _ | refine agree_upd rfl ?_ | refine agree_mask2 rfl ?_))
        · have hf := okN_fail hdk hok fun h => hb2 h.2
          refine wc_seq ?_
          refine wc_region ?_
          first | refine s_lss_t rfl rfl (by omega) (by decide) ?_ | refine s_lss_f rfl rfl (by omega) (by decide) ?_
          refine wl_end ?_
          refine wc_seq ?_
          refine wc_cond_t rfl ?_
          refine wc_skip ?_
          refine k_then ?_
          refine wc_seq ?_
          refine wc_block ?_
          refine wc_seq ?_
          refine wc_region ?_
          refine s_indexAddr UIs.out TIs.size rfl rfl (by omega) (by omega) (by decide) ?_
          -- at some 16 := Op.load 3 (Operand.tmp 15)
          refine s_load1 TIs.out rfl (rd_elem1 hr (i64s_at hdk) rfl) (by decide) ?_
          refine s_assign (ev_int rfl) (by decide) ?_
          refine wl_end ?_
          refine wc_seq ?_
          refine wc_seq ?_
          refine wc_region ?_
          refine s_move (ev_int rfl) (by decide) ?_
          first | refine s_lss_t rfl rfl (by omega) (by decide) ?_ | refine s_lss_f rfl rfl (by omega) (by decide) ?_
          refine s_move (ev_bool rfl) (by decide) ?_
          first | (refine wl_guard_skip (by decide) rfl rfl (by decide) ?_) | (refine wl_guard_take rfl rfl ?_; (refine s_move (ev_int rfl) (by decide) ?_)) | (refine wl_guard_skipV (by decide) rfl rfl ?_)
          first | (refine wl_guard_skip (by decide) rfl rfl (by decide) ?_) | (refine wl_guard_take rfl rfl ?_; (first | refine s_gtr_t rfl rfl (by omega) (by decide) ?_ | refine s_gtr_f rfl rfl (by omega) (by decide) ?_)) | (refine wl_guard_skipV (by decide) rfl rfl ?_)
          first | refine s_pick_t rfl (ev_bool rfl) (by decide) ?_ | refine s_pick_f rfl (ev_bool rfl) (by decide) ?_
          refine s_move (ev_bool rfl) (by decide) ?_
          first | (refine wl_guard_skip (by decide) rfl rfl (by decide) ?_) | (refine wl_guard_take rfl rfl ?_; (refine s_move (ev_int rfl) (by decide) ?_)) | (refine wl_guard_skipV (by decide) rfl rfl ?_)
          first | (refine wl_guard_skip (by decide) rfl rfl (by decide) ?_) | (refine wl_guard_take rfl rfl ?_; (refine s_move (ev_int rfl) (by decide) ?_)) | (refine wl_guard_skipV (by decide) rfl rfl ?_)
          first | (refine wl_guard_skip (by decide) rfl rfl (by decide) ?_) | (refine wl_guard_take rfl rfl ?_; (refine s_addi rfl rfl (by omega) (by omega) (by decide) ?_)) | (refine wl_guard_skipV (by decide) rfl rfl ?_)
          first | (refine wl_guard_skip (by decide) rfl rfl (by decide) ?_) | (refine wl_guard_take rfl rfl ?_; (refine s_muli rfl rfl (by omega) (by omega) (by decide) ?_)) | (refine wl_guard_skipV (by decide) rfl rfl ?_)
          first | (refine wl_guard_skip (by decide) rfl rfl (by decide) ?_) | (refine wl_guard_take rfl rfl ?_; (first | refine s_gtr_t rfl rfl (by omega) (by decide) ?_ | refine s_gtr_f rfl rfl (by omega) (by decide) ?_)) | (refine wl_guard_skipV (by decide) rfl rfl ?_)
          first | refine s_pick_t rfl (ev_bool rfl) (by decide) ?_ | refine s_pick_f rfl (ev_bool rfl) (by decide) ?_
          refine wl_end ?_
          refine wc_cond_t rfl ?_
          refine wc_seq ?_
          refine wc_region ?_
          refine s_assign (ev_sl rfl) (by decide) ?_
          refine wl_end ?_
          refine wc_ret ?_
          refine k_ret ?_
          refine b_ret ?_
          refine k_ret ?_
          refine k_ret ?_
          refine b_ret ?_
          refine k_ret ?_
          -- at ('end', 'ret')
          refine ret1 (by first | exact .inr rfl | exact .inl rfl) rfl rfl ?_
          simp only [allL, hf]
          exact ⟨none, 0, rfl, World.ownsRow_nil _ _ _ _, hh.below⟩
      · have hf := okN_fail hdk hok fun h => hb1 h.1
        refine wc_seq ?_
        refine wc_region ?_
        first | refine s_lss_t rfl rfl (by omega) (by decide) ?_ | refine s_lss_f rfl rfl (by omega) (by decide) ?_
        refine wl_end ?_
        refine wc_seq ?_
        refine wc_cond_t rfl ?_
        refine wc_skip ?_
        refine k_then ?_
        refine wc_seq ?_
        refine wc_block ?_
        refine wc_seq ?_
        refine wc_region ?_
        refine s_indexAddr UIs.out TIs.size rfl rfl (by omega) (by omega) (by decide) ?_
        -- at some 16 := Op.load 3 (Operand.tmp 15)
        refine s_load1 TIs.out rfl (rd_elem1 hr (i64s_at hdk) rfl) (by decide) ?_
        by_cases h0 : d < 0
        · refine s_assign (ev_int rfl) (by decide) ?_
          refine wl_end ?_
          refine wc_seq ?_
          refine wc_seq ?_
          refine wc_region ?_
          refine s_move (ev_int rfl) (by decide) ?_
          first | refine s_lss_t rfl rfl (by omega) (by decide) ?_ | refine s_lss_f rfl rfl (by omega) (by decide) ?_
          refine s_move (ev_bool rfl) (by decide) ?_
          first | (refine wl_guard_skip (by decide) rfl rfl (by decide) ?_) | (refine wl_guard_take rfl rfl ?_; (refine s_move (ev_int rfl) (by decide) ?_)) | (refine wl_guard_skipV (by decide) rfl rfl ?_)
          first | (refine wl_guard_skip (by decide) rfl rfl (by decide) ?_) | (refine wl_guard_take rfl rfl ?_; (first | refine s_gtr_t rfl rfl (by omega) (by decide) ?_ | refine s_gtr_f rfl rfl (by omega) (by decide) ?_)) | (refine wl_guard_skipV (by decide) rfl rfl ?_)
          first | refine s_pick_t rfl (ev_bool rfl) (by decide) ?_ | refine s_pick_f rfl (ev_bool rfl) (by decide) ?_
          refine s_move (ev_bool rfl) (by decide) ?_
          first | (refine wl_guard_skip (by decide) rfl rfl (by decide) ?_) | (refine wl_guard_take rfl rfl ?_; (refine s_move (ev_int rfl) (by decide) ?_)) | (refine wl_guard_skipV (by decide) rfl rfl ?_)
          first | (refine wl_guard_skip (by decide) rfl rfl (by decide) ?_) | (refine wl_guard_take rfl rfl ?_; (refine s_move (ev_int rfl) (by decide) ?_)) | (refine wl_guard_skipV (by decide) rfl rfl ?_)
          first | (refine wl_guard_skip (by decide) rfl rfl (by decide) ?_) | (refine wl_guard_take rfl rfl ?_; (refine s_addi rfl rfl (by omega) (by omega) (by decide) ?_)) | (refine wl_guard_skipV (by decide) rfl rfl ?_)
          first | (refine wl_guard_skip (by decide) rfl rfl (by decide) ?_) | (refine wl_guard_take rfl rfl ?_; (refine s_muli rfl rfl (by omega) (by omega) (by decide) ?_)) | (refine wl_guard_skipV (by decide) rfl rfl ?_)
          first | (refine wl_guard_skip (by decide) rfl rfl (by decide) ?_) | (refine wl_guard_take rfl rfl ?_; (first | refine s_gtr_t rfl rfl (by omega) (by decide) ?_ | refine s_gtr_f rfl rfl (by omega) (by decide) ?_)) | (refine wl_guard_skipV (by decide) rfl rfl ?_)
          first | refine s_pick_t rfl (ev_bool rfl) (by decide) ?_ | refine s_pick_f rfl (ev_bool rfl) (by decide) ?_
          refine wl_end ?_
          refine wc_cond_t rfl ?_
          refine wc_seq ?_
          refine wc_region ?_
          refine s_assign (ev_sl rfl) (by decide) ?_
          refine wl_end ?_
          refine wc_ret ?_
          refine k_ret ?_
          refine b_ret ?_
          refine k_ret ?_
          refine k_ret ?_
          refine b_ret ?_
          refine k_ret ?_
          -- at ('end', 'ret')
          refine ret1 (by first | exact .inr rfl | exact .inl rfl) rfl rfl ?_
          simp only [allL, hf]
          exact ⟨none, 0, rfl, World.ownsRow_nil _ _ _ _, hh.below⟩
        · refine s_assign (ev_int rfl) (by decide) ?_
          refine wl_end ?_
          refine wc_seq ?_
          refine wc_seq ?_
          refine wc_region ?_
          refine s_move (ev_int rfl) (by decide) ?_
          first | refine s_lss_t rfl rfl (by omega) (by decide) ?_ | refine s_lss_f rfl rfl (by omega) (by decide) ?_
          refine s_move (ev_bool rfl) (by decide) ?_
          first | (refine wl_guard_skip (by decide) rfl rfl (by decide) ?_) | (refine wl_guard_take rfl rfl ?_; (refine s_move (ev_int rfl) (by decide) ?_)) | (refine wl_guard_skipV (by decide) rfl rfl ?_)
          first | (refine wl_guard_skip (by decide) rfl rfl (by decide) ?_) | (refine wl_guard_take rfl rfl ?_; (first | refine s_gtr_t rfl rfl (by omega) (by decide) ?_ | refine s_gtr_f rfl rfl (by omega) (by decide) ?_)) | (refine wl_guard_skipV (by decide) rfl rfl ?_)
          first | refine s_pick_t rfl (ev_bool rfl) (by decide) ?_ | refine s_pick_f rfl (ev_bool rfl) (by decide) ?_
          refine s_move (ev_bool rfl) (by decide) ?_
          first | (refine wl_guard_skip (by decide) rfl rfl (by decide) ?_) | (refine wl_guard_take rfl rfl ?_; (refine s_move (ev_int rfl) (by decide) ?_)) | (refine wl_guard_skipV (by decide) rfl rfl ?_)
          first | (refine wl_guard_skip (by decide) rfl rfl (by decide) ?_) | (refine wl_guard_take rfl rfl ?_; (refine s_move (ev_int rfl) (by decide) ?_)) | (refine wl_guard_skipV (by decide) rfl rfl ?_)
          first | (refine wl_guard_skip (by decide) rfl rfl (by decide) ?_) | (refine wl_guard_take rfl rfl ?_; (refine s_addi rfl rfl (by omega) (by omega) (by decide) ?_)) | (refine wl_guard_skipV (by decide) rfl rfl ?_)
          first | (refine wl_guard_skip (by decide) rfl rfl (by decide) ?_) | (refine wl_guard_take rfl rfl ?_; (refine s_muli rfl rfl (by omega) (by omega) (by decide) ?_)) | (refine wl_guard_skipV (by decide) rfl rfl ?_)
          first | (refine wl_guard_skip (by decide) rfl rfl (by decide) ?_) | (refine wl_guard_take rfl rfl ?_; (first | refine s_gtr_t rfl rfl (by omega) (by decide) ?_ | refine s_gtr_f rfl rfl (by omega) (by decide) ?_)) | (refine wl_guard_skipV (by decide) rfl rfl ?_)
          first | refine s_pick_t rfl (ev_bool rfl) (by decide) ?_ | refine s_pick_f rfl (ev_bool rfl) (by decide) ?_
          refine wl_end ?_
          refine wc_cond_t rfl ?_
          refine wc_seq ?_
          refine wc_region ?_
          refine s_assign (ev_sl rfl) (by decide) ?_
          refine wl_end ?_
          refine wc_ret ?_
          refine k_ret ?_
          refine b_ret ?_
          refine k_ret ?_
          refine k_ret ?_
          refine b_ret ?_
          refine k_ret ?_
          -- at ('end', 'ret')
          refine ret1 (by first | exact .inr rfl | exact .inl rfl) rfl rfl ?_
          simp only [allL, hf]
          exact ⟨none, 0, rfl, World.ownsRow_nil _ _ _ _, hh.below⟩
    · obtain rfl : n = k := by omega
      rw [List.take_of_length_le (by omega)] at hsz
      rw [List.drop_of_length_le (by omega)] at hok
      have hok : okN 1 ds = true := hok
      have hbd := okN_bd ds 1 hok
      have hen := enum_all ds fun d hd => (hbd d hd).1
      have hall := mem_allX_ok ds hbd
      have hdok : ds.all expOk = true := by
        rw [List.all_eq_true]; intro d hd; have := hbd d hd; simp [expOk, this]
      have hAl : allL ds = (allX ds).map fX := by simp only [allL, hok, if_true]
      refine wc_seq ?_
      refine wc_region ?_
      first | refine s_lss_t rfl rfl (by omega) (by decide) ?_ | refine s_lss_f rfl rfl (by omega) (by decide) ?_
      refine wl_end ?_
      refine wc_seq ?_
      refine wc_cond_f rfl ?_
      refine wc_exit ?_
      refine k_exit ?_
      refine k_exit ?_
      refine b_here ?_
      refine k_then ?_
      refine wc_seq ?_
      refine wc_region ?_
      refine s_move (ev_sl rfl) (by decide) ?_
      refine s_len_sl UIs.out rfl (by decide) ?_
      refine wl_make hh rfl rfl rfl rfl UIs.out TIs.out rfl (by omega) (by omega) (by decide) ?_
      intro b37 w37 hh
      refine s_assign (ev_sl rfl) (by decide) ?_
      refine wl_end ?_
      refine wc_seq ?_
      refine wc_region ?_
      refine s_assign (ev_sl rfl) (by decide) ?_
      refine wl_end ?_
      refine wc_seq ?_
      refine wc_seq ?_
      refine wc_region ?_
      refine s_assign (ev_bool rfl) (by decide) ?_
      refine wl_end ?_
      refine wc_block ?_
      -- at a loop
      rw [zrep_i64] at hh
      rw [hdl] at hen
      refine wc_loop2 [7, 8, 9, 10, 38, 39, 40, 41, 42, 43, 44, 45, 46, 47, 48, 49, 50] 7 8
        (fun v b w' => ∃ (done rest : List (List Int)) (a : List Int) (A : Option Addr) (c' : Nat), v = .slice A done.length c' ∧ Hp w [.row (some ⟨b37, 0, none⟩) n n 3 1 (i64s a), .row A done.length c' 9 1 (strs (done.map fX))] w' ∧ allX ds = done ++ rest ∧ ((b = .bool true ∧ Enum (nxt ds) a rest) ∨ (b = .bool false ∧ rest = [])))
        (fun v _ _ => 65537 - lenOf v) ?_ ?_
      · exact ⟨[], _, _, none, 0, rfl, (hh.nil_row _ _).swap, rfl, .inl ⟨rfl, hen⟩⟩
      · clear hh
        rintro ρ' v b w' ⟨done, rest, a, A, c', rfl, hh, hap, hc⟩
        -- 
        -- 
        rcases hc with ⟨rfl, hE⟩ | ⟨rfl, rfl⟩
        · have hlen : (allX ds).length = done.length + rest.length := by rw [hap, List.length_append]
          have hre : rest = a :: rest.tail := by
            rcases enum_step hE with ⟨h, _⟩ | ⟨c, L, h, _⟩ <;> simp [h]
          have hrl : rest.length = rest.tail.length + 1 := by rw [hre]; simp
          have ha : a ∈ allX ds := by rw [hap, hre]; simp
          have hao := hall a ha
          have hal := mem_allX_len ds a ha
          obtain ⟨eo1, eo2⟩ := of_good hao
          have e1 : strs (done.map fX) ++ [.string (str (ofL a))] = strs ((done ++ [a]).map fX) := by rw [strs_snoc, eo1, List.map_append]; rfl
          refine wc_seq ?_
          refine wc_seq ?_
          refine wc_region ?_
          refine s_move (ev_bool rfl) (by decide) ?_
          refine wl_end ?_
          refine wc_cond_t rfl ?_
          refine wc_skip ?_
          refine k_then ?_
          refine wc_seq ?_
          refine wc_block ?_
          refine wc_seq ?_
          refine wc_region ?_
          refine s_move (ev_sl rfl) (by decide) ?_
          -- at some 44 := Op.call { callee := Callee.value (Operand.func 9), args := #[Operand.tmp 43], argTypes := 
          refine s_callf (of_calls _ _ _ _ _ (hh.sl_row (i := 0) rfl) (by omega)) FnIs.out rfl (by decide) ?_
          rintro e_ w44 ⟨rfl, hb_⟩
          refine ⟨_, rfl, ?_⟩
          replace hh := hh.ext hb_
          refine s_move (ev_tup rfl) (by decide) ?_
          refine s_extract rfl rfl (by decide) ?_
          refine s_extract rfl rfl (by decide) ?_
          refine s_assign (ev_str rfl) (by decide) ?_
          refine s_assign (ev_int rfl) (by decide) ?_
          refine wl_end ?_
          refine wc_region ?_
          refine s_move (ev_sl rfl) (by decide) ?_
          refine s_move (ev_str rfl) (by decide) ?_
          refine wl_buildSlice hh (cs := [_]) UIs.out TIs.out (evp_cons (ev_str rfl) evp_nil) rfl rfl (by decide) (by decide) (by decide) rfl (by decide) ?_
          intro b49 w49 hh
          refine wl_append hh (i := 2) rfl rfl rfl (hh.sl_row (i := 0) rfl) UIs.out TIs.out rfl (by decide) rfl (by omega) (by omega) (by decide) ?_
          intro A50 c50 w50 hh
          simp only [List.set_cons_zero, List.set_cons_succ] at hh
          replace hh := hh.sub (List.sublist_cons_self _ _)
          refine s_assign (ev_sl rfl) (by decide) ?_
          refine wl_nil ?_
          refine b_norm ?_
          refine k_then ?_
          refine wc_region ?_
          refine s_move (ev_sl rfl) (by decide) ?_
          refine s_move (ev_sl rfl) (by decide) ?_
          -- at some 41 := Op.call { callee := Callee.value (Operand.func 28), args := #[Operand.tmp 39, Operand.tmp 
          rw [e1] at hh
          have hcc := count_calls (D := D) (c' := c) (ds := ds) _ hh hD (by omega) hao hdok (by omega)
          rcases enum_step hE with ⟨h1, h2⟩ | ⟨c2, L, h1, h2, h3⟩
          · rw [h2] at hcc
            refine s_callf (hcc) FnIs.out rfl (by decide) ?_
            rintro e_ w_ ⟨rfl, hh⟩
            refine ⟨_, rfl, ?_⟩
            refine s_assign (ev_bool rfl) (by decide) ?_
            refine wl_nil ?_
            refine k_then ?_
            -- at ('round',)
            refine ⟨⟨done ++ [a], [], _, A50, c50, by rw [List.length_append]; rfl, by rw [List.length_append]; exact hh, by rw [hap, h1]; simp, .inr ⟨rfl, rfl⟩⟩, by show 65537 - (done.length + 1) < 65537 - done.length; omega, ?_⟩
            (repeat (first | exact agree_mask _ _ _ | refine agree_upd rfl ?_ | refine agree_mask2 rfl ?_))
          · rw [h2] at hcc
            refine s_callf (hcc) FnIs.out rfl (by decide) ?_
            rintro e_ w_ ⟨rfl, hh⟩
            refine ⟨_, rfl, ?_⟩
            refine s_assign (ev_bool rfl) (by decide) ?_
            refine wl_nil ?_
            refine k_then ?_
            -- at ('round',)
            refine ⟨⟨done ++ [a], L, c2, A50, c50, by rw [List.length_append]; rfl, by rw [List.length_append]; exact hh, by rw [hap, h1]; simp, .inl ⟨rfl, h3⟩⟩, by show 65537 - (done.length + 1) < 65537 - done.length; omega, ?_⟩
            (repeat (first | exact agree_mask _ _ _ | refine agree_upd rfl ?_ | refine agree_mask2 rfl ?_))
        · refine wc_seq ?_
          refine wc_seq ?_
          refine wc_region ?_
          refine s_move (ev_bool rfl) (by decide) ?_
          refine wl_end ?_
          refine wc_cond_f rfl ?_
          refine wc_exit ?_
          refine k_exit ?_
          refine k_exit ?_
          refine b_here ?_
          refine k_then ?_
          refine wc_seq ?_
          refine wc_region ?_
          refine s_move (ev_sl rfl) (by decide) ?_
          refine s_assign (ev_sl rfl) (by decide) ?_
          refine wl_end ?_
          refine wc_ret ?_
          -- at ('end', 'ret')
          refine ret1 (by first | exact .inr rfl | exact .inl rfl) rfl rfl ?_
          have h1 := hh.at_ (i := 1) rfl
          have hdn : allX ds = done := by rw [hap]; simp
          rw [hAl, hdn, List.length_map]
          exact ⟨A, c', rfl, h1, hh.below⟩
end Go.Proofs.Ytgljgalcbbjfgaa
