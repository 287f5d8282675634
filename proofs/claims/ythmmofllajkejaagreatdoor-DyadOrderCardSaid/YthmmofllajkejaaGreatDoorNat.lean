/- The walks through the program's natural numbers (nat): limbs. -/
import Derived.Test.YthmmofllajkejaaGreatDoorBits
import Derived.Test.YthmmofllajkejaaGreatDoorOpsC
namespace Go.Proofs.YthmmofllajkejaaGreatDoor
open Go.RowKit
-- umode
theorem Dg.at2 {B : Nat} {l : List Nat} (h : Dg B l) {i d : Nat} (hi : l[i]? = some d) : d < B := h.at_ hi
theorem cut_calls (A : Option Addr) (n c : Nat) (xs : List Nat) (w : World) (hx : Sl w A n 1 (u64s xs)) (hc : n ≤ c) (hn : n ≤ 1000000000000) :
    Calls Tryz.prog 159 #[.slice A n c] w fun e w' => e = .returned (.slice A (cutL xs).length c) ∧ Below w.heap.size w w' := by
  have hlen : xs.length = n := by have := hx.1; rw [length_u64s] at this; omega
  have hh := Hp.start w
  refine calls_vc (N := 21) (l := [.slice A n c]) Tryz.func159 rfl rfl (by simp) ?_
  refine wc_seq ?_
  refine wc_region ?_
  refine s_assign (ev_sl rfl) (by decide) ?_
  refine wl_end ?_
  refine wc_seq ?_
  refine wc_block ?_
  -- at a loop
  refine wc_loop1 [0, 3, 4, 5, 6, 7, 8, 9, 10, 11, 12, 13, 14, 15, 16, 17, 18, 19] 0
    (fun v w' => ∃ k : Nat, k ≤ n ∧ v = .slice A k c ∧ cutL (xs.take k) = cutL xs ∧ w' = w)
    (fun v _ => lenOf v) ?_ ?_
  · exact ⟨n, Nat.le_refl _, rfl, by rw [List.take_of_length_le (by omega)], rfl⟩
  · rintro ρ' v w' ⟨k, hk, rfl, hcut, rfl⟩
    by_cases h0 : k = 0
    · subst h0
      refine wc_seq ?_
      refine wc_seq ?_
      refine wc_region ?_
      refine s_move (ev_sl rfl) (by decide) ?_
      refine s_len_sl UIs.out rfl (by decide) ?_
      first | refine s_gtr_t rfl rfl (by omega) (by decide) ?_ | refine s_gtr_f rfl rfl (by omega) (by decide) ?_ | refine s_gtr_v rfl rfl (by decide) ?_
      refine s_move (ev_bool rfl) (by decide) ?_
      first | (refine wl_guard_skip (by decide) rfl rfl (by decide) ?_) | (refine wl_guard_take rfl rfl ?_; (refine s_move (ev_sl rfl) (by decide) ?_)) | (refine wl_guard_skipV (by decide) rfl rfl ?_)
      first | (refine wl_guard_skip (by decide) rfl rfl (by decide) ?_) | (refine wl_guard_take rfl rfl ?_; (refine s_move (ev_sl rfl) (by decide) ?_)) | (refine wl_guard_skipV (by decide) rfl rfl ?_)
      first | (refine wl_guard_skip (by decide) rfl rfl (by decide) ?_) | (refine wl_guard_take rfl rfl ?_; (refine s_len_sl UIs.out rfl (by decide) ?_)) | (refine wl_guard_skipV (by decide) rfl rfl ?_)
      first | (refine wl_guard_skip (by decide) rfl rfl (by decide) ?_) | (refine wl_guard_take rfl rfl ?_; (refine s_subi rfl rfl (by omega) (by omega) (by decide) ?_)) | (refine wl_guard_skipV (by decide) rfl rfl ?_)
      first | (refine wl_guard_skip (by decide) rfl rfl (by decide) ?_) | (refine wl_guard_take rfl rfl ?_; (refine s_indexAddr UIs.out TIs.size rfl rfl (by omega) (by omega) (by decide) ?_)) | (refine wl_guard_skipV (by decide) rfl rfl ?_)
      first | (refine wl_guard_skip (by decide) rfl rfl (by decide) ?_) | (refine wl_guard_skipV (by decide) rfl rfl ?_)
      first | (refine wl_guard_skip (by decide) rfl rfl (by decide) ?_) | (refine wl_guard_take rfl rfl ?_; (first | refine s_eql_t rfl rfl (by omega) (by decide) ?_ | refine s_eql_f rfl rfl (by omega) (by decide) ?_ | refine s_eql_v rfl rfl (by decide) ?_)) | (refine wl_guard_skipV (by decide) rfl rfl ?_)
      first | refine s_pick_t rfl (ev_bool rfl) (by decide) ?_ | refine s_pick_f rfl (ev_bool rfl) (by decide) ?_
      refine wl_end ?_
      refine wc_cond_f rfl ?_
      refine wc_exit ?_
      refine k_exit ?_
      refine k_exit ?_
      refine b_here ?_
      refine k_then ?_
      refine wc_seq ?_
      refine wc_region ?_
      refine s_move (ev_sl rfl) (by decide) ?_
      refine s_assign (ev_sl rfl) (by decide) ?_
      refine wl_end ?_
      refine wc_ret ?_
      -- at ('end', 'ret')
      refine ret1 (by first | exact .inr rfl | exact .inl rfl) rfl (v_sl rfl) ?_
      rw [← hcut]
      exact ⟨rfl, hh.below⟩
    · obtain ⟨j, rfl⟩ : ∃ j, k = j + 1 := ⟨k - 1, by omega⟩
      obtain ⟨d, hd⟩ := get_of_lt (l := xs) (k := j) (by omega)
      obtain ⟨ad, rfl, hr⟩ := hx.at_ (by omega)
      have hd2 := u64s_at hd
      rw [take_snoc hd] at hcut
      -- 
      by_cases hz : d = 0
      · subst hz
        rw [cutL_snoc0] at hcut
        refine wc_seq ?_
        refine wc_seq ?_
        refine wc_region ?_
        refine s_move (ev_sl rfl) (by decide) ?_
        refine s_len_sl UIs.out rfl (by decide) ?_
        first | refine s_gtr_t rfl rfl (by omega) (by decide) ?_ | refine s_gtr_f rfl rfl (by omega) (by decide) ?_ | refine s_gtr_v rfl rfl (by decide) ?_
        refine s_move (ev_bool rfl) (by decide) ?_
        first | (refine wl_guard_skip (by decide) rfl rfl (by decide) ?_) | (refine wl_guard_take rfl rfl ?_; (refine s_move (ev_sl rfl) (by decide) ?_)) | (refine wl_guard_skipV (by decide) rfl rfl ?_)
        first | (refine wl_guard_skip (by decide) rfl rfl (by decide) ?_) | (refine wl_guard_take rfl rfl ?_; (refine s_move (ev_sl rfl) (by decide) ?_)) | (refine wl_guard_skipV (by decide) rfl rfl ?_)
        first | (refine wl_guard_skip (by decide) rfl rfl (by decide) ?_) | (refine wl_guard_take rfl rfl ?_; (refine s_len_sl UIs.out rfl (by decide) ?_)) | (refine wl_guard_skipV (by decide) rfl rfl ?_)
        first | (refine wl_guard_skip (by decide) rfl rfl (by decide) ?_) | (refine wl_guard_take rfl rfl ?_; (refine s_subi rfl rfl (by omega) (by omega) (by decide) ?_)) | (refine wl_guard_skipV (by decide) rfl rfl ?_)
        first | (refine wl_guard_skip (by decide) rfl rfl (by decide) ?_) | (refine wl_guard_take rfl rfl ?_; (refine s_indexSl (k := j) UIs.out TIs.size rfl rfl (by omega) (by omega) (by decide) ?_)) | (refine wl_guard_skipV (by decide) rfl rfl ?_)
        first | (refine wl_guard_skip (by decide) rfl rfl (by decide) ?_) | (refine wl_guard_take rfl rfl ?_; (refine s_load1 TIs.out rfl ((hr.ext hh.below).at1 (by assumption)) (by decide) ?_)) | (refine wl_guard_skipV (by decide) rfl rfl ?_)
        first | (refine wl_guard_skip (by decide) rfl rfl (by decide) ?_) | (refine wl_guard_take rfl rfl ?_; (first | refine s_eql_t rfl rfl (by omega) (by decide) ?_ | refine s_eql_f rfl rfl (by omega) (by decide) ?_ | refine s_eql_v rfl rfl (by decide) ?_)) | (refine wl_guard_skipV (by decide) rfl rfl ?_)
        first | refine s_pick_t rfl (ev_bool rfl) (by decide) ?_ | refine s_pick_f rfl (ev_bool rfl) (by decide) ?_
        refine wl_end ?_
        refine wc_cond_t rfl ?_
        refine wc_skip ?_
        refine k_then ?_
        refine wc_block ?_
        refine wc_region ?_
        refine s_move (ev_sl rfl) (by decide) ?_
        refine s_move (ev_sl rfl) (by decide) ?_
        refine s_len_sl UIs.out rfl (by decide) ?_
        refine s_subi rfl rfl (by omega) (by omega) (by decide) ?_
        refine s_cutEnd (h := j) UIs.out TIs.size rfl rfl (by omega) (by omega) (by decide) ?_
        refine s_assign (ev_sl rfl) (by decide) ?_
        refine wl_nil ?_
        refine b_norm ?_
        refine k_then ?_
        -- at ('round',)
        refine ⟨⟨j, by omega, rfl, hcut, rfl⟩, by show j < j + 1; omega, ?_⟩
        (repeat (first | exact agree_mask _ _ _ | refine agree_upd rfl ?_ | refine agree_mask2 rfl ?_))
      · rw [cutL_snoc hz] at hcut
        refine wc_seq ?_
        refine wc_seq ?_
        refine wc_region ?_
        refine s_move (ev_sl rfl) (by decide) ?_
        refine s_len_sl UIs.out rfl (by decide) ?_
        first | refine s_gtr_t rfl rfl (by omega) (by decide) ?_ | refine s_gtr_f rfl rfl (by omega) (by decide) ?_ | refine s_gtr_v rfl rfl (by decide) ?_
        refine s_move (ev_bool rfl) (by decide) ?_
        first | (refine wl_guard_skip (by decide) rfl rfl (by decide) ?_) | (refine wl_guard_take rfl rfl ?_; (refine s_move (ev_sl rfl) (by decide) ?_)) | (refine wl_guard_skipV (by decide) rfl rfl ?_)
        first | (refine wl_guard_skip (by decide) rfl rfl (by decide) ?_) | (refine wl_guard_take rfl rfl ?_; (refine s_move (ev_sl rfl) (by decide) ?_)) | (refine wl_guard_skipV (by decide) rfl rfl ?_)
        first | (refine wl_guard_skip (by decide) rfl rfl (by decide) ?_) | (refine wl_guard_take rfl rfl ?_; (refine s_len_sl UIs.out rfl (by decide) ?_)) | (refine wl_guard_skipV (by decide) rfl rfl ?_)
        first | (refine wl_guard_skip (by decide) rfl rfl (by decide) ?_) | (refine wl_guard_take rfl rfl ?_; (refine s_subi rfl rfl (by omega) (by omega) (by decide) ?_)) | (refine wl_guard_skipV (by decide) rfl rfl ?_)
        first | (refine wl_guard_skip (by decide) rfl rfl (by decide) ?_) | (refine wl_guard_take rfl rfl ?_; (refine s_indexSl (k := j) UIs.out TIs.size rfl rfl (by omega) (by omega) (by decide) ?_)) | (refine wl_guard_skipV (by decide) rfl rfl ?_)
        first | (refine wl_guard_skip (by decide) rfl rfl (by decide) ?_) | (refine wl_guard_take rfl rfl ?_; (refine s_load1 TIs.out rfl ((hr.ext hh.below).at1 (by assumption)) (by decide) ?_)) | (refine wl_guard_skipV (by decide) rfl rfl ?_)
        first | (refine wl_guard_skip (by decide) rfl rfl (by decide) ?_) | (refine wl_guard_take rfl rfl ?_; (first | refine s_eql_t rfl rfl (by omega) (by decide) ?_ | refine s_eql_f rfl rfl (by omega) (by decide) ?_ | refine s_eql_v rfl rfl (by decide) ?_)) | (refine wl_guard_skipV (by decide) rfl rfl ?_)
        first | refine s_pick_t rfl (ev_bool rfl) (by decide) ?_ | refine s_pick_f rfl (ev_bool rfl) (by decide) ?_
        refine wl_end ?_
        refine wc_cond_f rfl ?_
        refine wc_exit ?_
        refine k_exit ?_
        refine k_exit ?_
        refine b_here ?_
        refine k_then ?_
        refine wc_seq ?_
        refine wc_region ?_
        refine s_move (ev_sl rfl) (by decide) ?_
        refine s_assign (ev_sl rfl) (by decide) ?_
        refine wl_end ?_
        refine wc_ret ?_
        -- at ('end', 'ret')
        refine ret1 (by first | exact .inr rfl | exact .inl rfl) rfl (v_sl rfl) ?_
        rw [← hcut, List.length_append, List.length_take, Nat.min_eq_left (by omega)]
        exact ⟨rfl, hh.below⟩
theorem dig_take_snoc {B : Nat} {l : List Nat} {i c : Nat} (h : l[i]? = some c) : dig B (l.take (i + 1)) = dig B (l.take i) + B ^ i * c := by
  have hi := (List.getElem?_eq_some_iff.1 h).1
  rw [take_snoc h, dig_append, List.length_take, Nat.min_eq_left (by omega)]
  simp [dig]
theorem Hp.cut64 {w0 w : World} {H : List HE} {A : Option Addr} {n c : Nat} {t : TypeId} {xs : List Nat} (h : Hp w0 (.row A n c t 1 (u64s xs) :: H) w) (hl : xs.length = n) : Hp w0 (.row A (cutL xs).length c t 1 (u64s (cutL xs)) :: H) w := by
  have h1 := cutL_len xs
  have h2 := h.cutRow (k := (cutL xs).length) (by omega)
  rw [Nat.mul_one, ← u64s_take, ← cutL_take] at h2
  exact h2
theorem nof_calls (a : ByteArray) (w : World) (ha : a.size ≤ 100000000000) :
    Calls Tryz.prog 138 #[.string a] w fun e w' => ∃ b c, e = .returned (.slice (some ⟨b, 0, none⟩) (digs 18446744073709551616 (bn a.data.toList)).length c) ∧ w'.ownsRow w.heap.size 124 1 (.slice (some ⟨b, 0, none⟩) (digs 18446744073709551616 (bn a.data.toList)).length c) (digs 18446744073709551616 (bn a.data.toList)).length (u64s (digs 18446744073709551616 (bn a.data.toList))) ∧ Below w.heap.size w w' := by
  have hsz := ba_size a
  have hh := Hp.start w
  refine calls_vc (N := 39) (l := [.string a]) Tryz.func138 rfl rfl (by simp) ?_
  refine wc_seq ?_
  refine wc_region ?_
  refine s_assign (ev_sl rfl) (by decide) ?_
  refine wl_end ?_
  refine wc_seq ?_
  refine wc_region ?_
  refine s_move (ev_str rfl) (by decide) ?_
  refine s_len_str UIs.out rfl (by decide) ?_
  refine s_addi rfl rfl (by omega) (by omega) (by decide) ?_
  refine s_quoi rfl rfl (by omega) (by omega) (by omega) (by decide) ?_
  refine wl_make (n := (a.size + 7) / 8) hh rfl rfl (by omega) (by omega) UIs.out TIs.out rfl (by omega) (by omega) (by decide) ?_
  intro b10 w10 hh
  refine s_assign (ev_sl rfl) (by decide) ?_
  refine wl_end ?_
  refine wc_seq ?_
  refine wc_seq ?_
  refine wc_region ?_
  refine s_move (ev_str rfl) (by decide) ?_
  refine s_len_str UIs.out rfl (by decide) ?_
  refine s_move (ev_int rfl) (by decide) ?_
  refine wl_end ?_
  refine wc_block ?_
  -- at a loop
  rw [zrep_u64] at hh
  refine wc_loop1 [4, 5, 13, 14, 15, 16, 17, 18, 19, 20, 21, 22, 23, 24, 25, 26, 27, 28, 29, 30, 31, 32, 33, 34, 35, 36] 13
    (fun v w' => ∃ i : Nat, i ≤ a.size ∧ v = .int .i64 i ∧ Hp w [.row (some ⟨b10, 0, none⟩) ((a.size + 7) / 8) ((a.size + 7) / 8) 124 1 (u64s (digK 18446744073709551616 ((a.size + 7) / 8) (dig 256 ((lo8 a.data.toList).take i))))] w')
    (fun v _ => a.size - (intOf v).toNat) ?_ ?_
  · exact ⟨0, Nat.zero_le _, rfl, by rw [List.take_zero, dig, digK_zero]; exact hh⟩
  · clear hh
    rintro ρ' v w' ⟨i, hi, rfl, hh⟩
    -- 
    -- 
    by_cases hlt : i < a.size
    · obtain ⟨c, hc⟩ := get_of_lt (l := a.data.toList) (k := ((a.size : Int) - 1 - i).toNat) (by omega)
      have hlo := lo8_at (s := a.data.toList) (i := i) (c := c) (by omega) (by rw [← hc]; congr 1; omega)
      have hc8 := c.toNat_lt
      have hn := dig_lt ((dg_lo8 a.data.toList).take i)
      rw [List.length_take, length_lo8, Nat.min_eq_left (by omega)] at hn
      obtain ⟨s1, s2, s3⟩ := of_step (k := (a.size + 7) / 8) (dig 256 ((lo8 a.data.toList).take i)) hn hc8 (by omega)
      have hg := u64s_at (digK_get (B := 18446744073709551616) ((a.size + 7) / 8) (dig 256 ((lo8 a.data.toList).take i)) (i / 8) (by omega))
      have e1 : ((i : Int) % 8 * 8).toNat = i % 8 * 8 := by omega
      refine wc_seq ?_
      refine wc_region ?_
      first | refine s_lss_t rfl rfl (by omega) (by decide) ?_ | refine s_lss_f rfl rfl (by omega) (by decide) ?_ | refine s_lss_v rfl rfl (by decide) ?_
      refine wl_end ?_
      refine wc_seq ?_
      refine wc_cond_t rfl ?_
      refine wc_skip ?_
      refine k_then ?_
      refine wc_seq ?_
      refine wc_block ?_
      refine wc_seq ?_
      refine wc_region ?_
      refine s_move (ev_int rfl) (by decide) ?_
      refine s_assign (ev_int rfl) (by decide) ?_
      refine wl_end ?_
      refine wc_seq ?_
      refine wc_region ?_
      refine s_move (ev_str rfl) (by decide) ?_
      refine s_len_str UIs.out rfl (by decide) ?_
      refine s_subi rfl rfl (by omega) (by omega) (by decide) ?_
      refine s_move (ev_int rfl) (by decide) ?_
      refine s_subi rfl rfl (by omega) (by omega) (by decide) ?_
      refine s_assign (ev_int rfl) (by decide) ?_
      refine wl_end ?_
      -- at the drawn region 6
      refine wc_drawn 13 [[(3, none)], [(4, none)], [(22, some 1)], [(21, some 0), (23, some 2)], [(24, some 3)], [(0, none)], [(5, none)], [(26, some 5), (27, some 6)], [(28, some 7)], [(4, none)], [(30, some 9)], [(31, some 10)], [(29, some 8), (32, some 11)]] [(12, 33), (11, 32), (10, 31), (9, 30), (8, 29), (7, 28), (6, 27), (5, 26), (4, 25), (3, 24), (2, 23), (1, 22), (0, 21)] hh mixed (by kernel_rfl) ?_
      refine dx_val (i := 0) (fun ρ1 w1 hj hR => x_move (show ρ1 3 = Value.slice _ _ _ from hR.1)) ?_
      refine dx_val (i := 1) (fun ρ1 w1 hj hR => x_move (show ρ1 4 = Value.int _ _ from hR.1)) ?_
      refine dx_val (i := 2) (fun ρ1 w1 hj hR => x_quoi (show ρ1 22 = Value.int _ _ from hR.1) rfl (by omega) (by omega) (by omega)) ?_
      refine dx_val (i := 3) (fun ρ1 w1 hj hR => x_indexRow (k := i / 8) UIs.out TIs.size (show ρ1 21 = Value.slice _ _ _ from hR.1) (show ρ1 23 = Value.int _ _ from hR.2.1) (by omega) (by omega)) ?_
      refine dx_val (i := 4) (fun ρ1 w1 hj hR => x_load1 TIs.out (show ρ1 24 = Value.pointer _ from hR.1) (hj.hp.cell_row (i := 0) rfl (by first | assumption | (simp only [Nat.mul_one]; assumption)))) ?_
      refine dx_val (i := 5) (fun ρ1 w1 hj hR => x_move (show ρ1 0 = Value.string _ from hR.1)) ?_
      refine dx_val (i := 6) (fun ρ1 w1 hj hR => x_move (show ρ1 5 = Value.int _ _ from hR.1)) ?_
      refine dx_val (i := 7) (fun ρ1 w1 hj hR => x_index_str UIs.out (show ρ1 26 = Value.string _ from hR.1) (show ρ1 27 = Value.int _ _ from hR.2.1) (by omega) (by assumption)) ?_
      first | refine dx_val (i := 8) (fun ρ1 w1 hj hR => x_convu_lt UIs.out UIs.out (show ρ1 28 = Value.int _ _ from hR.1) (by first | assumption | omega)) ?_ | refine dx_val (i := 8) (fun ρ1 w1 hj hR => x_convu UIs.out UIs.out (show ρ1 28 = Value.int _ _ from hR.1)) ?_
      refine dx_val (i := 9) (fun ρ1 w1 hj hR => x_move (show ρ1 4 = Value.int _ _ from hR.1)) ?_
      refine dx_val (i := 10) (fun ρ1 w1 hj hR => x_remi (show ρ1 30 = Value.int _ _ from hR.1) rfl (by omega) (by omega)) ?_
      refine dx_val (i := 11) (fun ρ1 w1 hj hR => x_muli (show ρ1 31 = Value.int _ _ from hR.1) rfl (by omega) (by omega)) ?_
      refine dx_val (i := 12) (fun ρ1 w1 hj hR => x_shlu (show ρ1 29 = Value.int _ _ from hR.1) (show ρ1 32 = Value.int _ _ from hR.2.1) (by omega)) ?_
      refine dx_nil ?_
      intro f W hJ hV
      have hb_6 := hJ.bl
      obtain ⟨v33, v32, v31, v30, v29, v28, v27, v26, v25, v24, v23, v22, v21, _⟩ := hV
      simp only [updL]
      have e21 : f 0 = _ := v21
      rw [e21]
      have e22 : f 1 = _ := v22
      rw [e22]
      have e23 : f 2 = _ := v23
      rw [e23]
      have e24 : f 3 = _ := v24
      rw [e24]
      have e25 : f 4 = _ := v25
      rw [e25]
      have e26 : f 5 = _ := v26
      rw [e26]
      have e27 : f 6 = _ := v27
      rw [e27]
      have e28 : f 7 = _ := v28
      rw [e28]
      have e29 : f 8 = _ := v29
      rw [e29]
      have e30 : f 9 = _ := v30
      rw [e30]
      have e31 : f 10 = _ := v31
      rw [e31]
      have e32 : f 11 = _ := v32
      rw [e32]
      have e33 : f 12 = _ := v33
      rw [e33]
      replace hh := hJ.hp
      clear e21 e22 e23 e24 e25 e26 e27 e28 e29 e30 e31 e32 e33 hJ
      refine s_oru rfl rfl (by first | assumption | omega) (by first | assumption | omega) (by decide) ?_
      refine s_indexRow (k := i / 8) UIs.out TIs.size rfl rfl (by omega) (by omega) (by decide) ?_
      -- at none := Op.store 124 (Operand.tmp 35) (Operand.tmp 34)
      refine wl_store_row hh (i := 0) (vs := [_]) rfl rfl (ev_int rfl) rfl TIs.out rfl (by rw [length_u64s, length_digK]; omega) rfl ?_
      intro ws hh
      simp only [List.set_cons_zero] at hh
      rw [e1, Nat.mod_eq_of_lt s2, or_add s1, splice_one (by rw [length_u64s, length_digK]; omega), Nat.mul_one, u64s_set, s3, ← dig_take_snoc hlo] at hh
      refine wl_nil ?_
      refine b_norm ?_
      refine k_then ?_
      refine wc_region ?_
      refine s_addi rfl rfl (by omega) (by omega) (by decide) ?_
      refine s_move (ev_int rfl) (by decide) ?_
      refine wl_nil ?_
      refine k_then ?_
      -- at ('round',)
      refine ⟨⟨i + 1, by omega, rfl, hh⟩, by show a.size - (i + 1) < a.size - i; omega, ?_⟩
      (repeat (first | exact agree_mask _ _ _ | refine agree_upd rfl ?_ | refine agree_mask2 rfl ?_))
    · refine wc_seq ?_
      refine wc_region ?_
      first | refine s_lss_t rfl rfl (by omega) (by decide) ?_ | refine s_lss_f rfl rfl (by omega) (by decide) ?_ | refine s_lss_v rfl rfl (by decide) ?_
      refine wl_end ?_
      refine wc_seq ?_
      refine wc_cond_f rfl ?_
      refine wc_exit ?_
      refine k_exit ?_
      refine k_exit ?_
      refine b_here ?_
      refine k_then ?_
      refine wc_seq ?_
      refine wc_region ?_
      refine s_move (ev_sl rfl) (by decide) ?_
      -- at some 38 := Op.call { callee := Callee.value (Operand.func 159), args := #[Operand.tmp 37], argTypes :
      rw [List.take_of_length_le (by rw [length_lo8]; omega)] at hh
      refine s_callf (cut_calls _ _ _ (digK 18446744073709551616 ((a.size + 7) / 8) (bn a.data.toList)) _ (hh.sl_row (i := 0) rfl) (Nat.le_refl _) (by omega)) FnIs.out rfl (by decide) ?_
      rintro e_ w38 ⟨rfl, hb_⟩
      refine ⟨_, rfl, ?_⟩
      replace hh := hh.ext hb_
      refine s_assign (ev_sl rfl) (by decide) ?_
      refine wl_end ?_
      refine wc_ret ?_
      -- at ('end', 'ret')
      refine ret1 (by first | exact .inr rfl | exact .inl rfl) rfl (v_sl rfl) ?_
      have hbd : bn a.data.toList < 18446744073709551616 ^ ((a.size + 7) / 8) := by
        refine Nat.lt_of_lt_of_le (bn_lt _) ?_
        rw [← hsz, show (256 : Nat) = 2 ^ 8 from rfl, show (18446744073709551616 : Nat) = 2 ^ 64 from rfl, ← Nat.pow_mul, ← Nat.pow_mul]
        exact Nat.pow_le_pow_right (by omega) (by omega)
      have hd : cutL (digK 18446744073709551616 ((a.size + 7) / 8) (bn a.data.toList)) = digs 18446744073709551616 (bn a.data.toList) := by
        rw [cutL_digs (by omega) (dg_digK (by omega) _ _), dig_digK_lt hbd]
      have h1 := (Hp.cut64 (xs := digK 18446744073709551616 ((a.size + 7) / 8) (bn a.data.toList)) hh (length_digK _ _)).at_ (i := 0) rfl
      rw [hd] at h1
      rw [hd]
      exact ⟨_, _, rfl, h1, hh.below⟩
theorem Sl.take64 {w : World} {A : Option Addr} {n : Nat} {xs : List Nat} (h : Sl w A n 1 (u64s xs)) {k : Nat} (hk : k ≤ n) : Sl w A k 1 (u64s (xs.take k)) := by
  have hl := h.1
  rw [length_u64s] at hl
  refine ⟨by rw [length_u64s, List.length_take]; omega, fun h0 => ?_⟩
  obtain ⟨ad, he, hr⟩ := h.2 (by omega)
  exact ⟨ad, he, by rw [u64s_take]; exact hr.take k⟩
theorem Sl.cutL64 {w : World} {A : Option Addr} {n : Nat} {xs : List Nat} (h : Sl w A n 1 (u64s xs)) : Sl w A (cutL xs).length 1 (u64s (cutL xs)) := by
  have hl := h.1
  rw [length_u64s] at hl
  have := cutL_len xs
  have h2 := h.take64 (k := (cutL xs).length) (by omega)
  rwa [← cutL_take] at h2
theorem blen_limbs {xs : List Nat} (h : Dg 18446744073709551616 xs) : blen (dig 18446744073709551616 xs) ≤ 64 * xs.length := by
  apply blen_le
  rw [Nat.pow_mul]
  exact dig_lt h
theorem nlen_calls (A : Option Addr) (n c : Nat) (xs : List Nat) (w : World) (hx : Sl w A n 1 (u64s xs)) (hd : Dg 18446744073709551616 xs) (hc : n ≤ c) (hn : n ≤ 100000000000) :
    Calls Tryz.prog 162 #[.slice A n c] w fun e w' => e = .returned (.int .i64 (blen (dig 18446744073709551616 xs))) ∧ Below w.heap.size w w' := by
  have hl := hx.1
  rw [length_u64s] at hl
  have hcl := cutL_len xs
  have hcx := hx.cutL64
  have hcd := hd.cut
  have hlast := cutL_last xs
  rw [← dig_cutL]
  generalize hcs : cutL xs = cs at *
  have hh := Hp.start w
  refine calls_vc (N := 19) (l := [.slice A n c]) Tryz.func162 rfl rfl (by simp) ?_
  refine wc_seq ?_
  refine wc_region ?_
  refine s_assign (ev_int rfl) (by decide) ?_
  refine wl_end ?_
  refine wc_seq ?_
  refine wc_region ?_
  refine s_move (ev_sl rfl) (by decide) ?_
  -- at some 4 := Op.call { callee := Callee.value (Operand.func 159), args := #[Operand.tmp 3], argTypes :=
  refine s_callf (cut_calls _ _ _ xs _ hx hc (by omega)) FnIs.out rfl (by decide) ?_
  rintro e_ w4 ⟨rfl, hb_⟩
  refine ⟨_, rfl, ?_⟩
  replace hh := hh.ext hb_
  rw [hcs]
  by_cases h0 : cs.length = 0
  · refine s_assign (ev_sl rfl) (by decide) ?_
    refine wl_end ?_
    refine wc_seq ?_
    refine wc_seq ?_
    refine wc_region ?_
    refine s_move (ev_sl rfl) (by decide) ?_
    refine s_len_sl UIs.out rfl (by decide) ?_
    first | refine s_eql_t rfl rfl (by omega) (by decide) ?_ | refine s_eql_f rfl rfl (by omega) (by decide) ?_ | refine s_eql_v rfl rfl (by decide) ?_
    refine wl_end ?_
    refine wc_cond_t rfl ?_
    refine wc_seq ?_
    refine wc_region ?_
    refine s_assign (ev_int rfl) (by decide) ?_
    refine wl_end ?_
    refine wc_ret ?_
    refine k_ret ?_
    -- at ('end', 'ret')
    refine ret1 (by first | exact .inr rfl | exact .inl rfl) rfl (v_int rfl) ?_
    have : cs = [] := List.eq_nil_of_length_eq_zero h0
    subst this
    exact ⟨by rw [dig, blen_zero]; rfl, hh.below⟩
  · obtain ⟨ad, rfl, hr⟩ := hcx.at_ (by omega)
    obtain ⟨d, hd⟩ := get_of_lt (l := cs) (k := cs.length - 1) (by omega)
    have hd2 := u64s_at hd
    have hd3 := hcd.at_ hd
    have e1 : cs.take (cs.length - 1) ++ [d] = cs := by rw [← take_snoc hd, List.take_of_length_le (by omega)]
    have hnz : d ≠ 0 := by
      intro h
      subst h
      apply hlast
      rw [List.getLast?_eq_getElem?]
      exact hd
    have hb := blen_top (B := 18446744073709551616) (b := 64) (m := cs.length - 1) (by decide) (hcd.take (cs.length - 1)) (by rw [List.length_take]; omega) hnz
    rw [e1] at hb
    have hb2 : blen d ≤ 64 := blen_le (by simpa using hd3)
    -- 
    refine s_assign (ev_sl rfl) (by decide) ?_
    refine wl_end ?_
    refine wc_seq ?_
    refine wc_seq ?_
    refine wc_region ?_
    refine s_move (ev_sl rfl) (by decide) ?_
    refine s_len_sl UIs.out rfl (by decide) ?_
    first | refine s_eql_t rfl rfl (by omega) (by decide) ?_ | refine s_eql_f rfl rfl (by omega) (by decide) ?_ | refine s_eql_v rfl rfl (by decide) ?_
    refine wl_end ?_
    refine wc_cond_f rfl ?_
    refine wc_skip ?_
    refine k_then ?_
    refine wc_seq ?_
    refine wc_region ?_
    refine s_move (ev_sl rfl) (by decide) ?_
    refine s_len_sl UIs.out rfl (by decide) ?_
    refine s_muli rfl rfl (by omega) (by omega) (by decide) ?_
    refine s_move (ev_sl rfl) (by decide) ?_
    refine s_move (ev_sl rfl) (by decide) ?_
    refine s_len_sl UIs.out rfl (by decide) ?_
    refine s_subi rfl rfl (by omega) (by omega) (by decide) ?_
    refine s_indexSl (k := cs.length - 1) UIs.out TIs.size rfl rfl (by omega) (by omega) (by decide) ?_
    refine s_load1 TIs.out rfl ((hr.ext hh.below).at1 (by assumption)) (by decide) ?_
    -- at some 17 := Op.call { callee := Callee.value (Operand.func 177), args := #[Operand.tmp 16], argTypes :
    refine s_callf (lz64_calls _ _ hd3) FnIs.out rfl (by decide) ?_
    rintro e_ w17 ⟨rfl, hb_⟩
    refine ⟨_, rfl, ?_⟩
    replace hh := hh.ext hb_
    refine s_subi rfl rfl (by omega) (by omega) (by decide) ?_
    refine s_assign (ev_int rfl) (by decide) ?_
    refine wl_end ?_
    refine wc_ret ?_
    -- at ('end', 'ret')
    refine ret1 (by first | exact .inr rfl | exact .inl rfl) rfl (v_int rfl) ?_
    refine ⟨?_, hh.below⟩
    congr 2
    omega
theorem len256 (N : Nat) : (digs 256 N).length = (blen N + 7) / 8 := by
  have h256 : (256 : Nat) = 2 ^ 8 := rfl
  have h1 : (digs 256 N).length ≤ (blen N + 7) / 8 := by
    apply digs_len_le (by omega)
    refine Nat.lt_of_lt_of_le (lt_blen N) ?_
    rw [h256, ← Nat.pow_mul]
    exact Nat.pow_le_pow_right (by omega) (by omega)
  have h2 := digs_lt (B := 256) (by omega) N
  have h3 : blen N ≤ 8 * (digs 256 N).length := by
    apply blen_le
    rw [Nat.pow_mul]
    exact h2
  omega
theorem digK_snoc {B : Nat} (i N : Nat) : digK B (i + 1) N = digK B i N ++ [N / B ^ i % B] := by
  apply List.ext_getElem?
  intro j
  rcases Nat.lt_trichotomy j i with h | h | h
  · rw [digK_get _ _ _ (by omega), List.getElem?_append_left (by rw [length_digK]; exact h), digK_get _ _ _ h]
  · subst h
    rw [digK_get _ _ _ (by omega), List.getElem?_append_right (by rw [length_digK]; omega), length_digK]
    simp
  · rw [List.getElem?_eq_none (by rw [length_digK]; omega), List.getElem?_eq_none (by rw [List.length_append, length_digK]; simp; omega)]
theorem rep_set {R : List Nat} {k x : Nat} : (List.replicate (k + 1) 0 ++ R).set k x = List.replicate k 0 ++ (x :: R) := by
  rw [List.replicate_succ', List.append_assoc, List.set_append_right _ _ (by simp)]
  simp
theorem ntext_calls (A : Option Addr) (n c : Nat) (xs : List Nat) (w : World) (hx : Sl w A n 1 (u64s xs)) (hd : Dg 18446744073709551616 xs) (hc : n ≤ c) (hn : n ≤ 10000000000) :
    Calls Tryz.prog 158 #[.slice A n c] w fun e w' => e = .returned (.string (str (sb (dig 18446744073709551616 xs)))) ∧ Below w.heap.size w w' := by
  have hl := hx.1
  rw [length_u64s] at hl
  have hcl := cutL_len xs
  have hcx := hx.cutL64
  have hcd := hd.cut
  have hbl := blen_limbs hcd
  have hcan := cutL_digs (by omega) hd
  have hlen := len256 (dig 18446744073709551616 xs)
  rw [dig_cutL] at hbl
  have hh := Hp.start w
  refine calls_vc (N := 37) (l := [.slice A n c]) Tryz.func158 rfl rfl (by simp) ?_
  refine wc_seq ?_
  refine wc_region ?_
  refine s_assign (ev_str rfl) (by decide) ?_
  refine wl_end ?_
  refine wc_seq ?_
  refine wc_region ?_
  refine s_move (ev_sl rfl) (by decide) ?_
  -- at some 7 := Op.call { callee := Callee.value (Operand.func 159), args := #[Operand.tmp 6], argTypes :=
  refine s_callf (cut_calls _ _ _ xs _ hx hc (by omega)) FnIs.out rfl (by decide) ?_
  rintro e_ w7 ⟨rfl, hb_⟩
  refine ⟨_, rfl, ?_⟩
  replace hh := hh.ext hb_
  rw [hcan] at hcl hcx hcd hbl
  rw [hcan]
  refine s_assign (ev_sl rfl) (by decide) ?_
  refine wl_end ?_
  refine wc_seq ?_
  refine wc_region ?_
  refine s_move (ev_sl rfl) (by decide) ?_
  -- at some 9 := Op.call { callee := Callee.value (Operand.func 162), args := #[Operand.tmp 8], argTypes :=
  refine s_callf (nlen_calls _ _ _ (digs 18446744073709551616 (dig 18446744073709551616 xs)) _ (hcx.ext hh.below) hcd (by omega) (by omega)) FnIs.out rfl (by decide) ?_
  rintro e_ w9 ⟨rfl, hb_⟩
  refine ⟨_, rfl, ?_⟩
  replace hh := hh.ext hb_
  rw [dig_digs (by omega)]
  generalize dig 18446744073709551616 xs = M at *
  refine s_addi rfl rfl (by omega) (by omega) (by decide) ?_
  refine s_quoi rfl rfl (by omega) (by omega) (by omega) (by decide) ?_
  refine s_assign (ev_int rfl) (by decide) ?_
  refine wl_end ?_
  refine wc_seq ?_
  refine wc_region ?_
  refine s_move (ev_int rfl) (by decide) ?_
  refine wl_make (n := (blen M + 7) / 8) hh rfl rfl (by omega) (by omega) UIs.out TIs.out rfl (by omega) (by omega) (by decide) ?_
  intro b13 w13 hh
  refine s_assign (ev_sl rfl) (by decide) ?_
  refine wl_end ?_
  refine wc_seq ?_
  refine wc_seq ?_
  refine wc_region ?_
  refine s_move (ev_int rfl) (by decide) ?_
  refine s_move (ev_int rfl) (by decide) ?_
  refine wl_end ?_
  refine wc_block ?_
  -- at a loop
  rw [zrep_u8] at hh
  refine wc_loop1 [5, 15, 16, 17, 18, 19, 20, 21, 22, 23, 24, 25, 26, 27, 28, 29, 30, 31, 32, 33, 34] 15
    (fun v w' => ∃ i : Nat, i ≤ (blen M + 7) / 8 ∧ v = .int .i64 i ∧ Hp w [.row (some ⟨b13, 0, none⟩) ((blen M + 7) / 8) ((blen M + 7) / 8) 5 1 (u8n (List.replicate ((blen M + 7) / 8 - i) 0 ++ (digK 256 i M).reverse))] w')
    (fun v _ => (blen M + 7) / 8 - (intOf v).toNat) ?_ ?_
  · exact ⟨0, Nat.zero_le _, rfl, by simpa [digK] using hh⟩
  · clear hh
    rintro ρ' v w' ⟨i, hi, rfl, hh⟩
    -- 
    -- 
    by_cases hlt : i < (blen M + 7) / 8
    · obtain ⟨ad, rfl, hr⟩ := hcx.at_ (by omega)
      have hg := digs_get (B := 18446744073709551616) (n := M) (i := i / 8) (by omega) (by omega)
      have hg2 := u64s_at hg
      have e1 : ((i : Int) % 8 * 8).toNat = i % 8 * 8 := by omega
      -- 
      refine wc_seq ?_
      refine wc_region ?_
      first | refine s_lss_t rfl rfl (by omega) (by decide) ?_ | refine s_lss_f rfl rfl (by omega) (by decide) ?_ | refine s_lss_v rfl rfl (by decide) ?_
      refine wl_end ?_
      refine wc_seq ?_
      refine wc_cond_t rfl ?_
      refine wc_skip ?_
      refine k_then ?_
      refine wc_seq ?_
      refine wc_block ?_
      refine wc_seq ?_
      refine wc_region ?_
      refine s_move (ev_int rfl) (by decide) ?_
      refine s_assign (ev_int rfl) (by decide) ?_
      refine wl_end ?_
      refine wc_region ?_
      refine s_move (ev_sl rfl) (by decide) ?_
      refine s_move (ev_int rfl) (by decide) ?_
      refine s_subi rfl rfl (by omega) (by omega) (by decide) ?_
      refine s_move (ev_int rfl) (by decide) ?_
      refine s_subi rfl rfl (by omega) (by omega) (by decide) ?_
      refine s_move (ev_sl rfl) (by decide) ?_
      refine s_move (ev_int rfl) (by decide) ?_
      refine s_quoi rfl rfl (by omega) (by omega) (by omega) (by decide) ?_
      refine s_indexSl (k := i / 8) UIs.out TIs.size rfl rfl (by omega) (by omega) (by decide) ?_
      refine s_load1 TIs.out rfl ((hr.ext hh.below).at1 (by assumption)) (by decide) ?_
      refine s_move (ev_int rfl) (by decide) ?_
      refine s_remi rfl rfl (by omega) (by omega) (by decide) ?_
      refine s_muli rfl rfl (by omega) (by omega) (by decide) ?_
      refine s_shru rfl rfl (by omega) (by decide) ?_
      first | refine s_convu_lt UIs.out UIs.out rfl (by first | assumption | omega) (by decide) ?_ | refine s_convu UIs.out UIs.out rfl (by decide) ?_
      refine s_indexRow (k := (blen M + 7) / 8 - 1 - i) UIs.out TIs.size rfl rfl (by omega) (by omega) (by decide) ?_
      -- at none := Op.store 5 (Operand.tmp 33) (Operand.tmp 32)
      refine wl_store_row hh (i := 0) (vs := [_]) rfl rfl (ev_int rfl) rfl TIs.out rfl (by rw [length_u8n, List.length_append, List.length_reverse, List.length_replicate, length_digK]; omega) rfl ?_
      intro ws hh
      simp only [List.set_cons_zero] at hh
      obtain ⟨k, hk⟩ : ∃ k, (blen M + 7) / 8 - i = k + 1 := ⟨(blen M + 7) / 8 - i - 1, by omega⟩
      rw [e1, text_step, Nat.mul_one, splice_one (by rw [length_u8n, List.length_append, List.length_reverse, List.length_replicate, length_digK]; omega), u8n_set, hk, show (blen M + 7) / 8 - 1 - i = k by omega, rep_set, ← List.reverse_concat, ← digK_snoc] at hh
      refine wl_nil ?_
      refine b_norm ?_
      refine k_then ?_
      refine wc_region ?_
      refine s_addi rfl rfl (by omega) (by omega) (by decide) ?_
      refine s_move (ev_int rfl) (by decide) ?_
      refine wl_nil ?_
      refine k_then ?_
      -- at ('round',)
      refine ⟨⟨i + 1, by omega, rfl, by rw [show (blen M + 7) / 8 - (i + 1) = k by omega]; exact hh⟩, by show (blen M + 7) / 8 - (i + 1) < (blen M + 7) / 8 - i; omega, ?_⟩
      (repeat (first | exact agree_mask _ _ _ | refine agree_upd rfl ?_ | refine agree_mask2 rfl ?_))
    · obtain rfl : i = (blen M + 7) / 8 := by omega
      have hfin : u8n (List.replicate ((blen M + 7) / 8 - (blen M + 7) / 8) 0 ++ (digK 256 ((blen M + 7) / 8) M).reverse) = u8s (sb M) := by
        rw [Nat.sub_self, List.replicate_zero, List.nil_append, ← hlen]
        have h1 : M < 256 ^ (digs 256 M).length := digs_lt (by omega) M
        rw [digs_pad (by omega) h1, Nat.sub_self, List.replicate_zero, List.append_nil, u8n_bytes (fun d hd => (can_digs (B := 256) (by omega) M).1 d (List.mem_reverse.1 hd)), sb, List.map_reverse]
      rw [hfin] at hh
      refine wc_seq ?_
      refine wc_region ?_
      first | refine s_lss_t rfl rfl (by omega) (by decide) ?_ | refine s_lss_f rfl rfl (by omega) (by decide) ?_ | refine s_lss_v rfl rfl (by decide) ?_
      refine wl_end ?_
      refine wc_seq ?_
      refine wc_cond_f rfl ?_
      refine wc_exit ?_
      refine k_exit ?_
      refine k_exit ?_
      refine b_here ?_
      refine k_then ?_
      refine wc_seq ?_
      refine wc_region ?_
      refine s_move (ev_sl rfl) (by decide) ?_
      -- at some 36 := Op.convert 151 9 (Operand.tmp 35)
      refine s_bytes_str UIs.out UIs.out UIs.out rfl (hh.sl_row (i := 0) rfl) (by decide) ?_
      refine s_assign (ev_str rfl) (by decide) ?_
      refine wl_end ?_
      refine wc_ret ?_
      -- at ('end', 'ret')
      refine ret1 (by first | exact .inr rfl | exact .inl rfl) rfl (v_str rfl) ?_
      exact ⟨rfl, hh.below⟩
theorem ncopied_calls (A : Option Addr) (n c m : Nat) (xs : List Nat) (w : World) (hx : Sl w A n 1 (u64s xs)) (hn : n ≤ 10000000000) (hm : m ≤ 10000000000) :
    Calls Tryz.prog 165 #[.slice A n c, .int .i64 m] w fun e w' => ∃ b, e = .returned (.slice (some ⟨b, 0, none⟩) (max m n) (max m n)) ∧ w'.ownsRow w.heap.size 124 1 (.slice (some ⟨b, 0, none⟩) (max m n) (max m n)) (max m n) (u64s (xs ++ List.replicate (max m n - n) 0)) ∧ Below w.heap.size w w' := by
  have hl := hx.1
  rw [length_u64s] at hl
  have hh := Hp.start w
  refine calls_vc (N := 15) (l := [.slice A n c, .int .i64 m]) Tryz.func165 rfl rfl (by simp) ?_
  refine wc_seq ?_
  refine wc_region ?_
  refine s_assign (ev_sl rfl) (by decide) ?_
  refine wl_end ?_
  refine wc_seq ?_
  refine wc_region ?_
  refine s_move (ev_int rfl) (by decide) ?_
  refine s_move (ev_sl rfl) (by decide) ?_
  refine s_len_sl UIs.out rfl (by decide) ?_
  refine s_max rfl rfl (by decide) ?_
  refine wl_make (n := max m n) hh rfl rfl (by omega) (by omega) UIs.out TIs.out rfl (by omega) (by omega) (by decide) ?_
  intro b10 w10 hh
  refine s_assign (ev_sl rfl) (by decide) ?_
  refine wl_end ?_
  refine wc_seq ?_
  refine wc_region ?_
  refine s_move (ev_sl rfl) (by decide) ?_
  refine s_move (ev_sl rfl) (by decide) ?_
  -- at some 13 := Op.call { callee := Callee.builtin Builtin.copy, args := #[Operand.tmp 11, Operand.tmp 12]
  rw [zrep_u64] at hh
  refine wl_copy hh (i := 0) (o := 0) rfl rfl rfl (hx.ext hh.below) UIs.out TIs.out (by rw [length_u64s, List.length_replicate]; omega) (oneCells_u64s _) (by decide) ?_
  intro w13 hh
  skip
  have e1 : splice (u64s (List.replicate (max m n) 0)) 0 ((u64s xs).take (min n (max m n) * 1)) = u64s (xs ++ List.replicate (max m n - n) 0) := by
    rw [List.take_of_length_le (by rw [length_u64s]; omega), splice, List.take_zero, List.nil_append, length_u64s, ← u64s_drop, ← u64s_append, List.drop_replicate]
    congr 3
    omega
  simp only [List.set_cons_zero, e1] at hh
  refine wl_end ?_
  refine wc_seq ?_
  refine wc_region ?_
  refine s_move (ev_sl rfl) (by decide) ?_
  refine s_assign (ev_sl rfl) (by decide) ?_
  refine wl_end ?_
  refine wc_ret ?_
  -- at ('end', 'ret')
  refine ret1 (by first | exact .inr rfl | exact .inl rfl) rfl (v_sl rfl) ?_
  exact ⟨_, rfl, hh.at_ (i := 0) rfl, hh.below⟩
theorem ncmp_calls (A B : Option Addr) (n c m c' : Nat) (xs ys : List Nat) (w : World) (hx : Sl w A n 1 (u64s xs)) (hy : Sl w B m 1 (u64s ys)) (hdx : Dg 18446744073709551616 xs) (hdy : Dg 18446744073709551616 ys) (hc : n ≤ c) (hc' : m ≤ c') (hn : n ≤ 100000000000) (hm : m ≤ 100000000000) :
    Calls Tryz.prog 168 #[.slice A n c, .slice B m c'] w fun e w' => e = .returned (.int .i64 (cmpN (dig 18446744073709551616 xs) (dig 18446744073709551616 ys))) ∧ Below w.heap.size w w' := by
  have hlx := hx.1
  have hly := hy.1
  rw [length_u64s] at hlx hly
  have hcx := hx.cutL64
  have hcy := hy.cutL64
  have hxl := cutL_len xs
  have hyl := cutL_len ys
  have hx2 := Can.cut hdx
  have hy2 := Can.cut hdy
  have hh := Hp.start w
  rw [← dig_cutL xs, ← dig_cutL ys]
  refine calls_vc (N := 47) (l := [.slice A n c, .slice B m c']) Tryz.func168 rfl rfl (by simp) ?_
  refine wc_seq ?_
  refine wc_region ?_
  refine s_assign (ev_int rfl) (by decide) ?_
  refine wl_end ?_
  refine wc_seq ?_
  refine wc_region ?_
  refine s_move (ev_sl rfl) (by decide) ?_
  -- at some 7 := Op.call { callee := Callee.value (Operand.func 159), args := #[Operand.tmp 6], argTypes :=
  refine s_callf (cut_calls _ _ _ xs _ hx hc (by omega)) FnIs.out rfl (by decide) ?_
  rintro e_ w7 ⟨rfl, hb_⟩
  refine ⟨_, rfl, ?_⟩
  replace hh := hh.ext hb_
  refine s_move (ev_sl rfl) (by decide) ?_
  -- at some 9 := Op.call { callee := Callee.value (Operand.func 159), args := #[Operand.tmp 8], argTypes :=
  refine s_callf (cut_calls _ _ _ ys _ (hy.ext hh.below) hc' (by omega)) FnIs.out rfl (by decide) ?_
  rintro e_ w9 ⟨rfl, hb_⟩
  refine ⟨_, rfl, ?_⟩
  replace hh := hh.ext hb_
  generalize cutL xs = us at *
  generalize cutL ys = vs at *
  by_cases hlen : us.length = vs.length
  · refine s_assign (ev_sl rfl) (by decide) ?_
    refine s_assign (ev_sl rfl) (by decide) ?_
    refine wl_end ?_
    refine wc_seq ?_
    refine wc_seq ?_
    refine wc_region ?_
    refine s_move (ev_sl rfl) (by decide) ?_
    refine s_len_sl UIs.out rfl (by decide) ?_
    refine s_move (ev_sl rfl) (by decide) ?_
    refine s_len_sl UIs.out rfl (by decide) ?_
    first | refine s_neq_t rfl rfl (by omega) (by decide) ?_ | refine s_neq_f rfl rfl (by omega) (by decide) ?_ | refine s_neq_v rfl rfl (by decide) ?_
    refine wl_end ?_
    refine wc_cond_f rfl ?_
    refine wc_skip ?_
    refine k_then ?_
    refine wc_seq ?_
    refine wc_seq ?_
    refine wc_region ?_
    refine s_move (ev_sl rfl) (by decide) ?_
    refine s_len_sl UIs.out rfl (by decide) ?_
    refine s_subi rfl rfl (by omega) (by omega) (by decide) ?_
    refine s_assign (ev_int rfl) (by decide) ?_
    refine wl_end ?_
    refine wc_block ?_
    -- at a loop
    refine wc_loop1 [4, 5, 23, 24, 25, 26, 27, 28, 29, 30, 31, 32, 33, 34, 35, 36, 37, 38, 39, 40, 41, 42, 43, 44, 45, 46] 5
      (fun v w' => ∃ k : Nat, k ≤ us.length ∧ v = .int .i64 ((k : Int) - 1) ∧ us.drop k = vs.drop k ∧ Hp w [] w')
      (fun v _ => (intOf v + 1).toNat) ?_ ?_
    · exact ⟨us.length, Nat.le_refl _, rfl, by rw [List.drop_length, List.drop_eq_nil_of_le (by omega)], hh⟩
    · clear hh
      rintro ρ' v w' ⟨k, hk, rfl, hd, hh⟩
      by_cases h0 : k = 0
      · subst h0
        refine wc_seq ?_
        refine wc_seq ?_
        refine wc_region ?_
        refine s_move (ev_int rfl) (by decide) ?_
        first | refine s_geq_t rfl rfl (by omega) (by decide) ?_ | refine s_geq_f rfl rfl (by omega) (by decide) ?_ | refine s_geq_v rfl rfl (by decide) ?_
        refine wl_end ?_
        refine wc_cond_f rfl ?_
        refine wc_exit ?_
        refine k_exit ?_
        refine k_exit ?_
        refine b_here ?_
        refine k_then ?_
        refine wc_seq ?_
        refine wc_region ?_
        refine s_assign (ev_int rfl) (by decide) ?_
        refine wl_end ?_
        refine wc_ret ?_
        -- at ('end', 'ret')
        refine ret1 (by first | exact .inr rfl | exact .inl rfl) rfl (v_int rfl) ?_
        rw [List.drop_zero, List.drop_zero] at hd
        rw [hd]
        exact ⟨by rw [cmpN_eq rfl], hh.below⟩
      · obtain ⟨j, rfl⟩ : ∃ j, k = j + 1 := ⟨k - 1, by omega⟩
        obtain ⟨x, hxj⟩ := get_of_lt (l := us) (k := j) (by omega)
        obtain ⟨y, hyj⟩ := get_of_lt (l := vs) (k := j) (by omega)
        obtain ⟨ad, rfl, hr⟩ := hcx.at_ (by omega)
        obtain ⟨ad2, rfl, hs⟩ := hcy.at_ (by omega)
        have hx3 := u64s_at hxj
        have hy3 := u64s_at hyj
        -- 
        by_cases hlt : x < y
        · have hf := cmpN_drop hx2.1 hxj hyj hd hlt
          refine wc_seq ?_
          refine wc_seq ?_
          refine wc_region ?_
          refine s_move (ev_int rfl) (by decide) ?_
          first | refine s_geq_t rfl rfl (by omega) (by decide) ?_ | refine s_geq_f rfl rfl (by omega) (by decide) ?_ | refine s_geq_v rfl rfl (by decide) ?_
          refine wl_end ?_
          refine wc_cond_t rfl ?_
          refine wc_skip ?_
          refine k_then ?_
          refine wc_seq ?_
          refine wc_block ?_
          refine wc_block ?_
          refine wc_seq ?_
          -- at the drawn region 9
          refine wc_drawn 8 [[(0, none)], [(5, none)], [(28, some 0), (29, some 1)], [(30, some 2)], [(1, none)], [(5, none)], [(32, some 4), (33, some 5)], [(34, some 6)]] [(7, 35), (6, 34), (5, 33), (4, 32), (3, 31), (2, 30), (1, 29), (0, 28)] hh mixed (by kernel_rfl) ?_
          refine dx_val (i := 0) (fun ρ1 w1 hj hR => x_move (show ρ1 0 = Value.slice _ _ _ from hR.1)) ?_
          refine dx_val (i := 1) (fun ρ1 w1 hj hR => x_move (show ρ1 5 = Value.int _ _ from hR.1)) ?_
          refine dx_val (i := 2) (fun ρ1 w1 hj hR => x_indexSl (k := j) UIs.out TIs.size (show ρ1 28 = Value.slice _ _ _ from hR.1) (show ρ1 29 = Value.int _ _ from hR.2.1) (by omega) (by omega)) ?_
          refine dx_val (i := 3) (fun ρ1 w1 hj hR => x_load1 TIs.out (show ρ1 30 = Value.pointer _ from hR.1) ((hr.ext hj.hp.below).at1 hx3)) ?_
          refine dx_val (i := 4) (fun ρ1 w1 hj hR => x_move (show ρ1 1 = Value.slice _ _ _ from hR.1)) ?_
          refine dx_val (i := 5) (fun ρ1 w1 hj hR => x_move (show ρ1 5 = Value.int _ _ from hR.1)) ?_
          refine dx_val (i := 6) (fun ρ1 w1 hj hR => x_indexSl (k := j) UIs.out TIs.size (show ρ1 32 = Value.slice _ _ _ from hR.1) (show ρ1 33 = Value.int _ _ from hR.2.1) (by omega) (by omega)) ?_
          refine dx_val (i := 7) (fun ρ1 w1 hj hR => x_load1 TIs.out (show ρ1 34 = Value.pointer _ from hR.1) ((hs.ext hj.hp.below).at1 hy3)) ?_
          refine dx_nil ?_
          intro f W hJ hV
          have hb_9 := hJ.bl
          obtain ⟨v35, v34, v33, v32, v31, v30, v29, v28, _⟩ := hV
          simp only [updL]
          have e28 : f 0 = _ := v28
          rw [e28]
          have e29 : f 1 = _ := v29
          rw [e29]
          have e30 : f 2 = _ := v30
          rw [e30]
          have e31 : f 3 = _ := v31
          rw [e31]
          have e32 : f 4 = _ := v32
          rw [e32]
          have e33 : f 5 = _ := v33
          rw [e33]
          have e34 : f 6 = _ := v34
          rw [e34]
          have e35 : f 7 = _ := v35
          rw [e35]
          replace hh := hJ.hp
          clear e28 e29 e30 e31 e32 e33 e34 e35 hJ
          first | refine s_lss_t rfl rfl (by omega) (by decide) ?_ | refine s_lss_f rfl rfl (by omega) (by decide) ?_ | refine s_lss_v rfl rfl (by decide) ?_
          refine s_assign (ev_bool rfl) (by decide) ?_
          refine wl_end ?_
          refine wc_cond_t rfl ?_
          refine wc_seq ?_
          refine wc_region ?_
          refine s_assign (ev_int rfl) (by decide) ?_
          refine wl_end ?_
          refine wc_ret ?_
          refine b_ret ?_
          refine b_ret ?_
          refine k_ret ?_
          refine k_ret ?_
          refine b_ret ?_
          refine k_ret ?_
          -- at ('end', 'ret')
          refine ret1 (by first | exact .inr rfl | exact .inl rfl) rfl (v_int rfl) ?_
          exact ⟨by rw [cmpN_lt hf], hh.below⟩
        · by_cases hgt : y < x
          · have hf := cmpN_drop hy2.1 hyj hxj hd.symm hgt
            refine wc_seq ?_
            refine wc_seq ?_
            refine wc_region ?_
            refine s_move (ev_int rfl) (by decide) ?_
            first | refine s_geq_t rfl rfl (by omega) (by decide) ?_ | refine s_geq_f rfl rfl (by omega) (by decide) ?_ | refine s_geq_v rfl rfl (by decide) ?_
            refine wl_end ?_
            refine wc_cond_t rfl ?_
            refine wc_skip ?_
            refine k_then ?_
            refine wc_seq ?_
            refine wc_block ?_
            refine wc_block ?_
            refine wc_seq ?_
            -- at the drawn region 9
            refine wc_drawn 8 [[(0, none)], [(5, none)], [(28, some 0), (29, some 1)], [(30, some 2)], [(1, none)], [(5, none)], [(32, some 4), (33, some 5)], [(34, some 6)]] [(7, 35), (6, 34), (5, 33), (4, 32), (3, 31), (2, 30), (1, 29), (0, 28)] hh mixed (by kernel_rfl) ?_
            refine dx_val (i := 0) (fun ρ1 w1 hj hR => x_move (show ρ1 0 = Value.slice _ _ _ from hR.1)) ?_
            refine dx_val (i := 1) (fun ρ1 w1 hj hR => x_move (show ρ1 5 = Value.int _ _ from hR.1)) ?_
            refine dx_val (i := 2) (fun ρ1 w1 hj hR => x_indexSl (k := j) UIs.out TIs.size (show ρ1 28 = Value.slice _ _ _ from hR.1) (show ρ1 29 = Value.int _ _ from hR.2.1) (by omega) (by omega)) ?_
            refine dx_val (i := 3) (fun ρ1 w1 hj hR => x_load1 TIs.out (show ρ1 30 = Value.pointer _ from hR.1) ((hr.ext hj.hp.below).at1 hx3)) ?_
            refine dx_val (i := 4) (fun ρ1 w1 hj hR => x_move (show ρ1 1 = Value.slice _ _ _ from hR.1)) ?_
            refine dx_val (i := 5) (fun ρ1 w1 hj hR => x_move (show ρ1 5 = Value.int _ _ from hR.1)) ?_
            refine dx_val (i := 6) (fun ρ1 w1 hj hR => x_indexSl (k := j) UIs.out TIs.size (show ρ1 32 = Value.slice _ _ _ from hR.1) (show ρ1 33 = Value.int _ _ from hR.2.1) (by omega) (by omega)) ?_
            refine dx_val (i := 7) (fun ρ1 w1 hj hR => x_load1 TIs.out (show ρ1 34 = Value.pointer _ from hR.1) ((hs.ext hj.hp.below).at1 hy3)) ?_
            refine dx_nil ?_
            intro f W hJ hV
            have hb_9 := hJ.bl
            obtain ⟨v35, v34, v33, v32, v31, v30, v29, v28, _⟩ := hV
            simp only [updL]
            have e28 : f 0 = _ := v28
            rw [e28]
            have e29 : f 1 = _ := v29
            rw [e29]
            have e30 : f 2 = _ := v30
            rw [e30]
            have e31 : f 3 = _ := v31
            rw [e31]
            have e32 : f 4 = _ := v32
            rw [e32]
            have e33 : f 5 = _ := v33
            rw [e33]
            have e34 : f 6 = _ := v34
            rw [e34]
            have e35 : f 7 = _ := v35
            rw [e35]
            replace hh := hJ.hp
            clear e28 e29 e30 e31 e32 e33 e34 e35 hJ
            first | refine s_lss_t rfl rfl (by omega) (by decide) ?_ | refine s_lss_f rfl rfl (by omega) (by decide) ?_ | refine s_lss_v rfl rfl (by decide) ?_
            refine s_assign (ev_bool rfl) (by decide) ?_
            refine wl_end ?_
            refine wc_cond_f rfl ?_
            refine wc_seq ?_
            -- at the drawn region 11
            refine wc_drawn 8 [[(0, none)], [(5, none)], [(38, some 0), (39, some 1)], [(40, some 2)], [(1, none)], [(5, none)], [(42, some 4), (43, some 5)], [(44, some 6)]] [(7, 45), (6, 44), (5, 43), (4, 42), (3, 41), (2, 40), (1, 39), (0, 38)] hh mixed (by kernel_rfl) ?_
            refine dx_val (i := 0) (fun ρ1 w1 hj hR => x_move (show ρ1 0 = Value.slice _ _ _ from hR.1)) ?_
            refine dx_val (i := 1) (fun ρ1 w1 hj hR => x_move (show ρ1 5 = Value.int _ _ from hR.1)) ?_
            refine dx_val (i := 2) (fun ρ1 w1 hj hR => x_indexSl (k := j) UIs.out TIs.size (show ρ1 38 = Value.slice _ _ _ from hR.1) (show ρ1 39 = Value.int _ _ from hR.2.1) (by omega) (by omega)) ?_
            refine dx_val (i := 3) (fun ρ1 w1 hj hR => x_load1 TIs.out (show ρ1 40 = Value.pointer _ from hR.1) ((hr.ext hj.hp.below).at1 hx3)) ?_
            refine dx_val (i := 4) (fun ρ1 w1 hj hR => x_move (show ρ1 1 = Value.slice _ _ _ from hR.1)) ?_
            refine dx_val (i := 5) (fun ρ1 w1 hj hR => x_move (show ρ1 5 = Value.int _ _ from hR.1)) ?_
            refine dx_val (i := 6) (fun ρ1 w1 hj hR => x_indexSl (k := j) UIs.out TIs.size (show ρ1 42 = Value.slice _ _ _ from hR.1) (show ρ1 43 = Value.int _ _ from hR.2.1) (by omega) (by omega)) ?_
            refine dx_val (i := 7) (fun ρ1 w1 hj hR => x_load1 TIs.out (show ρ1 44 = Value.pointer _ from hR.1) ((hs.ext hj.hp.below).at1 hy3)) ?_
            refine dx_nil ?_
            intro f W hJ hV
            have hb_11 := hJ.bl
            obtain ⟨v45, v44, v43, v42, v41, v40, v39, v38, _⟩ := hV
            simp only [updL]
            have e38 : f 0 = _ := v38
            rw [e38]
            have e39 : f 1 = _ := v39
            rw [e39]
            have e40 : f 2 = _ := v40
            rw [e40]
            have e41 : f 3 = _ := v41
            rw [e41]
            have e42 : f 4 = _ := v42
            rw [e42]
            have e43 : f 5 = _ := v43
            rw [e43]
            have e44 : f 6 = _ := v44
            rw [e44]
            have e45 : f 7 = _ := v45
            rw [e45]
            replace hh := hJ.hp
            clear e38 e39 e40 e41 e42 e43 e44 e45 hJ
            first | refine s_gtr_t rfl rfl (by omega) (by decide) ?_ | refine s_gtr_f rfl rfl (by omega) (by decide) ?_ | refine s_gtr_v rfl rfl (by decide) ?_
            refine s_assign (ev_bool rfl) (by decide) ?_
            refine wl_end ?_
            refine wc_cond_t rfl ?_
            refine wc_seq ?_
            refine wc_region ?_
            refine s_assign (ev_int rfl) (by decide) ?_
            refine wl_end ?_
            refine wc_ret ?_
            refine b_ret ?_
            refine b_ret ?_
            refine k_ret ?_
            refine k_ret ?_
            refine b_ret ?_
            refine k_ret ?_
            -- at ('end', 'ret')
            refine ret1 (by first | exact .inr rfl | exact .inl rfl) rfl (v_int rfl) ?_
            exact ⟨by rw [cmpN_gt hf], hh.below⟩
          · refine wc_seq ?_
            refine wc_seq ?_
            refine wc_region ?_
            refine s_move (ev_int rfl) (by decide) ?_
            first | refine s_geq_t rfl rfl (by omega) (by decide) ?_ | refine s_geq_f rfl rfl (by omega) (by decide) ?_ | refine s_geq_v rfl rfl (by decide) ?_
            refine wl_end ?_
            refine wc_cond_t rfl ?_
            refine wc_skip ?_
            refine k_then ?_
            refine wc_seq ?_
            refine wc_block ?_
            refine wc_block ?_
            refine wc_seq ?_
            -- at the drawn region 9
            refine wc_drawn 8 [[(0, none)], [(5, none)], [(28, some 0), (29, some 1)], [(30, some 2)], [(1, none)], [(5, none)], [(32, some 4), (33, some 5)], [(34, some 6)]] [(7, 35), (6, 34), (5, 33), (4, 32), (3, 31), (2, 30), (1, 29), (0, 28)] hh mixed (by kernel_rfl) ?_
            refine dx_val (i := 0) (fun ρ1 w1 hj hR => x_move (show ρ1 0 = Value.slice _ _ _ from hR.1)) ?_
            refine dx_val (i := 1) (fun ρ1 w1 hj hR => x_move (show ρ1 5 = Value.int _ _ from hR.1)) ?_
            refine dx_val (i := 2) (fun ρ1 w1 hj hR => x_indexSl (k := j) UIs.out TIs.size (show ρ1 28 = Value.slice _ _ _ from hR.1) (show ρ1 29 = Value.int _ _ from hR.2.1) (by omega) (by omega)) ?_
            refine dx_val (i := 3) (fun ρ1 w1 hj hR => x_load1 TIs.out (show ρ1 30 = Value.pointer _ from hR.1) ((hr.ext hj.hp.below).at1 hx3)) ?_
            refine dx_val (i := 4) (fun ρ1 w1 hj hR => x_move (show ρ1 1 = Value.slice _ _ _ from hR.1)) ?_
            refine dx_val (i := 5) (fun ρ1 w1 hj hR => x_move (show ρ1 5 = Value.int _ _ from hR.1)) ?_
            refine dx_val (i := 6) (fun ρ1 w1 hj hR => x_indexSl (k := j) UIs.out TIs.size (show ρ1 32 = Value.slice _ _ _ from hR.1) (show ρ1 33 = Value.int _ _ from hR.2.1) (by omega) (by omega)) ?_
            refine dx_val (i := 7) (fun ρ1 w1 hj hR => x_load1 TIs.out (show ρ1 34 = Value.pointer _ from hR.1) ((hs.ext hj.hp.below).at1 hy3)) ?_
            refine dx_nil ?_
            intro f W hJ hV
            have hb_9 := hJ.bl
            obtain ⟨v35, v34, v33, v32, v31, v30, v29, v28, _⟩ := hV
            simp only [updL]
            have e28 : f 0 = _ := v28
            rw [e28]
            have e29 : f 1 = _ := v29
            rw [e29]
            have e30 : f 2 = _ := v30
            rw [e30]
            have e31 : f 3 = _ := v31
            rw [e31]
            have e32 : f 4 = _ := v32
            rw [e32]
            have e33 : f 5 = _ := v33
            rw [e33]
            have e34 : f 6 = _ := v34
            rw [e34]
            have e35 : f 7 = _ := v35
            rw [e35]
            replace hh := hJ.hp
            clear e28 e29 e30 e31 e32 e33 e34 e35 hJ
            first | refine s_lss_t rfl rfl (by omega) (by decide) ?_ | refine s_lss_f rfl rfl (by omega) (by decide) ?_ | refine s_lss_v rfl rfl (by decide) ?_
            refine s_assign (ev_bool rfl) (by decide) ?_
            refine wl_end ?_
            refine wc_cond_f rfl ?_
            refine wc_seq ?_
            -- at the drawn region 11
            refine wc_drawn 8 [[(0, none)], [(5, none)], [(38, some 0), (39, some 1)], [(40, some 2)], [(1, none)], [(5, none)], [(42, some 4), (43, some 5)], [(44, some 6)]] [(7, 45), (6, 44), (5, 43), (4, 42), (3, 41), (2, 40), (1, 39), (0, 38)] hh mixed (by kernel_rfl) ?_
            refine dx_val (i := 0) (fun ρ1 w1 hj hR => x_move (show ρ1 0 = Value.slice _ _ _ from hR.1)) ?_
            refine dx_val (i := 1) (fun ρ1 w1 hj hR => x_move (show ρ1 5 = Value.int _ _ from hR.1)) ?_
            refine dx_val (i := 2) (fun ρ1 w1 hj hR => x_indexSl (k := j) UIs.out TIs.size (show ρ1 38 = Value.slice _ _ _ from hR.1) (show ρ1 39 = Value.int _ _ from hR.2.1) (by omega) (by omega)) ?_
            refine dx_val (i := 3) (fun ρ1 w1 hj hR => x_load1 TIs.out (show ρ1 40 = Value.pointer _ from hR.1) ((hr.ext hj.hp.below).at1 hx3)) ?_
            refine dx_val (i := 4) (fun ρ1 w1 hj hR => x_move (show ρ1 1 = Value.slice _ _ _ from hR.1)) ?_
            refine dx_val (i := 5) (fun ρ1 w1 hj hR => x_move (show ρ1 5 = Value.int _ _ from hR.1)) ?_
            refine dx_val (i := 6) (fun ρ1 w1 hj hR => x_indexSl (k := j) UIs.out TIs.size (show ρ1 42 = Value.slice _ _ _ from hR.1) (show ρ1 43 = Value.int _ _ from hR.2.1) (by omega) (by omega)) ?_
            refine dx_val (i := 7) (fun ρ1 w1 hj hR => x_load1 TIs.out (show ρ1 44 = Value.pointer _ from hR.1) ((hs.ext hj.hp.below).at1 hy3)) ?_
            refine dx_nil ?_
            intro f W hJ hV
            have hb_11 := hJ.bl
            obtain ⟨v45, v44, v43, v42, v41, v40, v39, v38, _⟩ := hV
            simp only [updL]
            have e38 : f 0 = _ := v38
            rw [e38]
            have e39 : f 1 = _ := v39
            rw [e39]
            have e40 : f 2 = _ := v40
            rw [e40]
            have e41 : f 3 = _ := v41
            rw [e41]
            have e42 : f 4 = _ := v42
            rw [e42]
            have e43 : f 5 = _ := v43
            rw [e43]
            have e44 : f 6 = _ := v44
            rw [e44]
            have e45 : f 7 = _ := v45
            rw [e45]
            replace hh := hJ.hp
            clear e38 e39 e40 e41 e42 e43 e44 e45 hJ
            first | refine s_gtr_t rfl rfl (by omega) (by decide) ?_ | refine s_gtr_f rfl rfl (by omega) (by decide) ?_ | refine s_gtr_v rfl rfl (by decide) ?_
            refine s_assign (ev_bool rfl) (by decide) ?_
            refine wl_end ?_
            refine wc_cond_f rfl ?_
            refine wc_skip ?_
            refine b_norm ?_
            refine b_norm ?_
            refine k_then ?_
            refine wc_region ?_
            refine s_move (ev_int rfl) (by decide) ?_
            refine s_subi rfl rfl (by omega) (by omega) (by decide) ?_
            refine s_assign (ev_int rfl) (by decide) ?_
            refine wl_nil ?_
            refine k_then ?_
            -- at ('round',)
            refine ⟨⟨j, by omega, by show Value.int _ _ = Value.int _ _; congr 1; omega, drop_eq_step hxj hyj hd (by omega), hh⟩, by show ((((j + 1 : Nat) : Int) - 1 - 1) + 1).toNat < ((((j + 1 : Nat) : Int) - 1) + 1).toNat; omega, ?_⟩
            (repeat (first | exact agree_mask _ _ _ | refine agree_upd rfl ?_ | refine agree_mask2 rfl ?_))
  · by_cases hlt : us.length < vs.length
    · have hf : dig 18446744073709551616 us < dig 18446744073709551616 vs := by
        refine Nat.lt_of_not_le fun h => ?_
        have := hy2.len_le hx2 (by omega) h
        omega
      refine s_assign (ev_sl rfl) (by decide) ?_
      refine s_assign (ev_sl rfl) (by decide) ?_
      refine wl_end ?_
      refine wc_seq ?_
      refine wc_seq ?_
      refine wc_region ?_
      refine s_move (ev_sl rfl) (by decide) ?_
      refine s_len_sl UIs.out rfl (by decide) ?_
      refine s_move (ev_sl rfl) (by decide) ?_
      refine s_len_sl UIs.out rfl (by decide) ?_
      first | refine s_neq_t rfl rfl (by omega) (by decide) ?_ | refine s_neq_f rfl rfl (by omega) (by decide) ?_ | refine s_neq_v rfl rfl (by decide) ?_
      refine wl_end ?_
      refine wc_cond_t rfl ?_
      refine wc_seq ?_
      refine wc_seq ?_
      refine wc_region ?_
      refine s_move (ev_sl rfl) (by decide) ?_
      refine s_len_sl UIs.out rfl (by decide) ?_
      refine s_move (ev_sl rfl) (by decide) ?_
      refine s_len_sl UIs.out rfl (by decide) ?_
      first | refine s_lss_t rfl rfl (by omega) (by decide) ?_ | refine s_lss_f rfl rfl (by omega) (by decide) ?_ | refine s_lss_v rfl rfl (by decide) ?_
      refine wl_end ?_
      refine wc_cond_t rfl ?_
      refine wc_seq ?_
      refine wc_region ?_
      refine s_assign (ev_int rfl) (by decide) ?_
      refine wl_end ?_
      refine wc_ret ?_
      refine k_ret ?_
      refine k_ret ?_
      -- at ('end', 'ret')
      refine ret1 (by first | exact .inr rfl | exact .inl rfl) rfl (v_int rfl) ?_
      exact ⟨by rw [cmpN_lt hf], hh.below⟩
    · have hf : dig 18446744073709551616 vs < dig 18446744073709551616 us := by
        refine Nat.lt_of_not_le fun h => ?_
        have := hx2.len_le hy2 (by omega) h
        omega
      refine s_assign (ev_sl rfl) (by decide) ?_
      refine s_assign (ev_sl rfl) (by decide) ?_
      refine wl_end ?_
      refine wc_seq ?_
      refine wc_seq ?_
      refine wc_region ?_
      refine s_move (ev_sl rfl) (by decide) ?_
      refine s_len_sl UIs.out rfl (by decide) ?_
      refine s_move (ev_sl rfl) (by decide) ?_
      refine s_len_sl UIs.out rfl (by decide) ?_
      first | refine s_neq_t rfl rfl (by omega) (by decide) ?_ | refine s_neq_f rfl rfl (by omega) (by decide) ?_ | refine s_neq_v rfl rfl (by decide) ?_
      refine wl_end ?_
      refine wc_cond_t rfl ?_
      refine wc_seq ?_
      refine wc_seq ?_
      refine wc_region ?_
      refine s_move (ev_sl rfl) (by decide) ?_
      refine s_len_sl UIs.out rfl (by decide) ?_
      refine s_move (ev_sl rfl) (by decide) ?_
      refine s_len_sl UIs.out rfl (by decide) ?_
      first | refine s_lss_t rfl rfl (by omega) (by decide) ?_ | refine s_lss_f rfl rfl (by omega) (by decide) ?_ | refine s_lss_v rfl rfl (by decide) ?_
      refine wl_end ?_
      refine wc_cond_f rfl ?_
      refine wc_skip ?_
      refine k_then ?_
      refine wc_seq ?_
      refine wc_region ?_
      refine s_assign (ev_int rfl) (by decide) ?_
      refine wl_end ?_
      refine wc_ret ?_
      refine k_ret ?_
      -- at ('end', 'ret')
      refine ret1 (by first | exact .inr rfl | exact .inl rfl) rfl (v_int rfl) ?_
      exact ⟨by rw [cmpN_gt hf], hh.below⟩
end Go.Proofs.YthmmofllajkejaaGreatDoor
