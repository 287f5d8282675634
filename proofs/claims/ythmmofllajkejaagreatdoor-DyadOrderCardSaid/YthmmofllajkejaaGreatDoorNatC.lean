/- The walks through the program's natural numbers (nat): shifts. -/
import Derived.Test.YthmmofllajkejaaGreatDoorNatB
namespace Go.Proofs.YthmmofllajkejaaGreatDoor
open Go.RowKit
-- umode
theorem up_step {k i n d : Nat} (D : Nat) (hD : D < 18446744073709551616 ^ i) (hd : d < 18446744073709551616) (hk : i + n / 64 + 1 < k) :
    (D * 2 ^ n) / 18446744073709551616 ^ (i + n / 64) % 18446744073709551616 < 2 ^ (n % 64) ∧ d * 2 ^ (n % 64) % 18446744073709551616 = (d % 2 ^ (64 - n % 64)) * 2 ^ (n % 64) ∧
    (digK 18446744073709551616 k (D * 2 ^ n)).set (i + n / 64) ((D * 2 ^ n) / 18446744073709551616 ^ (i + n / 64) % 18446744073709551616 + d * 2 ^ (n % 64) % 18446744073709551616) = digK 18446744073709551616 k (D * 2 ^ n + 18446744073709551616 ^ (i + n / 64) * (d * 2 ^ (n % 64) % 18446744073709551616)) ∧
    (D * 2 ^ n + 18446744073709551616 ^ (i + n / 64) * (d * 2 ^ (n % 64) % 18446744073709551616)) / 18446744073709551616 ^ (i + n / 64 + 1) % 18446744073709551616 = 0 ∧
    (digK 18446744073709551616 k (D * 2 ^ n + 18446744073709551616 ^ (i + n / 64) * (d * 2 ^ (n % 64) % 18446744073709551616))).set (i + n / 64 + 1) (d / 2 ^ (64 - n % 64)) = digK 18446744073709551616 k ((D + 18446744073709551616 ^ i * d) * 2 ^ n) ∧
    (n % 64 = 0 → D * 2 ^ n + 18446744073709551616 ^ (i + n / 64) * (d * 2 ^ (n % 64) % 18446744073709551616) = (D + 18446744073709551616 ^ i * d) * 2 ^ n) := by
  have hW : (18446744073709551616 : Nat) = 2 ^ 64 := by decide
  have hs : n % 64 < 64 := Nat.mod_lt _ (by omega)
  have hn : 2 ^ n = 18446744073709551616 ^ (n / 64) * 2 ^ (n % 64) := by
    rw [hW, ← Nat.pow_mul, ← Nat.pow_add]; congr 1; omega
  generalize hq : n / 64 = q at *
  generalize hse : n % 64 = s at *
  have e : (18446744073709551616 : Nat) = 2 ^ (64 - s) * 2 ^ s := by rw [← Nat.pow_add, hW]; congr 1; omega
  have hpos : 0 < 2 ^ s := Nat.pow_pos (by omega)
  have hwp : ∀ j : Nat, 0 < 18446744073709551616 ^ j := fun j => Nat.pow_pos (by decide)
  have hP : D * 2 ^ n < 18446744073709551616 ^ (i + q) * 2 ^ s := by
    rw [hn, ← Nat.mul_assoc, Nat.pow_add]
    exact Nat.mul_lt_mul_of_pos_right (Nat.mul_lt_mul_of_pos_right hD (hwp q)) hpos
  have h1 : (D * 2 ^ n) / 18446744073709551616 ^ (i + q) < 2 ^ s := by rw [Nat.div_lt_iff_lt_mul (hwp _), Nat.mul_comm (2 ^ s)]; exact hP
  have hsW : 2 ^ s ≤ 18446744073709551616 := by rw [hW]; exact Nat.pow_le_pow_right (by omega) (by omega)
  have h2 : d * 2 ^ s % 18446744073709551616 = (d % 2 ^ (64 - s)) * 2 ^ s := by rw [e, Nat.mul_mod_mul_right]
  have h3 : (d % 2 ^ (64 - s) + 1) * 2 ^ s ≤ 18446744073709551616 := by
    rw [e]
    exact Nat.mul_le_mul_right _ (Nat.mod_lt _ (Nat.pow_pos (by omega)))
  rw [Nat.succ_mul] at h3
  have h4 : (D * 2 ^ n) / 18446744073709551616 ^ (i + q) % 18446744073709551616 = (D * 2 ^ n) / 18446744073709551616 ^ (i + q) := Nat.mod_eq_of_lt (by omega)
  have hlt1 : D * 2 ^ n + 18446744073709551616 ^ (i + q) * (d * 2 ^ s % 18446744073709551616) < 18446744073709551616 ^ (i + q + 1) := by
    rw [h2, Nat.pow_succ]
    have : 18446744073709551616 ^ (i + q) * ((d % 2 ^ (64 - s)) * 2 ^ s + 2 ^ s) ≤ 18446744073709551616 ^ (i + q) * 18446744073709551616 := Nat.mul_le_mul_left _ h3
    rw [Nat.mul_add] at this
    omega
  have hup := up_shl (d := d) (s := s) hd (by omega)
  have hfin : D * 2 ^ n + 18446744073709551616 ^ (i + q) * (d * 2 ^ s % 18446744073709551616) + 18446744073709551616 ^ (i + q + 1) * (d / 2 ^ (64 - s)) = (D + 18446744073709551616 ^ i * d) * 2 ^ n := by
    have h5 : 18446744073709551616 ^ (i + q) * (d * 2 ^ s % 18446744073709551616) + 18446744073709551616 ^ (i + q + 1) * (d / 2 ^ (64 - s)) = 18446744073709551616 ^ (i + q) * (d * 2 ^ s) := by
      conv => rhs; rw [← hup.1, Nat.mul_add]
      rw [Nat.pow_succ, Nat.mul_assoc, Nat.mul_comm 18446744073709551616]
    rw [Nat.add_assoc, h5, Nat.add_mul, hn, Nat.pow_add]
    congr 1
    simp only [Nat.mul_assoc, Nat.mul_left_comm, Nat.mul_comm]
  have hbig : ∀ j, j < k → 18446744073709551616 ^ j * 18446744073709551616 ≤ 18446744073709551616 ^ k := fun j hj => by rw [← Nat.pow_succ]; exact Nat.pow_le_pow_right (by decide) hj
  have hb1 := hbig (i + q) (by omega)
  rw [← Nat.pow_succ] at hb1
  refine ⟨by rw [h4]; exact h1, h2, ?_, ?_, ?_, ?_⟩
  · exact digK_set (by decide) (by omega) (by omega) (by rw [h4, h2]; omega)
  · rw [Nat.div_eq_of_lt hlt1]
  · have h6 : (D * 2 ^ n + 18446744073709551616 ^ (i + q) * (d * 2 ^ s % 18446744073709551616)) / 18446744073709551616 ^ (i + q + 1) % 18446744073709551616 = 0 := by rw [Nat.div_eq_of_lt hlt1]
    have h7 : d / 2 ^ (64 - s) < 18446744073709551616 := Nat.lt_of_le_of_lt (Nat.div_le_self _ _) hd
    have h8 := digK_set (B := 18446744073709551616) (k := k) (n := D * 2 ^ n + 18446744073709551616 ^ (i + q) * (d * 2 ^ s % 18446744073709551616)) (j := i + q + 1) (v := d / 2 ^ (64 - s)) (by decide) hk ?_ (by rw [h6]; omega)
    · rw [h6, Nat.zero_add, hfin] at h8
      exact h8
    · have h9 : 18446744073709551616 ^ (i + q + 1) * (d / 2 ^ (64 - s) + 1) ≤ 18446744073709551616 ^ (i + q + 1) * 18446744073709551616 := Nat.mul_le_mul_left _ h7
      have h10 := hbig (i + q + 1) hk
      rw [Nat.mul_succ] at h9
      omega
  · intro h0
    subst h0
    rw [← hfin]
    have : d / 2 ^ (64 - 0) = 0 := Nat.div_eq_of_lt (by rw [← hW]; exact hd)
    rw [this]
    simp
theorem nup_calls (A : Option Addr) (n c m : Nat) (xs : List Nat) (w : World) (hx : Sl w A n 1 (u64s xs)) (hd : Dg 18446744073709551616 xs) (hn : n ≤ 1000000000) (hm : m ≤ 10000000000) :
    Calls Tryz.prog 160 #[.slice A n c, .int .i64 (m : Int)] w fun e w' => ∃ A c, e = .returned (.slice A (digs 18446744073709551616 (dig 18446744073709551616 xs * 2 ^ m)).length c) ∧ w'.ownsRow w.heap.size 124 1 (.slice A (digs 18446744073709551616 (dig 18446744073709551616 xs * 2 ^ m)).length c) (digs 18446744073709551616 (dig 18446744073709551616 xs * 2 ^ m)).length (u64s (digs 18446744073709551616 (dig 18446744073709551616 xs * 2 ^ m))) ∧ Below w.heap.size w w' := by
  have hl := hx.1
  rw [length_u64s] at hl
  have hh := Hp.start w
  have hs1 : ((m : Int) % 64).toNat = m % 64 := by omega
  refine calls_vc (N := 55) (l := [.slice A n c, .int .i64 (m : Int)]) Tryz.func160 rfl rfl (by simp) ?_
  refine wc_seq ?_
  refine wc_region ?_
  refine s_assign (ev_sl rfl) (by decide) ?_
  refine wl_end ?_
  refine wc_seq ?_
  refine wc_region ?_
  refine s_move (ev_sl rfl) (by decide) ?_
  refine s_len_sl UIs.out rfl (by decide) ?_
  refine s_move (ev_int rfl) (by decide) ?_
  refine s_quoi rfl rfl (by omega) (by omega) (by omega) (by decide) ?_
  refine s_addi rfl rfl (by omega) (by omega) (by decide) ?_
  refine s_addi rfl rfl (by omega) (by omega) (by decide) ?_
  refine wl_make (n := n + m / 64 + 1) hh rfl rfl (by omega) (by omega) UIs.out TIs.out rfl (by omega) (by omega) (by decide) ?_
  intro b15 w15 hh
  refine s_assign (ev_sl rfl) (by decide) ?_
  refine wl_end ?_
  refine wc_seq ?_
  refine wc_seq ?_
  refine wc_region ?_
  refine s_move (ev_sl rfl) (by decide) ?_
  refine s_len_sl UIs.out rfl (by decide) ?_
  refine s_move (ev_int rfl) (by decide) ?_
  refine wl_end ?_
  refine wc_block ?_
  -- at a loop
  rw [zrep_u64] at hh
  refine wc_loop1 [6, 7, 8, 18, 19, 20, 21, 22, 23, 24, 25, 26, 27, 28, 29, 30, 31, 32, 33, 34, 35, 36, 37, 38, 39, 40, 41, 42, 43, 44, 45, 46, 47, 48, 49, 50, 51, 52] 18
    (fun v w' => ∃ i : Nat, i ≤ n ∧ v = .int .i64 i ∧ Hp w [.row (some ⟨b15, 0, none⟩) (n + m / 64 + 1) (n + m / 64 + 1) 124 1 (u64s (digK 18446744073709551616 (n + m / 64 + 1) (dig 18446744073709551616 (xs.take i) * 2 ^ m)))] w')
    (fun v _ => n - (intOf v).toNat) ?_ ?_
  · exact ⟨0, Nat.zero_le _, rfl, by rw [List.take_zero, dig, Nat.zero_mul, digK_zero]; exact hh⟩
  · clear hh
    rintro ρ' v w' ⟨i, hi, rfl, hh⟩
    -- 
    -- 
    by_cases hlt : i < n
    · obtain ⟨d, hdi⟩ := get_of_lt (l := xs) (k := i) (by omega)
      obtain ⟨ad, rfl, hr⟩ := hx.at_ (by omega)
      have hd2 := u64s_at hdi
      have hdw := hd.at_ hdi
      have hD := dig_lt (hd.take i)
      rw [List.length_take, Nat.min_eq_left (by omega)] at hD
      obtain ⟨s1, s2, s3, s4, s5, s6⟩ := up_step (k := n + m / 64 + 1) (n := m) (dig 18446744073709551616 (xs.take i)) hD hdw (by omega)
      have hg := u64s_at (digK_get (B := 18446744073709551616) (n + m / 64 + 1) (dig 18446744073709551616 (xs.take i) * 2 ^ m) (i + m / 64) (by omega))
      -- 
      refine wc_seq ?_
      refine wc_region ?_
      first | refine s_lss_t rfl rfl (by omega) (by decide) ?_ | refine s_lss_f rfl rfl (by omega) (by decide) ?_ | refine s_lss_v rfl rfl (by decide) ?_
      refine wl_end ?_
      refine wc_seq ?_
      refine wc_cond_t rfl ?_
      refine wc_skip ?_
      refine k_then ?_
      refine wc_seq ?_
      refine wc_block ?_
      refine wc_seq ?_
      refine wc_region ?_
      refine s_move (ev_int rfl) (by decide) ?_
      refine s_indexSl UIs.out TIs.size rfl rfl rfl (by omega) (by decide) ?_
      refine s_load1 TIs.out rfl ((hr.ext hh.below).at1 (by assumption)) (by decide) ?_
      refine s_assign (ev_int rfl) (by decide) ?_
      refine s_assign (ev_int rfl) (by decide) ?_
      refine wl_end ?_
      refine wc_seq ?_
      refine wc_region ?_
      refine s_move (ev_int rfl) (by decide) ?_
      refine s_move (ev_int rfl) (by decide) ?_
      refine s_quoi rfl rfl (by omega) (by omega) (by omega) (by decide) ?_
      refine s_addi rfl rfl (by omega) (by omega) (by decide) ?_
      refine s_assign (ev_int rfl) (by decide) ?_
      refine wl_end ?_
      refine wc_seq ?_
      -- at the drawn region 6
      refine wc_drawn 8 [[(5, none)], [(8, none)], [(27, some 0), (28, some 1)], [(29, some 2)], [(7, none)], [(1, none)], [(32, some 5)], [(31, some 4), (33, some 6)]] [(7, 34), (6, 33), (5, 32), (4, 31), (3, 30), (2, 29), (1, 28), (0, 27)] hh mixed (by kernel_rfl) ?_
      refine dx_val (i := 0) (fun ρ1 w1 hj hR => x_move (show ρ1 5 = Value.slice _ _ _ from hR.1)) ?_
      refine dx_val (i := 1) (fun ρ1 w1 hj hR => x_move (show ρ1 8 = Value.int _ _ from hR.1)) ?_
      refine dx_val (i := 2) (fun ρ1 w1 hj hR => x_indexRow (k := i + m / 64) UIs.out TIs.size (show ρ1 27 = Value.slice _ _ _ from hR.1) (show ρ1 28 = Value.int _ _ from hR.2.1) (by omega) (by omega)) ?_
      refine dx_val (i := 3) (fun ρ1 w1 hj hR => x_load1 TIs.out (show ρ1 29 = Value.pointer _ from hR.1) (hj.hp.cell_row (i := 0) rfl (by rw [Nat.mul_one]; exact hg))) ?_
      refine dx_val (i := 4) (fun ρ1 w1 hj hR => x_move (show ρ1 7 = Value.int _ _ from hR.1)) ?_
      refine dx_val (i := 5) (fun ρ1 w1 hj hR => x_move (show ρ1 1 = Value.int _ _ from hR.1)) ?_
      refine dx_val (i := 6) (fun ρ1 w1 hj hR => x_remi (show ρ1 32 = Value.int _ _ from hR.1) rfl (by omega) (by omega)) ?_
      refine dx_val (i := 7) (fun ρ1 w1 hj hR => x_shlu (show ρ1 31 = Value.int _ _ from hR.1) (show ρ1 33 = Value.int _ _ from hR.2.1) (by omega)) ?_
      refine dx_nil ?_
      intro f W hJ hV
      have hb_6 := hJ.bl
      obtain ⟨v34, v33, v32, v31, v30, v29, v28, v27, _⟩ := hV
      simp only [updL]
      have e27 : f 0 = _ := v27
      rw [e27]
      have e28 : f 1 = _ := v28
      rw [e28]
      have e29 : f 2 = _ := v29
      rw [e29]
      have e30 : f 3 = _ := v30
      rw [e30]
      have e31 : f 4 = _ := v31
      rw [e31]
      have e32 : f 5 = _ := v32
      rw [e32]
      have e33 : f 6 = _ := v33
      rw [e33]
      have e34 : f 7 = _ := v34
      rw [e34]
      replace hh := hJ.hp
      clear e27 e28 e29 e30 e31 e32 e33 e34 hJ
      refine s_oru rfl rfl (by first | assumption | omega) (by first | assumption | omega) (by decide) ?_
      refine s_indexRow (k := i + m / 64) UIs.out TIs.size rfl rfl (by omega) (by omega) (by decide) ?_
      -- at none := Op.store 124 (Operand.tmp 36) (Operand.tmp 35)
      refine wl_store_row hh (i := 0) (vs := [_]) rfl rfl (ev_int rfl) rfl TIs.out rfl (by rw [length_u64s, length_digK]; omega) rfl ?_
      intro ws hh
      simp only [List.set_cons_zero] at hh
      rw [hs1, s2, or_add s1, ← s2, Nat.mul_one, splice_one (by rw [length_u64s, length_digK]; omega), u64s_set, s3] at hh
      by_cases h0 : m % 64 = 0
      · refine wl_end ?_
        refine wc_seq ?_
        refine wc_region ?_
        refine s_move (ev_int rfl) (by decide) ?_
        refine s_remi rfl rfl (by omega) (by omega) (by decide) ?_
        first | refine s_gtr_t rfl rfl (by omega) (by decide) ?_ | refine s_gtr_f rfl rfl (by omega) (by decide) ?_ | refine s_gtr_v rfl rfl (by decide) ?_
        refine wl_end ?_
        refine wc_cond_f rfl ?_
        refine wc_skip ?_
        refine b_norm ?_
        refine k_then ?_
        refine wc_region ?_
        refine s_addi rfl rfl (by omega) (by omega) (by decide) ?_
        refine s_move (ev_int rfl) (by decide) ?_
        refine wl_nil ?_
        refine k_then ?_
        -- at ('round',)
        rw [s6 h0, ← dig_take_snoc hdi] at hh
        refine ⟨⟨i + 1, by omega, rfl, hh⟩, by show n - (i + 1) < n - i; omega, ?_⟩
        (repeat (first | exact agree_mask _ _ _ | refine agree_upd rfl ?_ | refine agree_mask2 rfl ?_))
      · have hg2 := u64s_at (digK_get (B := 18446744073709551616) (n + m / 64 + 1) (dig 18446744073709551616 (xs.take i) * 2 ^ m + 18446744073709551616 ^ (i + m / 64) * (d * 2 ^ (m % 64) % 18446744073709551616)) (i + m / 64 + 1) (by omega))
        rw [s4] at hg2
        have hs2 : (64 - (m : Int) % 64).toNat = 64 - m % 64 := by omega
        have hd64 : d / 2 ^ (64 - (m : Int) % 64).toNat < 18446744073709551616 := Nat.lt_of_le_of_lt (Nat.div_le_self _ _) hdw
        have h0w : (0 : Nat) < 18446744073709551616 := by omega
        refine wl_end ?_
        refine wc_seq ?_
        refine wc_region ?_
        refine s_move (ev_int rfl) (by decide) ?_
        refine s_remi rfl rfl (by omega) (by omega) (by decide) ?_
        first | refine s_gtr_t rfl rfl (by omega) (by decide) ?_ | refine s_gtr_f rfl rfl (by omega) (by decide) ?_ | refine s_gtr_v rfl rfl (by decide) ?_
        refine wl_end ?_
        refine wc_cond_t rfl ?_
        -- at the drawn region 8
        refine wc_drawn 10 [[(5, none)], [(8, none)], [(41, some 1)], [(40, some 0), (42, some 2)], [(43, some 3)], [(7, none)], [(1, none)], [(46, some 6)], [(47, some 7)], [(45, some 5), (48, some 8)]] [(9, 49), (8, 48), (7, 47), (6, 46), (5, 45), (4, 44), (3, 43), (2, 42), (1, 41), (0, 40)] hh mixed (by kernel_rfl) ?_
        refine dx_val (i := 0) (fun ρ1 w1 hj hR => x_move (show ρ1 5 = Value.slice _ _ _ from hR.1)) ?_
        refine dx_val (i := 1) (fun ρ1 w1 hj hR => x_move (show ρ1 8 = Value.int _ _ from hR.1)) ?_
        refine dx_val (i := 2) (fun ρ1 w1 hj hR => x_addi (show ρ1 41 = Value.int _ _ from hR.1) rfl (by omega) (by omega)) ?_
        refine dx_val (i := 3) (fun ρ1 w1 hj hR => x_indexRow (k := i + m / 64 + 1) UIs.out TIs.size (show ρ1 40 = Value.slice _ _ _ from hR.1) (show ρ1 42 = Value.int _ _ from hR.2.1) (by omega) (by omega)) ?_
        refine dx_val (i := 4) (fun ρ1 w1 hj hR => x_load1 TIs.out (show ρ1 43 = Value.pointer _ from hR.1) (hj.hp.cell_row (i := 0) rfl (by rw [Nat.mul_one]; exact hg2))) ?_
        refine dx_val (i := 5) (fun ρ1 w1 hj hR => x_move (show ρ1 7 = Value.int _ _ from hR.1)) ?_
        refine dx_val (i := 6) (fun ρ1 w1 hj hR => x_move (show ρ1 1 = Value.int _ _ from hR.1)) ?_
        refine dx_val (i := 7) (fun ρ1 w1 hj hR => x_remi (show ρ1 46 = Value.int _ _ from hR.1) rfl (by omega) (by omega)) ?_
        refine dx_val (i := 8) (fun ρ1 w1 hj hR => x_subi rfl (show ρ1 47 = Value.int _ _ from hR.1) (by omega) (by omega)) ?_
        refine dx_val (i := 9) (fun ρ1 w1 hj hR => x_shru (show ρ1 45 = Value.int _ _ from hR.1) (show ρ1 48 = Value.int _ _ from hR.2.1) (by omega)) ?_
        refine dx_nil ?_
        intro f W hJ hV
        have hb_8 := hJ.bl
        obtain ⟨v49, v48, v47, v46, v45, v44, v43, v42, v41, v40, _⟩ := hV
        simp only [updL]
        have e40 : f 0 = _ := v40
        rw [e40]
        have e41 : f 1 = _ := v41
        rw [e41]
        have e42 : f 2 = _ := v42
        rw [e42]
        have e43 : f 3 = _ := v43
        rw [e43]
        have e44 : f 4 = _ := v44
        rw [e44]
        have e45 : f 5 = _ := v45
        rw [e45]
        have e46 : f 6 = _ := v46
        rw [e46]
        have e47 : f 7 = _ := v47
        rw [e47]
        have e48 : f 8 = _ := v48
        rw [e48]
        have e49 : f 9 = _ := v49
        rw [e49]
        replace hh := hJ.hp
        clear e40 e41 e42 e43 e44 e45 e46 e47 e48 e49 hJ
        refine s_oru rfl rfl (by first | assumption | omega) (by first | assumption | omega) (by decide) ?_
        refine s_indexRow (k := i + m / 64 + 1) UIs.out TIs.size rfl rfl (by omega) (by omega) (by decide) ?_
        -- at none := Op.store 124 (Operand.tmp 51) (Operand.tmp 50)
        refine wl_store_row hh (i := 0) (vs := [_]) rfl rfl (ev_int rfl) rfl TIs.out rfl (by rw [length_u64s, length_digK]; omega) rfl ?_
        intro ws hh
        simp only [List.set_cons_zero] at hh
        rw [hs2, Nat.zero_or, Nat.mul_one, splice_one (by rw [length_u64s, length_digK]; omega), u64s_set, s5, ← dig_take_snoc hdi] at hh
        refine wl_nil ?_
        refine b_norm ?_
        refine k_then ?_
        refine wc_region ?_
        refine s_addi rfl rfl (by omega) (by omega) (by decide) ?_
        refine s_move (ev_int rfl) (by decide) ?_
        refine wl_nil ?_
        refine k_then ?_
        -- at ('round',)
        refine ⟨⟨i + 1, by omega, rfl, hh⟩, by show n - (i + 1) < n - i; omega, ?_⟩
        (repeat (first | exact agree_mask _ _ _ | refine agree_upd rfl ?_ | refine agree_mask2 rfl ?_))
    · refine wc_seq ?_
      refine wc_region ?_
      first | refine s_lss_t rfl rfl (by omega) (by decide) ?_ | refine s_lss_f rfl rfl (by omega) (by decide) ?_ | refine s_lss_v rfl rfl (by decide) ?_
      refine wl_end ?_
      refine wc_seq ?_
      refine wc_cond_f rfl ?_
      refine wc_exit ?_
      refine k_exit ?_
      refine k_exit ?_
      refine b_here ?_
      refine k_then ?_
      refine wc_seq ?_
      refine wc_region ?_
      refine s_move (ev_sl rfl) (by decide) ?_
      -- at some 54 := Op.call { callee := Callee.value (Operand.func 159), args := #[Operand.tmp 53], argTypes :
      rw [List.take_of_length_le (by omega)] at hh
      refine s_callf (cut_calls _ _ _ (digK 18446744073709551616 (n + m / 64 + 1) (dig 18446744073709551616 xs * 2 ^ m)) _ (hh.sl_row (i := 0) rfl) (Nat.le_refl _) (by omega)) FnIs.out rfl (by decide) ?_
      rintro e_ w54 ⟨rfl, hb_⟩
      refine ⟨_, rfl, ?_⟩
      replace hh := hh.ext hb_
      refine s_assign (ev_sl rfl) (by decide) ?_
      refine wl_end ?_
      refine wc_ret ?_
      -- at ('end', 'ret')
      refine ret1 (by first | exact .inr rfl | exact .inl rfl) rfl (v_sl rfl) ?_
      have hbd : dig 18446744073709551616 xs * 2 ^ m < 18446744073709551616 ^ (n + m / 64 + 1) := by
        have h1 := dig_lt hd
        rw [show xs.length = n by omega] at h1
        have h2 : 2 ^ m ≤ 18446744073709551616 ^ (m / 64 + 1) := by
          rw [show (18446744073709551616 : Nat) = 2 ^ 64 from rfl, ← Nat.pow_mul]
          exact Nat.pow_le_pow_right (by omega) (by omega)
        rw [show n + m / 64 + 1 = n + (m / 64 + 1) by omega, Nat.pow_add]
        exact Nat.lt_of_lt_of_le (Nat.mul_lt_mul_of_pos_right h1 (Nat.pow_pos (by omega))) (Nat.mul_le_mul_left _ h2)
      have hd : cutL (digK 18446744073709551616 (n + m / 64 + 1) (dig 18446744073709551616 xs * 2 ^ m)) = digs 18446744073709551616 (dig 18446744073709551616 xs * 2 ^ m) := by
        rw [cutL_digs (by omega) (dg_digK (by omega) _ _), dig_digK_lt hbd]
      have h1 := (Hp.cut64 (xs := digK 18446744073709551616 (n + m / 64 + 1) (dig 18446744073709551616 xs * 2 ^ m)) hh (length_digK _ _)).at_ (i := 0) rfl
      rw [hd] at h1
      rw [hd]
      exact ⟨_, _, rfl, h1, hh.below⟩
end Go.Proofs.YthmmofllajkejaaGreatDoor
