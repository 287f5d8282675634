/- The walks through the program's natural numbers (nat): what turns limbs in place. -/
import Derived.Test.YthmmofllajkejaaGreatDoorNat
namespace Go.Proofs.YthmmofllajkejaaGreatDoor
open Go.RowKit
-- umode
theorem mulW {y m : Nat} (hy : y < 18446744073709551616) (hm : m < 18446744073709551616) : y * m ≤ 340282366920938463426481119284349108225 := Nat.mul_le_mul (by omega : y ≤ 18446744073709551615) (by omega : m ≤ 18446744073709551615)
theorem plus_math {x y m c P : Nat} (hx : x < 18446744073709551616) (hc : c < 18446744073709551616) (hP : P ≤ 340282366920938463426481119284349108225) (he : P = y * m) :
    (x + (P % 18446744073709551616 + c + 0) % 18446744073709551616 + 0) % 18446744073709551616 = (x + y * m + c) % 18446744073709551616 ∧ ((P / 18446744073709551616 + (P % 18446744073709551616 + c + 0) / 18446744073709551616) % 18446744073709551616 + (x + (P % 18446744073709551616 + c + 0) % 18446744073709551616 + 0) / 18446744073709551616) % 18446744073709551616 = (x + y * m + c) / 18446744073709551616 ∧ (x + y * m + c) / 18446744073709551616 < 18446744073709551616 := by
  rw [← he]
  omega
theorem nplus_calls {w0 : World} {H : List HE} {b M C c' ny cy m : Nat} {Y : Option Addr} (pre xs post ys : List Nat) (w : World) (hh : Hp w0 (.row (some ⟨b, 0, none⟩) M C 124 1 (u64s (pre ++ xs ++ post)) :: H) w)
    (hy : ∀ w1 cs, Hp w0 (.row (some ⟨b, 0, none⟩) M C 124 1 cs :: H) w1 → Sl w1 Y ny 1 (u64s ys)) (hxd : Dg 18446744073709551616 xs) (hyd : Dg 18446744073709551616 ys) (hm : m < 18446744073709551616) (hM : xs.length ≤ 100000000000) (hny : ny ≤ 100000000000) :
    Calls Tryz.prog 171 #[.slice (some ⟨b, pre.length, none⟩) xs.length c', .slice Y ny cy, .int .u64 (m : Int)] w fun e w' => e = .returned (.tuple #[]) ∧ Hp w0 (.row (some ⟨b, 0, none⟩) M C 124 1 (u64s (pre ++ plusL 18446744073709551616 xs ys m 0 ++ post)) :: H) w' := by
  have hly := (hy _ _ hh).1
  rw [length_u64s] at hly
  refine calls_vc (N := 56) (l := [.slice (some ⟨b, pre.length, none⟩) xs.length c', .slice Y ny cy, .int .u64 (m : Int)]) Tryz.func171 rfl rfl (by simp) ?_
  refine wc_seq ?_
  refine wc_region ?_
  refine s_assign (ev_int rfl) (by decide) ?_
  refine wl_end ?_
  refine wc_seq ?_
  refine wc_region ?_
  refine s_move (ev_sl rfl) (by decide) ?_
  refine s_len_sl UIs.out rfl (by decide) ?_
  refine s_move (ev_int rfl) (by decide) ?_
  refine wl_end ?_
  refine wc_block ?_
  -- at a loop
  refine wc_loop2 [6, 7, 8, 9, 10, 11, 14, 15, 16, 17, 18, 19, 20, 21, 22, 23, 24, 25, 26, 27, 28, 29, 30, 31, 32, 33, 34, 35, 36, 37, 38, 39, 40, 41, 42, 43, 44, 45, 46, 47, 48, 49, 50, 51, 52, 53, 54, 55] 6 14
    (fun c i w' => ∃ (done rest : List Nat) (cr : Nat), done.length + rest.length = xs.length ∧ i = .int .i64 done.length ∧ c = .int .u64 (cr : Int) ∧ cr < 18446744073709551616 ∧ Dg 18446744073709551616 rest ∧ done ++ plusL 18446744073709551616 rest (ys.drop done.length) m cr = plusL 18446744073709551616 xs ys m 0 ∧ Hp w0 (.row (some ⟨b, 0, none⟩) M C 124 1 (u64s (pre ++ (done ++ rest) ++ post)) :: H) w')
    (fun _ i _ => xs.length - (intOf i).toNat) ?_ ?_
  · exact ⟨[], xs, 0, by simp, rfl, rfl, by omega, hxd, rfl, hh⟩
  · clear hh
    rintro ρ' c i w' ⟨done, rest, cr, hlen, rfl, rfl, hcr, hrd, heq, hh⟩
    -- 
    -- 
    by_cases hlt : done.length < xs.length
    · obtain ⟨x, r, rfl⟩ : ∃ x r, rest = x :: r := by
        cases rest with
        | nil => simp at hlen; omega
        | cons x r => exact ⟨x, r, rfl⟩
      have hx := hrd.head
      have hg := u64s_at (get_mid (pre := pre) (done := done) (r := r) (post := post) (x := x))
      have hlr : done.length + (r.length + 1) = xs.length := by simpa using hlen
      simp only [plusL, tail_drop, hd0_drop] at heq
      by_cases hiy : done.length < ny
      · obtain ⟨y, hyk⟩ := get_of_lt (l := ys) (k := done.length) (by omega)
        obtain ⟨ad, rfl, _⟩ := (hy _ _ hh).at_ (by omega)
        rw [hyk, Option.getD_some] at heq
        have hyw := hyd.at_ hyk
        -- 
        refine wc_seq ?_
        refine wc_region ?_
        first | refine s_lss_t rfl rfl (by omega) (by decide) ?_ | refine s_lss_f rfl rfl (by omega) (by decide) ?_ | refine s_lss_v rfl rfl (by decide) ?_
        refine wl_end ?_
        refine wc_seq ?_
        refine wc_cond_t rfl ?_
        refine wc_skip ?_
        refine k_then ?_
        refine wc_seq ?_
        refine wc_block ?_
        refine wc_seq ?_
        refine wc_region ?_
        refine s_move (ev_int rfl) (by decide) ?_
        refine s_assign (ev_int rfl) (by decide) ?_
        refine wl_end ?_
        refine wc_seq ?_
        refine wc_region ?_
        refine s_assign (ev_int rfl) (by decide) ?_
        refine wl_end ?_
        refine wc_seq ?_
        refine wc_seq ?_
        refine wc_region ?_
        refine s_move (ev_int rfl) (by decide) ?_
        refine s_move (ev_sl rfl) (by decide) ?_
        refine s_len_sl UIs.out rfl (by decide) ?_
        first | refine s_lss_t rfl rfl (by omega) (by decide) ?_ | refine s_lss_f rfl rfl (by omega) (by decide) ?_ | refine s_lss_v rfl rfl (by decide) ?_
        refine wl_end ?_
        refine wc_cond_t rfl ?_
        refine wc_region ?_
        refine s_move (ev_sl rfl) (by decide) ?_
        refine s_move (ev_int rfl) (by decide) ?_
        refine s_indexSl (k := done.length) UIs.out TIs.size rfl rfl (by omega) (by omega) (by decide) ?_
        -- at some 24
        refine s_load1 TIs.out rfl ((hy _ _ hh).at64 hyk) (by decide) ?_
        refine s_assign (ev_int rfl) (by decide) ?_
        refine wl_end ?_
        refine wc_seq ?_
        refine wc_region ?_
        refine s_move (ev_int rfl) (by decide) ?_
        refine s_move (ev_int rfl) (by decide) ?_
        -- at some 28 := Op.call { callee := Callee.value (Operand.func 185), args := #[Operand.tmp 26, Operand.tmp
        obtain ⟨p1, p2, p3⟩ := plus_math (y := y) (m := m) hx hcr (mulW hyw hm) rfl
        refine s_callf (mul64_calls y m _ hyw hm) FnIs.out rfl (by decide) ?_
        rintro e_ w28 ⟨rfl, hb_⟩
        refine ⟨_, rfl, ?_⟩
        replace hh := hh.ext hb_
        refine s_move (ev_tup rfl) (by decide) ?_
        refine s_extract rfl rfl (by decide) ?_
        refine s_extract rfl rfl (by decide) ?_
        refine s_assign (ev_int rfl) (by decide) ?_
        refine s_assign (ev_int rfl) (by decide) ?_
        refine wl_end ?_
        refine wc_seq ?_
        refine wc_region ?_
        refine s_move (ev_int rfl) (by decide) ?_
        refine s_move (ev_int rfl) (by decide) ?_
        -- at some 34 := Op.call { callee := Callee.value (Operand.func 179), args := #[Operand.tmp 32, Operand.tmp
        refine s_callx (add64_run (y * m % 18446744073709551616) cr 0 (by omega) _) (evs_cons (ev_int rfl) (evs_cons (ev_int rfl) (evs_cons rfl evs_nil))) (by decide) ?_
        refine s_move (ev_tup rfl) (by decide) ?_
        refine s_extract rfl rfl (by decide) ?_
        refine s_extract rfl rfl (by decide) ?_
        refine s_assign (ev_int rfl) (by decide) ?_
        refine s_assign (ev_int rfl) (by decide) ?_
        refine wl_end ?_
        refine wc_seq ?_
        refine wc_region ?_
        refine s_move (ev_int rfl) (by decide) ?_
        refine s_move (ev_int rfl) (by decide) ?_
        refine s_addu rfl rfl (by decide) ?_
        refine s_assign (ev_int rfl) (by decide) ?_
        refine wl_end ?_
        refine wc_seq ?_
        refine wc_region ?_
        refine s_move (ev_sl rfl) (by decide) ?_
        refine s_move (ev_int rfl) (by decide) ?_
        refine s_move (ev_sl rfl) (by decide) ?_
        refine s_move (ev_int rfl) (by decide) ?_
        refine s_indexOff UIs.out TIs.size rfl rfl rfl (by omega) (by decide) ?_
        refine s_load1 TIs.out rfl (hh.cell_row (i := 0) rfl (by first | assumption | (simp only [Nat.mul_one]; assumption))) (by decide) ?_
        refine s_move (ev_int rfl) (by decide) ?_
        -- at some 48 := Op.call { callee := Callee.value (Operand.func 179), args := #[Operand.tmp 46, Operand.tmp
        refine s_callx (add64_run x ((y * m % 18446744073709551616 + cr + 0) % 18446744073709551616) 0 (by omega) _) (evs_cons (ev_int rfl) (evs_cons (ev_int rfl) (evs_cons rfl evs_nil))) (by decide) ?_
        refine s_move (ev_tup rfl) (by decide) ?_
        refine s_extract rfl rfl (by decide) ?_
        refine s_extract rfl rfl (by decide) ?_
        refine s_indexOff (k := done.length) UIs.out TIs.size rfl rfl (by omega) (by omega) (by decide) ?_
        -- at none := Op.store 124 (Operand.tmp 51) (Operand.tmp 49)
        refine wl_store_row hh (i := 0) (vs := [_]) rfl rfl (ev_int rfl) rfl TIs.out rfl (by rw [length_u64s]; simp only [List.length_append, List.length_cons]; omega) rfl ?_
        intro ws hh
        simp only [List.set_cons_zero] at hh
        rw [p1, Nat.mul_one, splice_one (by rw [length_u64s]; simp only [List.length_append, List.length_cons]; omega), u64s_set, set_mid] at hh
        refine s_assign (ev_int rfl) (by decide) ?_
        refine wl_end ?_
        refine wc_region ?_
        refine s_move (ev_int rfl) (by decide) ?_
        refine s_move (ev_int rfl) (by decide) ?_
        refine s_addu rfl rfl (by decide) ?_
        refine s_assign (ev_int rfl) (by decide) ?_
        refine wl_nil ?_
        refine b_norm ?_
        refine k_then ?_
        refine wc_region ?_
        refine s_addi rfl rfl (by omega) (by omega) (by decide) ?_
        refine s_move (ev_int rfl) (by decide) ?_
        refine wl_nil ?_
        refine k_then ?_
        -- at ('round',)
        rw [p2]
        refine ⟨⟨done ++ [(x + y * m + cr) % 18446744073709551616], r, _, by simp; omega, by rw [List.length_append]; rfl, rfl, p3, hrd.tail, ?_, hh⟩, by show xs.length - (done.length + 1) < xs.length - done.length; omega, ?_⟩
        · rw [← heq, List.append_assoc, List.length_append]; rfl
        (repeat (first | exact agree_mask _ _ _ | refine agree_upd rfl ?_ | refine agree_mask2 rfl ?_))
      · rw [List.getElem?_eq_none (by omega), Option.getD_none] at heq
        have h0w : (0 : Nat) < 18446744073709551616 := by omega
        refine wc_seq ?_
        refine wc_region ?_
        first | refine s_lss_t rfl rfl (by omega) (by decide) ?_ | refine s_lss_f rfl rfl (by omega) (by decide) ?_ | refine s_lss_v rfl rfl (by decide) ?_
        refine wl_end ?_
        refine wc_seq ?_
        refine wc_cond_t rfl ?_
        refine wc_skip ?_
        refine k_then ?_
        refine wc_seq ?_
        refine wc_block ?_
        refine wc_seq ?_
        refine wc_region ?_
        refine s_move (ev_int rfl) (by decide) ?_
        refine s_assign (ev_int rfl) (by decide) ?_
        refine wl_end ?_
        refine wc_seq ?_
        refine wc_region ?_
        refine s_assign (ev_int rfl) (by decide) ?_
        refine wl_end ?_
        refine wc_seq ?_
        refine wc_seq ?_
        refine wc_region ?_
        refine s_move (ev_int rfl) (by decide) ?_
        refine s_move (ev_sl rfl) (by decide) ?_
        refine s_len_sl UIs.out rfl (by decide) ?_
        first | refine s_lss_t rfl rfl (by omega) (by decide) ?_ | refine s_lss_f rfl rfl (by omega) (by decide) ?_ | refine s_lss_v rfl rfl (by decide) ?_
        refine wl_end ?_
        refine wc_cond_f rfl ?_
        refine wc_skip ?_
        refine k_then ?_
        refine wc_seq ?_
        refine wc_region ?_
        refine s_move (ev_int rfl) (by decide) ?_
        refine s_move (ev_int rfl) (by decide) ?_
        -- at some 28 := Op.call { callee := Callee.value (Operand.func 185), args := #[Operand.tmp 26, Operand.tmp
        obtain ⟨p1, p2, p3⟩ := plus_math (y := 0) (m := m) hx hcr (mulW h0w hm) rfl
        refine s_callf (mul64_calls 0 m _ h0w hm) FnIs.out rfl (by decide) ?_
        rintro e_ w28 ⟨rfl, hb_⟩
        refine ⟨_, rfl, ?_⟩
        replace hh := hh.ext hb_
        refine s_move (ev_tup rfl) (by decide) ?_
        refine s_extract rfl rfl (by decide) ?_
        refine s_extract rfl rfl (by decide) ?_
        refine s_assign (ev_int rfl) (by decide) ?_
        refine s_assign (ev_int rfl) (by decide) ?_
        refine wl_end ?_
        refine wc_seq ?_
        refine wc_region ?_
        refine s_move (ev_int rfl) (by decide) ?_
        refine s_move (ev_int rfl) (by decide) ?_
        -- at some 34 := Op.call { callee := Callee.value (Operand.func 179), args := #[Operand.tmp 32, Operand.tmp
        refine s_callx (add64_run (0 * m % 18446744073709551616) cr 0 (by omega) _) (evs_cons (ev_int rfl) (evs_cons (ev_int rfl) (evs_cons rfl evs_nil))) (by decide) ?_
        refine s_move (ev_tup rfl) (by decide) ?_
        refine s_extract rfl rfl (by decide) ?_
        refine s_extract rfl rfl (by decide) ?_
        refine s_assign (ev_int rfl) (by decide) ?_
        refine s_assign (ev_int rfl) (by decide) ?_
        refine wl_end ?_
        refine wc_seq ?_
        refine wc_region ?_
        refine s_move (ev_int rfl) (by decide) ?_
        refine s_move (ev_int rfl) (by decide) ?_
        refine s_addu rfl rfl (by decide) ?_
        refine s_assign (ev_int rfl) (by decide) ?_
        refine wl_end ?_
        refine wc_seq ?_
        refine wc_region ?_
        refine s_move (ev_sl rfl) (by decide) ?_
        refine s_move (ev_int rfl) (by decide) ?_
        refine s_move (ev_sl rfl) (by decide) ?_
        refine s_move (ev_int rfl) (by decide) ?_
        refine s_indexOff UIs.out TIs.size rfl rfl rfl (by omega) (by decide) ?_
        refine s_load1 TIs.out rfl (hh.cell_row (i := 0) rfl (by first | assumption | (simp only [Nat.mul_one]; assumption))) (by decide) ?_
        refine s_move (ev_int rfl) (by decide) ?_
        -- at some 48 := Op.call { callee := Callee.value (Operand.func 179), args := #[Operand.tmp 46, Operand.tmp
        refine s_callx (add64_run x ((0 * m % 18446744073709551616 + cr + 0) % 18446744073709551616) 0 (by omega) _) (evs_cons (ev_int rfl) (evs_cons (ev_int rfl) (evs_cons rfl evs_nil))) (by decide) ?_
        refine s_move (ev_tup rfl) (by decide) ?_
        refine s_extract rfl rfl (by decide) ?_
        refine s_extract rfl rfl (by decide) ?_
        refine s_indexOff (k := done.length) UIs.out TIs.size rfl rfl (by omega) (by omega) (by decide) ?_
        -- at none := Op.store 124 (Operand.tmp 51) (Operand.tmp 49)
        refine wl_store_row hh (i := 0) (vs := [_]) rfl rfl (ev_int rfl) rfl TIs.out rfl (by rw [length_u64s]; simp only [List.length_append, List.length_cons]; omega) rfl ?_
        intro ws hh
        simp only [List.set_cons_zero] at hh
        rw [p1, Nat.mul_one, splice_one (by rw [length_u64s]; simp only [List.length_append, List.length_cons]; omega), u64s_set, set_mid] at hh
        refine s_assign (ev_int rfl) (by decide) ?_
        refine wl_end ?_
        refine wc_region ?_
        refine s_move (ev_int rfl) (by decide) ?_
        refine s_move (ev_int rfl) (by decide) ?_
        refine s_addu rfl rfl (by decide) ?_
        refine s_assign (ev_int rfl) (by decide) ?_
        refine wl_nil ?_
        refine b_norm ?_
        refine k_then ?_
        refine wc_region ?_
        refine s_addi rfl rfl (by omega) (by omega) (by decide) ?_
        refine s_move (ev_int rfl) (by decide) ?_
        refine wl_nil ?_
        refine k_then ?_
        -- at ('round',)
        rw [p2]
        refine ⟨⟨done ++ [(x + 0 * m + cr) % 18446744073709551616], r, _, by simp; omega, by rw [List.length_append]; rfl, rfl, p3, hrd.tail, ?_, hh⟩, by show xs.length - (done.length + 1) < xs.length - done.length; omega, ?_⟩
        · rw [← heq, List.append_assoc, List.length_append]; rfl
        (repeat (first | exact agree_mask _ _ _ | refine agree_upd rfl ?_ | refine agree_mask2 rfl ?_))
    · have hr0 : rest = [] := List.eq_nil_of_length_eq_zero (by omega)
      subst hr0
      refine wc_seq ?_
      refine wc_region ?_
      first | refine s_lss_t rfl rfl (by omega) (by decide) ?_ | refine s_lss_f rfl rfl (by omega) (by decide) ?_ | refine s_lss_v rfl rfl (by decide) ?_
      refine wl_end ?_
      refine wc_seq ?_
      refine wc_cond_f rfl ?_
      refine wc_exit ?_
      refine k_exit ?_
      refine k_exit ?_
      refine b_here ?_
      -- at ('end', 'normal')
      refine ret0 (by first | exact .inr rfl | exact .inl rfl) rfl  ?_
      rw [List.append_nil, plusL, List.append_nil] at *
      rw [← heq]
      exact ⟨rfl, hh⟩
theorem ntake_calls {w0 : World} {H : List HE} {b M C c' ny cy : Nat} {Y : Option Addr} (pre xs post ys : List Nat) (w : World) (hh : Hp w0 (.row (some ⟨b, 0, none⟩) M C 124 1 (u64s (pre ++ xs ++ post)) :: H) w)
    (hy : ∀ w1 cs, Hp w0 (.row (some ⟨b, 0, none⟩) M C 124 1 cs :: H) w1 → Sl w1 Y ny 1 (u64s ys)) (hxd : Dg 18446744073709551616 xs) (hyd : Dg 18446744073709551616 ys) (hM : xs.length ≤ 100000000000) (hny : ny ≤ 100000000000) (hsub : subB 18446744073709551616 xs ys 0 = 0) :
    Calls Tryz.prog 169 #[.slice (some ⟨b, pre.length, none⟩) xs.length c', .slice Y ny cy] w fun e w' => e = .returned (.bool true) ∧ Hp w0 (.row (some ⟨b, 0, none⟩) M C 124 1 (u64s (pre ++ subL 18446744073709551616 xs ys 0 ++ post)) :: H) w' := by
  have hly := (hy _ _ hh).1
  rw [length_u64s] at hly
  refine calls_vc (N := 37) (l := [.slice (some ⟨b, pre.length, none⟩) xs.length c', .slice Y ny cy]) Tryz.func169 rfl rfl (by simp) ?_
  refine wc_seq ?_
  refine wc_region ?_
  refine s_assign (ev_bool rfl) (by decide) ?_
  refine wl_end ?_
  refine wc_seq ?_
  refine wc_region ?_
  refine s_assign (ev_int rfl) (by decide) ?_
  refine wl_end ?_
  refine wc_seq ?_
  refine wc_seq ?_
  refine wc_region ?_
  refine s_move (ev_sl rfl) (by decide) ?_
  refine s_len_sl UIs.out rfl (by decide) ?_
  refine s_move (ev_int rfl) (by decide) ?_
  refine wl_end ?_
  refine wc_block ?_
  -- at a loop
  refine wc_loop2 [5, 6, 7, 10, 11, 12, 13, 14, 15, 16, 17, 18, 19, 20, 21, 22, 23, 24, 25, 26, 27, 28, 29, 30, 31, 32, 33, 34] 5 10
    (fun c i w' => ∃ (done rest : List Nat) (cr : Nat), done.length + rest.length = xs.length ∧ i = .int .i64 done.length ∧ c = .int .u64 (cr : Int) ∧ cr ≤ 1 ∧ Dg 18446744073709551616 rest ∧ done ++ subL 18446744073709551616 rest (ys.drop done.length) cr = subL 18446744073709551616 xs ys 0 ∧ subB 18446744073709551616 rest (ys.drop done.length) cr = 0 ∧ Hp w0 (.row (some ⟨b, 0, none⟩) M C 124 1 (u64s (pre ++ (done ++ rest) ++ post)) :: H) w')
    (fun _ i _ => xs.length - (intOf i).toNat) ?_ ?_
  · exact ⟨[], xs, 0, by simp, rfl, rfl, by omega, hxd, rfl, hsub, hh⟩
  · clear hh
    rintro ρ' c i w' ⟨done, rest, cr, hlen, rfl, rfl, hcr, hrd, heq, hsb, hh⟩
    -- 
    -- 
    by_cases hlt : done.length < xs.length
    · obtain ⟨x, r, rfl⟩ : ∃ x r, rest = x :: r := by
        cases rest with
        | nil => simp at hlen; omega
        | cons x r => exact ⟨x, r, rfl⟩
      have hx := hrd.head
      have hg := u64s_at (get_mid (pre := pre) (done := done) (r := r) (post := post) (x := x))
      have hlr : done.length + (r.length + 1) = xs.length := by simpa using hlen
      simp only [subL, subB, tail_drop, hd0_drop] at heq hsb
      by_cases hiy : done.length < ny
      · obtain ⟨y, hyk⟩ := get_of_lt (l := ys) (k := done.length) (by omega)
        obtain ⟨ad, rfl, _⟩ := (hy _ _ hh).at_ (by omega)
        rw [hyk, Option.getD_some] at heq hsb
        have hyw := hyd.at_ hyk
        -- 
        refine wc_seq ?_
        refine wc_region ?_
        first | refine s_lss_t rfl rfl (by omega) (by decide) ?_ | refine s_lss_f rfl rfl (by omega) (by decide) ?_ | refine s_lss_v rfl rfl (by decide) ?_
        refine wl_end ?_
        refine wc_seq ?_
        refine wc_cond_t rfl ?_
        refine wc_skip ?_
        refine k_then ?_
        refine wc_seq ?_
        refine wc_block ?_
        refine wc_seq ?_
        refine wc_region ?_
        refine s_move (ev_int rfl) (by decide) ?_
        refine s_assign (ev_int rfl) (by decide) ?_
        refine wl_end ?_
        refine wc_seq ?_
        refine wc_region ?_
        refine s_assign (ev_int rfl) (by decide) ?_
        refine wl_end ?_
        refine wc_seq ?_
        refine wc_seq ?_
        refine wc_region ?_
        refine s_move (ev_int rfl) (by decide) ?_
        refine s_move (ev_sl rfl) (by decide) ?_
        refine s_len_sl UIs.out rfl (by decide) ?_
        first | refine s_lss_t rfl rfl (by omega) (by decide) ?_ | refine s_lss_f rfl rfl (by omega) (by decide) ?_ | refine s_lss_v rfl rfl (by decide) ?_
        refine wl_end ?_
        refine wc_cond_t rfl ?_
        refine wc_region ?_
        refine s_move (ev_sl rfl) (by decide) ?_
        refine s_move (ev_int rfl) (by decide) ?_
        refine s_indexSl (k := done.length) UIs.out TIs.size rfl rfl (by omega) (by omega) (by decide) ?_
        -- at some 20
        refine s_load1 TIs.out rfl ((hy _ _ hh).at64 hyk) (by decide) ?_
        refine s_assign (ev_int rfl) (by decide) ?_
        refine wl_end ?_
        refine wc_region ?_
        refine s_move (ev_sl rfl) (by decide) ?_
        refine s_move (ev_int rfl) (by decide) ?_
        refine s_move (ev_sl rfl) (by decide) ?_
        refine s_move (ev_int rfl) (by decide) ?_
        refine s_indexOff (k := done.length) UIs.out TIs.size rfl rfl (by omega) (by omega) (by decide) ?_
        refine s_load1 TIs.out rfl (hh.cell_row (i := 0) rfl (by first | assumption | (simp only [Nat.mul_one]; assumption))) (by decide) ?_
        refine s_move (ev_int rfl) (by decide) ?_
        refine s_move (ev_int rfl) (by decide) ?_
        -- at some 30 := Op.call { callee := Callee.value (Operand.func 180), args := #[Operand.tmp 27, Operand.tmp
        refine s_callx (sub64_run x y cr hcr _) (evs_cons (ev_int rfl) (evs_cons (ev_int rfl) (evs_cons (ev_int rfl) evs_nil))) (by decide) ?_
        refine s_move (ev_tup rfl) (by decide) ?_
        refine s_extract rfl rfl (by decide) ?_
        refine s_extract rfl rfl (by decide) ?_
        refine s_indexOff (k := done.length) UIs.out TIs.size rfl rfl (by omega) (by omega) (by decide) ?_
        -- at none := Op.store 124 (Operand.tmp 33) (Operand.tmp 31)
        refine wl_store_row hh (i := 0) (vs := [_]) rfl rfl (ev_int rfl) rfl TIs.out rfl (by rw [length_u64s]; simp only [List.length_append, List.length_cons]; omega) rfl ?_
        intro ws hh
        simp only [List.set_cons_zero] at hh
        rw [Nat.mul_one, splice_one (by rw [length_u64s]; simp only [List.length_append, List.length_cons]; omega), u64s_set, set_mid] at hh
        refine s_assign (ev_int rfl) (by decide) ?_
        refine wl_nil ?_
        refine b_norm ?_
        refine k_then ?_
        refine wc_region ?_
        refine s_addi rfl rfl (by omega) (by omega) (by decide) ?_
        refine s_move (ev_int rfl) (by decide) ?_
        refine wl_nil ?_
        refine k_then ?_
        -- at ('round',)
        refine ⟨⟨done ++ [(x + 18446744073709551616 - y - cr) % 18446744073709551616], r, _, by simp; omega, by rw [List.length_append]; rfl, rfl, by split <;> omega, hrd.tail, ?_, ?_, hh⟩, by show xs.length - (done.length + 1) < xs.length - done.length; omega, ?_⟩
        · rw [← heq, List.append_assoc, List.length_append]; rfl
        · rw [List.length_append]; exact hsb
        (repeat (first | exact agree_mask _ _ _ | refine agree_upd rfl ?_ | refine agree_mask2 rfl ?_))
      · rw [List.getElem?_eq_none (by omega), Option.getD_none] at heq hsb
        refine wc_seq ?_
        refine wc_region ?_
        first | refine s_lss_t rfl rfl (by omega) (by decide) ?_ | refine s_lss_f rfl rfl (by omega) (by decide) ?_ | refine s_lss_v rfl rfl (by decide) ?_
        refine wl_end ?_
        refine wc_seq ?_
        refine wc_cond_t rfl ?_
        refine wc_skip ?_
        refine k_then ?_
        refine wc_seq ?_
        refine wc_block ?_
        refine wc_seq ?_
        refine wc_region ?_
        refine s_move (ev_int rfl) (by decide) ?_
        refine s_assign (ev_int rfl) (by decide) ?_
        refine wl_end ?_
        refine wc_seq ?_
        refine wc_region ?_
        refine s_assign (ev_int rfl) (by decide) ?_
        refine wl_end ?_
        refine wc_seq ?_
        refine wc_seq ?_
        refine wc_region ?_
        refine s_move (ev_int rfl) (by decide) ?_
        refine s_move (ev_sl rfl) (by decide) ?_
        refine s_len_sl UIs.out rfl (by decide) ?_
        first | refine s_lss_t rfl rfl (by omega) (by decide) ?_ | refine s_lss_f rfl rfl (by omega) (by decide) ?_ | refine s_lss_v rfl rfl (by decide) ?_
        refine wl_end ?_
        refine wc_cond_f rfl ?_
        refine wc_skip ?_
        refine k_then ?_
        refine wc_region ?_
        refine s_move (ev_sl rfl) (by decide) ?_
        refine s_move (ev_int rfl) (by decide) ?_
        refine s_move (ev_sl rfl) (by decide) ?_
        refine s_move (ev_int rfl) (by decide) ?_
        refine s_indexOff (k := done.length) UIs.out TIs.size rfl rfl (by omega) (by omega) (by decide) ?_
        refine s_load1 TIs.out rfl (hh.cell_row (i := 0) rfl (by first | assumption | (simp only [Nat.mul_one]; assumption))) (by decide) ?_
        refine s_move (ev_int rfl) (by decide) ?_
        refine s_move (ev_int rfl) (by decide) ?_
        -- at some 30 := Op.call { callee := Callee.value (Operand.func 180), args := #[Operand.tmp 27, Operand.tmp
        refine s_callx (sub64_run x 0 cr hcr _) (evs_cons (ev_int rfl) (evs_cons (ev_int rfl) (evs_cons (ev_int rfl) evs_nil))) (by decide) ?_
        refine s_move (ev_tup rfl) (by decide) ?_
        refine s_extract rfl rfl (by decide) ?_
        refine s_extract rfl rfl (by decide) ?_
        refine s_indexOff (k := done.length) UIs.out TIs.size rfl rfl (by omega) (by omega) (by decide) ?_
        -- at none := Op.store 124 (Operand.tmp 33) (Operand.tmp 31)
        refine wl_store_row hh (i := 0) (vs := [_]) rfl rfl (ev_int rfl) rfl TIs.out rfl (by rw [length_u64s]; simp only [List.length_append, List.length_cons]; omega) rfl ?_
        intro ws hh
        simp only [List.set_cons_zero] at hh
        rw [Nat.mul_one, splice_one (by rw [length_u64s]; simp only [List.length_append, List.length_cons]; omega), u64s_set, set_mid] at hh
        refine s_assign (ev_int rfl) (by decide) ?_
        refine wl_nil ?_
        refine b_norm ?_
        refine k_then ?_
        refine wc_region ?_
        refine s_addi rfl rfl (by omega) (by omega) (by decide) ?_
        refine s_move (ev_int rfl) (by decide) ?_
        refine wl_nil ?_
        refine k_then ?_
        -- at ('round',)
        refine ⟨⟨done ++ [(x + 18446744073709551616 - 0 - cr) % 18446744073709551616], r, _, by simp; omega, by rw [List.length_append]; rfl, rfl, by split <;> omega, hrd.tail, ?_, ?_, hh⟩, by show xs.length - (done.length + 1) < xs.length - done.length; omega, ?_⟩
        · rw [← heq, List.append_assoc, List.length_append]; rfl
        · rw [List.length_append]; exact hsb
        (repeat (first | exact agree_mask _ _ _ | refine agree_upd rfl ?_ | refine agree_mask2 rfl ?_))
    · have hr0 : rest = [] := List.eq_nil_of_length_eq_zero (by omega)
      subst hr0
      obtain rfl : cr = 0 := hsb
      refine wc_seq ?_
      refine wc_region ?_
      first | refine s_lss_t rfl rfl (by omega) (by decide) ?_ | refine s_lss_f rfl rfl (by omega) (by decide) ?_ | refine s_lss_v rfl rfl (by decide) ?_
      refine wl_end ?_
      refine wc_seq ?_
      refine wc_cond_f rfl ?_
      refine wc_exit ?_
      refine k_exit ?_
      refine k_exit ?_
      refine b_here ?_
      refine k_then ?_
      refine wc_seq ?_
      refine wc_region ?_
      refine s_move (ev_int rfl) (by decide) ?_
      first | refine s_eql_t rfl rfl (by omega) (by decide) ?_ | refine s_eql_f rfl rfl (by omega) (by decide) ?_ | refine s_eql_v rfl rfl (by decide) ?_
      refine s_assign (ev_bool rfl) (by decide) ?_
      refine wl_end ?_
      refine wc_ret ?_
      -- at ('end', 'ret')
      refine ret1 (by first | exact .inr rfl | exact .inl rfl) rfl (v_bool rfl) ?_
      rw [List.append_nil, subL, List.append_nil] at *
      rw [← heq]
      exact ⟨rfl, hh⟩
theorem nadd_calls {w0 : World} {H : List HE} {b M C c' ny cy : Nat} {Y : Option Addr} (pre xs post ys : List Nat) (w : World) (hh : Hp w0 (.row (some ⟨b, 0, none⟩) M C 124 1 (u64s (pre ++ xs ++ post)) :: H) w)
    (hy : ∀ w1 cs, Hp w0 (.row (some ⟨b, 0, none⟩) M C 124 1 cs :: H) w1 → Sl w1 Y ny 1 (u64s ys)) (hxd : Dg 18446744073709551616 xs) (hyd : Dg 18446744073709551616 ys) (hM : xs.length ≤ 100000000000) (hny : ny ≤ 100000000000) :
    Calls Tryz.prog 166 #[.slice (some ⟨b, pre.length, none⟩) xs.length c', .slice Y ny cy] w fun e w' => e = .returned (.tuple #[]) ∧ Hp w0 (.row (some ⟨b, 0, none⟩) M C 124 1 (u64s (pre ++ plusL 18446744073709551616 xs ys 1 0 ++ post)) :: H) w' := by
  have hly := (hy _ _ hh).1
  rw [length_u64s] at hly
  refine calls_vc (N := 34) (l := [.slice (some ⟨b, pre.length, none⟩) xs.length c', .slice Y ny cy]) Tryz.func166 rfl rfl (by simp) ?_
  refine wc_seq ?_
  refine wc_region ?_
  refine s_assign (ev_int rfl) (by decide) ?_
  refine wl_end ?_
  refine wc_seq ?_
  refine wc_region ?_
  refine s_move (ev_sl rfl) (by decide) ?_
  refine s_len_sl UIs.out rfl (by decide) ?_
  refine s_move (ev_int rfl) (by decide) ?_
  refine wl_end ?_
  refine wc_block ?_
  -- at a loop
  refine wc_loop2 [4, 5, 6, 9, 10, 11, 12, 13, 14, 15, 16, 17, 18, 19, 20, 21, 22, 23, 24, 25, 26, 27, 28, 29, 30, 31, 32, 33] 4 9
    (fun c i w' => ∃ (done rest : List Nat) (cr : Nat), done.length + rest.length = xs.length ∧ i = .int .i64 done.length ∧ c = .int .u64 (cr : Int) ∧ cr ≤ 1 ∧ Dg 18446744073709551616 rest ∧ done ++ plusL 18446744073709551616 rest (ys.drop done.length) 1 cr = plusL 18446744073709551616 xs ys 1 0 ∧ Hp w0 (.row (some ⟨b, 0, none⟩) M C 124 1 (u64s (pre ++ (done ++ rest) ++ post)) :: H) w')
    (fun _ i _ => xs.length - (intOf i).toNat) ?_ ?_
  · exact ⟨[], xs, 0, by simp, rfl, rfl, by omega, hxd, rfl, hh⟩
  · clear hh
    rintro ρ' c i w' ⟨done, rest, cr, hlen, rfl, rfl, hcr, hrd, heq, hh⟩
    -- 
    -- 
    by_cases hlt : done.length < xs.length
    · obtain ⟨x, r, rfl⟩ : ∃ x r, rest = x :: r := by
        cases rest with
        | nil => simp at hlen; omega
        | cons x r => exact ⟨x, r, rfl⟩
      have hx := hrd.head
      have hg := u64s_at (get_mid (pre := pre) (done := done) (r := r) (post := post) (x := x))
      have hlr : done.length + (r.length + 1) = xs.length := by simpa using hlen
      simp only [plusL, tail_drop, hd0_drop, Nat.mul_one] at heq
      by_cases hiy : done.length < ny
      · obtain ⟨y, hyk⟩ := get_of_lt (l := ys) (k := done.length) (by omega)
        obtain ⟨ad, rfl, _⟩ := (hy _ _ hh).at_ (by omega)
        rw [hyk, Option.getD_some] at heq
        have hyw := hyd.at_ hyk
        -- 
        refine wc_seq ?_
        refine wc_region ?_
        first | refine s_lss_t rfl rfl (by omega) (by decide) ?_ | refine s_lss_f rfl rfl (by omega) (by decide) ?_ | refine s_lss_v rfl rfl (by decide) ?_
        refine wl_end ?_
        refine wc_seq ?_
        refine wc_cond_t rfl ?_
        refine wc_skip ?_
        refine k_then ?_
        refine wc_seq ?_
        refine wc_block ?_
        refine wc_seq ?_
        refine wc_region ?_
        refine s_move (ev_int rfl) (by decide) ?_
        refine s_assign (ev_int rfl) (by decide) ?_
        refine wl_end ?_
        refine wc_seq ?_
        refine wc_region ?_
        refine s_assign (ev_int rfl) (by decide) ?_
        refine wl_end ?_
        refine wc_seq ?_
        refine wc_seq ?_
        refine wc_region ?_
        refine s_move (ev_int rfl) (by decide) ?_
        refine s_move (ev_sl rfl) (by decide) ?_
        refine s_len_sl UIs.out rfl (by decide) ?_
        first | refine s_lss_t rfl rfl (by omega) (by decide) ?_ | refine s_lss_f rfl rfl (by omega) (by decide) ?_ | refine s_lss_v rfl rfl (by decide) ?_
        refine wl_end ?_
        refine wc_cond_t rfl ?_
        refine wc_region ?_
        refine s_move (ev_sl rfl) (by decide) ?_
        refine s_move (ev_int rfl) (by decide) ?_
        refine s_indexSl (k := done.length) UIs.out TIs.size rfl rfl (by omega) (by omega) (by decide) ?_
        -- at some 19
        refine s_load1 TIs.out rfl ((hy _ _ hh).at64 hyk) (by decide) ?_
        refine s_assign (ev_int rfl) (by decide) ?_
        refine wl_end ?_
        refine wc_region ?_
        refine s_move (ev_sl rfl) (by decide) ?_
        refine s_move (ev_int rfl) (by decide) ?_
        refine s_move (ev_sl rfl) (by decide) ?_
        refine s_move (ev_int rfl) (by decide) ?_
        refine s_indexOff (k := done.length) UIs.out TIs.size rfl rfl (by omega) (by omega) (by decide) ?_
        refine s_load1 TIs.out rfl (hh.cell_row (i := 0) rfl (by first | assumption | (simp only [Nat.mul_one]; assumption))) (by decide) ?_
        refine s_move (ev_int rfl) (by decide) ?_
        refine s_move (ev_int rfl) (by decide) ?_
        -- at some 29 := Op.call { callee := Callee.value (Operand.func 179), args := #[Operand.tmp 26, Operand.tmp
        refine s_callx (add64_run x y cr hcr _) (evs_cons (ev_int rfl) (evs_cons (ev_int rfl) (evs_cons (ev_int rfl) evs_nil))) (by decide) ?_
        refine s_move (ev_tup rfl) (by decide) ?_
        refine s_extract rfl rfl (by decide) ?_
        refine s_extract rfl rfl (by decide) ?_
        refine s_indexOff (k := done.length) UIs.out TIs.size rfl rfl (by omega) (by omega) (by decide) ?_
        -- at none := Op.store 124 (Operand.tmp 32) (Operand.tmp 30)
        refine wl_store_row hh (i := 0) (vs := [_]) rfl rfl (ev_int rfl) rfl TIs.out rfl (by rw [length_u64s]; simp only [List.length_append, List.length_cons]; omega) rfl ?_
        intro ws hh
        simp only [List.set_cons_zero] at hh
        rw [Nat.mul_one, splice_one (by rw [length_u64s]; simp only [List.length_append, List.length_cons]; omega), u64s_set, set_mid] at hh
        refine s_assign (ev_int rfl) (by decide) ?_
        refine wl_nil ?_
        refine b_norm ?_
        refine k_then ?_
        refine wc_region ?_
        refine s_addi rfl rfl (by omega) (by omega) (by decide) ?_
        refine s_move (ev_int rfl) (by decide) ?_
        refine wl_nil ?_
        refine k_then ?_
        -- at ('round',)
        refine ⟨⟨done ++ [(x + y + cr) % 18446744073709551616], r, _, by simp; omega, by rw [List.length_append]; rfl, rfl, by omega, hrd.tail, ?_, hh⟩, by show xs.length - (done.length + 1) < xs.length - done.length; omega, ?_⟩
        · rw [← heq, List.append_assoc, List.length_append]; rfl
        (repeat (first | exact agree_mask _ _ _ | refine agree_upd rfl ?_ | refine agree_mask2 rfl ?_))
      · rw [List.getElem?_eq_none (by omega), Option.getD_none] at heq
        refine wc_seq ?_
        refine wc_region ?_
        first | refine s_lss_t rfl rfl (by omega) (by decide) ?_ | refine s_lss_f rfl rfl (by omega) (by decide) ?_ | refine s_lss_v rfl rfl (by decide) ?_
        refine wl_end ?_
        refine wc_seq ?_
        refine wc_cond_t rfl ?_
        refine wc_skip ?_
        refine k_then ?_
        refine wc_seq ?_
        refine wc_block ?_
        refine wc_seq ?_
        refine wc_region ?_
        refine s_move (ev_int rfl) (by decide) ?_
        refine s_assign (ev_int rfl) (by decide) ?_
        refine wl_end ?_
        refine wc_seq ?_
        refine wc_region ?_
        refine s_assign (ev_int rfl) (by decide) ?_
        refine wl_end ?_
        refine wc_seq ?_
        refine wc_seq ?_
        refine wc_region ?_
        refine s_move (ev_int rfl) (by decide) ?_
        refine s_move (ev_sl rfl) (by decide) ?_
        refine s_len_sl UIs.out rfl (by decide) ?_
        first | refine s_lss_t rfl rfl (by omega) (by decide) ?_ | refine s_lss_f rfl rfl (by omega) (by decide) ?_ | refine s_lss_v rfl rfl (by decide) ?_
        refine wl_end ?_
        refine wc_cond_f rfl ?_
        refine wc_skip ?_
        refine k_then ?_
        refine wc_region ?_
        refine s_move (ev_sl rfl) (by decide) ?_
        refine s_move (ev_int rfl) (by decide) ?_
        refine s_move (ev_sl rfl) (by decide) ?_
        refine s_move (ev_int rfl) (by decide) ?_
        refine s_indexOff (k := done.length) UIs.out TIs.size rfl rfl (by omega) (by omega) (by decide) ?_
        refine s_load1 TIs.out rfl (hh.cell_row (i := 0) rfl (by first | assumption | (simp only [Nat.mul_one]; assumption))) (by decide) ?_
        refine s_move (ev_int rfl) (by decide) ?_
        refine s_move (ev_int rfl) (by decide) ?_
        -- at some 29 := Op.call { callee := Callee.value (Operand.func 179), args := #[Operand.tmp 26, Operand.tmp
        refine s_callx (add64_run x 0 cr hcr _) (evs_cons (ev_int rfl) (evs_cons (ev_int rfl) (evs_cons (ev_int rfl) evs_nil))) (by decide) ?_
        refine s_move (ev_tup rfl) (by decide) ?_
        refine s_extract rfl rfl (by decide) ?_
        refine s_extract rfl rfl (by decide) ?_
        refine s_indexOff (k := done.length) UIs.out TIs.size rfl rfl (by omega) (by omega) (by decide) ?_
        -- at none := Op.store 124 (Operand.tmp 32) (Operand.tmp 30)
        refine wl_store_row hh (i := 0) (vs := [_]) rfl rfl (ev_int rfl) rfl TIs.out rfl (by rw [length_u64s]; simp only [List.length_append, List.length_cons]; omega) rfl ?_
        intro ws hh
        simp only [List.set_cons_zero] at hh
        rw [Nat.mul_one, splice_one (by rw [length_u64s]; simp only [List.length_append, List.length_cons]; omega), u64s_set, set_mid] at hh
        refine s_assign (ev_int rfl) (by decide) ?_
        refine wl_nil ?_
        refine b_norm ?_
        refine k_then ?_
        refine wc_region ?_
        refine s_addi rfl rfl (by omega) (by omega) (by decide) ?_
        refine s_move (ev_int rfl) (by decide) ?_
        refine wl_nil ?_
        refine k_then ?_
        -- at ('round',)
        refine ⟨⟨done ++ [(x + 0 + cr) % 18446744073709551616], r, _, by simp; omega, by rw [List.length_append]; rfl, rfl, by omega, hrd.tail, ?_, hh⟩, by show xs.length - (done.length + 1) < xs.length - done.length; omega, ?_⟩
        · rw [← heq, List.append_assoc, List.length_append]; rfl
        (repeat (first | exact agree_mask _ _ _ | refine agree_upd rfl ?_ | refine agree_mask2 rfl ?_))
    · have hr0 : rest = [] := List.eq_nil_of_length_eq_zero (by omega)
      subst hr0
      refine wc_seq ?_
      refine wc_region ?_
      first | refine s_lss_t rfl rfl (by omega) (by decide) ?_ | refine s_lss_f rfl rfl (by omega) (by decide) ?_ | refine s_lss_v rfl rfl (by decide) ?_
      refine wl_end ?_
      refine wc_seq ?_
      refine wc_cond_f rfl ?_
      refine wc_exit ?_
      refine k_exit ?_
      refine k_exit ?_
      refine b_here ?_
      -- at ('end', 'normal')
      refine ret0 (by first | exact .inr rfl | exact .inl rfl) rfl  ?_
      rw [List.append_nil, plusL, List.append_nil] at *
      rw [← heq]
      exact ⟨rfl, hh⟩
end Go.Proofs.YthmmofllajkejaaGreatDoor
