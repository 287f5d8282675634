/- The walks through the document's answer for dyadic numbers (ogeeref04): sums, order, products. -/
import Derived.Test.YthmmofllajkejaaGreatDoorRDyA
namespace Go.Proofs.YthmmofllajkejaaGreatDoor
open Go.RowKit
-- umode
theorem plus_up {u v : NR} {k : Nat} (h : u.e = v.e + k) : Dyadic.ofIntWithPrec (u.i * 2 ^ k + v.i) (-v.e) = u.d + v.d := by
  rw [← owp_add]
  congr 1
  have := owp_scale u.i (-u.e) k
  rw [show -u.e + (k : Int) = -v.e by omega] at this
  exact this
theorem plus_parts {u v : NR} {k : Nat} (hk : u.e = v.e + k) (hu : u.mag.size ≤ 1000000) (hv : v.mag.size ≤ 1000000) (hk2 : k ≤ 40000000) (h1 : -100000000000 ≤ v.e) (h2 : v.e ≤ 100000000000) :
    (∀ w, Calls Tryz.prog 135 #[.agg #[.bool u.neg, .string u.mag], .int .i64 (u.e - v.e)] w fun e w' => e = .returned (.agg #[.bool (iN (u.i * 2 ^ k)), .string (iM (u.i * 2 ^ k))]) ∧ Below w.heap.size w w') ∧
    (∀ w, Calls Tryz.prog 134 #[.agg #[.bool (iN (u.i * 2 ^ k)), .string (iM (u.i * 2 ^ k))], .agg #[.bool v.neg, .string v.mag]] w fun e w' => e = .returned (.agg #[.bool (iN (u.i * 2 ^ k + v.i)), .string (iM (u.i * 2 ^ k + v.i))]) ∧ Below w.heap.size w w') ∧
    ∀ w, Calls Tryz.prog 112 #[.agg #[.bool (iN (u.i * 2 ^ k + v.i)), .string (iM (u.i * 2 ^ k + v.i))], .int .i64 v.e] w fun r w' => r = .returned (.agg #[.bool (nR (u.d + v.d)).neg, .string (nR (u.d + v.d)).mag, .int .i64 (nR (u.d + v.d)).e]) ∧ Below w.heap.size w w' := by
  have hb1 : blen (u.i * 2 ^ k).natAbs ≤ 8000000 + k := by
    rw [Int.natAbs_mul, Int.natAbs_pow]
    have := blen_mul_pow u.i.natAbs k
    have h3 := blen_iv u.neg u.mag
    unfold NR.i at this ⊢
    exact Nat.le_trans this (by omega)
  have hb2 := blen_iv v.neg v.mag
  have hb3 := blen_add_int (u.i * 2 ^ k) v.i
  refine ⟨fun w => ?_, fun w => ?_, fun w => ?_⟩
  · rw [show u.e - v.e = k by omega]
    exact xshl_calls u.neg u.mag k w (by omega) (by omega)
  · have := xplus_calls (iN (u.i * 2 ^ k)) v.neg (iM (u.i * 2 ^ k)) v.mag w (by rw [iM_size]; omega) (by omega)
    rw [iv_of] at this
    exact this
  · exact yMake_at w (plus_up hk) (by rw [iM_size]; unfold NR.i at hb1 hb3 ⊢; omega) (by omega) (by omega)
theorem yPlus_calls (a b : NR) (w : World) (ha : a.ok) (hb : b.ok) :
    Calls Tryz.prog 104 #[.agg #[.bool a.neg, .string a.mag, .int .i64 a.e], .agg #[.bool b.neg, .string b.mag, .int .i64 b.e]] w fun r w' => r = .returned (.agg #[.bool (nR (a.d + b.d)).neg, .string (nR (a.d + b.d)).mag, .int .i64 (nR (a.d + b.d)).e]) ∧ Below w.heap.size w w' := by
  have hh := Hp.start w
  obtain ⟨ha1, ha2, ha3⟩ := ha
  obtain ⟨hb1, hb2, hb3⟩ := hb
  obtain ⟨_, fa1, fa2, fa3⟩ := raw_form (a := a) ⟨ha1, ha2, ha3⟩
  obtain ⟨_, fb1, fb2, fb3⟩ := raw_form (a := b) ⟨hb1, hb2, hb3⟩
  have hsg : ∀ x : Dyadic, (nR x).i.sign = 0 ↔ x = 0 := fun x => by
    rw [Int.sign_eq_zero_iff_zero]
    constructor
    · intro h; rw [← nR_i x, h, owp_zero]
    · intro h; rw [h]; rfl
  by_cases h0 : a.d = 0
  · have hs0 := (hsg a.d).2 h0
    refine calls_vc (N := 38) (l := [.agg #[.bool a.neg, .string a.mag, .int .i64 a.e], .agg #[.bool b.neg, .string b.mag, .int .i64 b.e]]) Tryz.func104 rfl rfl (by simp) ?_
    refine wc_seq ?_
    refine wc_region ?_
    refine wl_box hh (cs := [_, _, _]) rfl rfl (by decide) ?_
    intro b2 w2 hh
    refine wl_box hh (cs := [_, _, _]) rfl rfl (by decide) ?_
    intro b3 w3 hh
    refine wl_alloc hh TIs.out (by decide) ?_
    intro b4 w4 hh
    refine wl_end ?_
    refine wc_seq ?_
    -- at the drawn region 1
    refine wc_drawn 3 [[(2, none)], [(5, some 0)], [(3, none)]] [(2, 7), (1, 6), (0, 5)] hh mixed (by kernel_rfl) ?_
    refine dx_val (i := 0) (fun ρ1 w1 hj hR => x_load (vs := [_, _, _]) TIs.out (show ρ1 2 = Value.pointer _ from hR.1) (hj.hp.rd_blk_at (i := 2) (n := 3) rfl rfl) rfl) ?_
    refine dx_call (i := 1) (fun ρ1 w1 hj hR => run_callf FnIs.out (evs_cons (show ρ1 5 = Value.agg (List.toArray _) from hR.1) evs_nil)) (fun w1 hj => yForm_calls a _ (by omega) (by omega) (by omega)) ?_
    refine dx_val (i := 2) (fun ρ1 w1 hj hR => x_load (vs := [_, _, _]) TIs.out (show ρ1 3 = Value.pointer _ from hR.1) (hj.hp.rd_blk_at (i := 1) (n := 3) rfl rfl) rfl) ?_
    refine dx_nil ?_
    intro f W hJ hV
    have hb_1 := hJ.bl
    obtain ⟨v7, v6, v5, _⟩ := hV
    simp only [updL]
    have e5 : f 0 = _ := v5
    rw [e5]
    have e6 : f 1 = _ := v6
    rw [e6]
    have e7 : f 2 = _ := v7
    rw [e7]
    replace hh := hJ.hp
    clear e5 e6 e7 hJ
    -- at some 8 := Op.call { callee := Callee.value (Operand.func 127), args := #[Operand.tmp 7], argTypes :=
    refine s_callf (yForm_calls b _ (by omega) (by omega) (by omega)) FnIs.out rfl (by decide) ?_
    rintro e_ w8 ⟨rfl, hb_⟩
    refine ⟨_, rfl, ?_⟩
    replace hh := hh.ext hb_
    refine wl_store hh (i := 2) (vs := [_, _, _]) rfl rfl rfl rfl TIs.out rfl (by simp) rfl ?_
    intro ws hh
    replace hh : Hp _ (_ :: _ :: .blk _ _ [_, _, _] _ :: _) _ := hh
    refine wl_store hh (i := 1) (vs := [_, _, _]) rfl rfl rfl rfl TIs.out rfl (by simp) rfl ?_
    intro ws hh
    replace hh : Hp _ (_ :: .blk _ _ [_, _, _] _ :: _) _ := hh
    refine wl_end ?_
    refine wc_seq ?_
    refine wc_seq ?_
    refine wc_region ?_
    refine s_load (vs := [_, _, _]) TIs.out rfl (hh.rd_blk_at (i := 2) (n := 3) rfl rfl) rfl (by decide) ?_
    -- at some 10 := Op.call { callee := Callee.value (Operand.func 130), args := #[Operand.tmp 9], argTypes :=
    refine s_callf (ySign_calls (nR a.d) _ (by omega)) FnIs.out rfl (by decide) ?_
    rintro e_ w10 ⟨rfl, hb_⟩
    refine ⟨_, rfl, ?_⟩
    replace hh := hh.ext hb_
    first | refine s_eql_t rfl rfl (by omega) (by decide) ?_ | refine s_eql_f rfl rfl (by omega) (by decide) ?_ | refine s_eql_v rfl rfl (by decide) ?_
    refine wl_end ?_
    refine wc_cond_t rfl ?_
    refine wc_seq ?_
    refine wc_region ?_
    refine s_load (vs := [_, _, _]) TIs.out rfl (hh.rd_blk_at (i := 1) (n := 3) rfl rfl) rfl (by decide) ?_
    refine wl_store hh (i := 0) (vs := [_, _, _]) rfl rfl rfl rfl TIs.out rfl (by simp) rfl ?_
    intro ws hh
    replace hh : Hp _ (.blk _ _ [_, _, _] _ :: _) _ := hh
    refine wl_end ?_
    refine wc_ret ?_
    refine k_ret ?_
    -- at ('end', 'ret')
    refine retc1 (by first | exact .inr rfl | exact .inl rfl) rfl (r_cell rfl (lv_agg (vs := [_, _, _]) TIs.out (hh.rd_blk_at (i := 0) (n := 3) rfl rfl) rfl) r_nil) ?_
    rw [h0, Dyadic.zero_add]
    exact ⟨rfl, hh.below⟩
  · have hs0 : ¬ (nR a.d).i.sign = 0 := fun h => h0 ((hsg a.d).1 h)
    by_cases h1 : b.d = 0
    · have hs1 := (hsg b.d).2 h1
      refine calls_vc (N := 38) (l := [.agg #[.bool a.neg, .string a.mag, .int .i64 a.e], .agg #[.bool b.neg, .string b.mag, .int .i64 b.e]]) Tryz.func104 rfl rfl (by simp) ?_
      refine wc_seq ?_
      refine wc_region ?_
      refine wl_box hh (cs := [_, _, _]) rfl rfl (by decide) ?_
      intro b2 w2 hh
      refine wl_box hh (cs := [_, _, _]) rfl rfl (by decide) ?_
      intro b3 w3 hh
      refine wl_alloc hh TIs.out (by decide) ?_
      intro b4 w4 hh
      refine wl_end ?_
      refine wc_seq ?_
      -- at the drawn region 1
      refine wc_drawn 3 [[(2, none)], [(5, some 0)], [(3, none)]] [(2, 7), (1, 6), (0, 5)] hh mixed (by kernel_rfl) ?_
      refine dx_val (i := 0) (fun ρ1 w1 hj hR => x_load (vs := [_, _, _]) TIs.out (show ρ1 2 = Value.pointer _ from hR.1) (hj.hp.rd_blk_at (i := 2) (n := 3) rfl rfl) rfl) ?_
      refine dx_call (i := 1) (fun ρ1 w1 hj hR => run_callf FnIs.out (evs_cons (show ρ1 5 = Value.agg (List.toArray _) from hR.1) evs_nil)) (fun w1 hj => yForm_calls a _ (by omega) (by omega) (by omega)) ?_
      refine dx_val (i := 2) (fun ρ1 w1 hj hR => x_load (vs := [_, _, _]) TIs.out (show ρ1 3 = Value.pointer _ from hR.1) (hj.hp.rd_blk_at (i := 1) (n := 3) rfl rfl) rfl) ?_
      refine dx_nil ?_
      intro f W hJ hV
      have hb_1 := hJ.bl
      obtain ⟨v7, v6, v5, _⟩ := hV
      simp only [updL]
      have e5 : f 0 = _ := v5
      rw [e5]
      have e6 : f 1 = _ := v6
      rw [e6]
      have e7 : f 2 = _ := v7
      rw [e7]
      replace hh := hJ.hp
      clear e5 e6 e7 hJ
      -- at some 8 := Op.call { callee := Callee.value (Operand.func 127), args := #[Operand.tmp 7], argTypes :=
      refine s_callf (yForm_calls b _ (by omega) (by omega) (by omega)) FnIs.out rfl (by decide) ?_
      rintro e_ w8 ⟨rfl, hb_⟩
      refine ⟨_, rfl, ?_⟩
      replace hh := hh.ext hb_
      refine wl_store hh (i := 2) (vs := [_, _, _]) rfl rfl rfl rfl TIs.out rfl (by simp) rfl ?_
      intro ws hh
      replace hh : Hp _ (_ :: _ :: .blk _ _ [_, _, _] _ :: _) _ := hh
      refine wl_store hh (i := 1) (vs := [_, _, _]) rfl rfl rfl rfl TIs.out rfl (by simp) rfl ?_
      intro ws hh
      replace hh : Hp _ (_ :: .blk _ _ [_, _, _] _ :: _) _ := hh
      refine wl_end ?_
      refine wc_seq ?_
      refine wc_seq ?_
      refine wc_region ?_
      refine s_load (vs := [_, _, _]) TIs.out rfl (hh.rd_blk_at (i := 2) (n := 3) rfl rfl) rfl (by decide) ?_
      -- at some 10 := Op.call { callee := Callee.value (Operand.func 130), args := #[Operand.tmp 9], argTypes :=
      refine s_callf (ySign_calls (nR a.d) _ (by omega)) FnIs.out rfl (by decide) ?_
      rintro e_ w10 ⟨rfl, hb_⟩
      refine ⟨_, rfl, ?_⟩
      replace hh := hh.ext hb_
      first | refine s_eql_t rfl rfl (by omega) (by decide) ?_ | refine s_eql_f rfl rfl (by omega) (by decide) ?_ | refine s_eql_v rfl rfl (by decide) ?_
      refine wl_end ?_
      refine wc_cond_f rfl ?_
      refine wc_skip ?_
      refine k_then ?_
      refine wc_seq ?_
      refine wc_seq ?_
      refine wc_region ?_
      refine s_load (vs := [_, _, _]) TIs.out rfl (hh.rd_blk_at (i := 1) (n := 3) rfl rfl) rfl (by decide) ?_
      -- at some 14 := Op.call { callee := Callee.value (Operand.func 130), args := #[Operand.tmp 13], argTypes :
      refine s_callf (ySign_calls (nR b.d) _ (by omega)) FnIs.out rfl (by decide) ?_
      rintro e_ w14 ⟨rfl, hb_⟩
      refine ⟨_, rfl, ?_⟩
      replace hh := hh.ext hb_
      first | refine s_eql_t rfl rfl (by omega) (by decide) ?_ | refine s_eql_f rfl rfl (by omega) (by decide) ?_ | refine s_eql_v rfl rfl (by decide) ?_
      refine wl_end ?_
      refine wc_cond_t rfl ?_
      refine wc_seq ?_
      refine wc_region ?_
      refine s_load (vs := [_, _, _]) TIs.out rfl (hh.rd_blk_at (i := 2) (n := 3) rfl rfl) rfl (by decide) ?_
      refine wl_store hh (i := 0) (vs := [_, _, _]) rfl rfl rfl rfl TIs.out rfl (by simp) rfl ?_
      intro ws hh
      replace hh : Hp _ (.blk _ _ [_, _, _] _ :: _) _ := hh
      refine wl_end ?_
      refine wc_ret ?_
      refine k_ret ?_
      -- at ('end', 'ret')
      refine retc1 (by first | exact .inr rfl | exact .inl rfl) rfl (r_cell rfl (lv_agg (vs := [_, _, _]) TIs.out (hh.rd_blk_at (i := 0) (n := 3) rfl rfl) rfl) r_nil) ?_
      rw [h1, Dyadic.add_zero]
      exact ⟨rfl, hh.below⟩
    · have hs1 : ¬ (nR b.d).i.sign = 0 := fun h => h1 ((hsg b.d).1 h)
      by_cases hlt : (nR a.d).e < (nR b.d).e
      · obtain ⟨k, hk⟩ : ∃ k : Nat, (nR b.d).e = (nR a.d).e + k := ⟨((nR b.d).e - (nR a.d).e).toNat, by omega⟩
        obtain ⟨hshl, hpl, hmk⟩ := plus_parts hk fb1 fa1 (by omega) (by omega) (by omega)
        rw [nR_d, nR_d, Dyadic.add_comm] at hmk
        refine calls_vc (N := 38) (l := [.agg #[.bool a.neg, .string a.mag, .int .i64 a.e], .agg #[.bool b.neg, .string b.mag, .int .i64 b.e]]) Tryz.func104 rfl rfl (by simp) ?_
        refine wc_seq ?_
        refine wc_region ?_
        refine wl_box hh (cs := [_, _, _]) rfl rfl (by decide) ?_
        intro b2 w2 hh
        refine wl_box hh (cs := [_, _, _]) rfl rfl (by decide) ?_
        intro b3 w3 hh
        refine wl_alloc hh TIs.out (by decide) ?_
        intro b4 w4 hh
        refine wl_end ?_
        refine wc_seq ?_
        -- at the drawn region 1
        refine wc_drawn 3 [[(2, none)], [(5, some 0)], [(3, none)]] [(2, 7), (1, 6), (0, 5)] hh mixed (by kernel_rfl) ?_
        refine dx_val (i := 0) (fun ρ1 w1 hj hR => x_load (vs := [_, _, _]) TIs.out (show ρ1 2 = Value.pointer _ from hR.1) (hj.hp.rd_blk_at (i := 2) (n := 3) rfl rfl) rfl) ?_
        refine dx_call (i := 1) (fun ρ1 w1 hj hR => run_callf FnIs.out (evs_cons (show ρ1 5 = Value.agg (List.toArray _) from hR.1) evs_nil)) (fun w1 hj => yForm_calls a _ (by omega) (by omega) (by omega)) ?_
        refine dx_val (i := 2) (fun ρ1 w1 hj hR => x_load (vs := [_, _, _]) TIs.out (show ρ1 3 = Value.pointer _ from hR.1) (hj.hp.rd_blk_at (i := 1) (n := 3) rfl rfl) rfl) ?_
        refine dx_nil ?_
        intro f W hJ hV
        have hb_1 := hJ.bl
        obtain ⟨v7, v6, v5, _⟩ := hV
        simp only [updL]
        have e5 : f 0 = _ := v5
        rw [e5]
        have e6 : f 1 = _ := v6
        rw [e6]
        have e7 : f 2 = _ := v7
        rw [e7]
        replace hh := hJ.hp
        clear e5 e6 e7 hJ
        -- at some 8 := Op.call { callee := Callee.value (Operand.func 127), args := #[Operand.tmp 7], argTypes :=
        refine s_callf (yForm_calls b _ (by omega) (by omega) (by omega)) FnIs.out rfl (by decide) ?_
        rintro e_ w8 ⟨rfl, hb_⟩
        refine ⟨_, rfl, ?_⟩
        replace hh := hh.ext hb_
        refine wl_store hh (i := 2) (vs := [_, _, _]) rfl rfl rfl rfl TIs.out rfl (by simp) rfl ?_
        intro ws hh
        replace hh : Hp _ (_ :: _ :: .blk _ _ [_, _, _] _ :: _) _ := hh
        refine wl_store hh (i := 1) (vs := [_, _, _]) rfl rfl rfl rfl TIs.out rfl (by simp) rfl ?_
        intro ws hh
        replace hh : Hp _ (_ :: .blk _ _ [_, _, _] _ :: _) _ := hh
        refine wl_end ?_
        refine wc_seq ?_
        refine wc_seq ?_
        refine wc_region ?_
        refine s_load (vs := [_, _, _]) TIs.out rfl (hh.rd_blk_at (i := 2) (n := 3) rfl rfl) rfl (by decide) ?_
        -- at some 10 := Op.call { callee := Callee.value (Operand.func 130), args := #[Operand.tmp 9], argTypes :=
        refine s_callf (ySign_calls (nR a.d) _ (by omega)) FnIs.out rfl (by decide) ?_
        rintro e_ w10 ⟨rfl, hb_⟩
        refine ⟨_, rfl, ?_⟩
        replace hh := hh.ext hb_
        first | refine s_eql_t rfl rfl (by omega) (by decide) ?_ | refine s_eql_f rfl rfl (by omega) (by decide) ?_ | refine s_eql_v rfl rfl (by decide) ?_
        refine wl_end ?_
        refine wc_cond_f rfl ?_
        refine wc_skip ?_
        refine k_then ?_
        refine wc_seq ?_
        refine wc_seq ?_
        refine wc_region ?_
        refine s_load (vs := [_, _, _]) TIs.out rfl (hh.rd_blk_at (i := 1) (n := 3) rfl rfl) rfl (by decide) ?_
        -- at some 14 := Op.call { callee := Callee.value (Operand.func 130), args := #[Operand.tmp 13], argTypes :
        refine s_callf (ySign_calls (nR b.d) _ (by omega)) FnIs.out rfl (by decide) ?_
        rintro e_ w14 ⟨rfl, hb_⟩
        refine ⟨_, rfl, ?_⟩
        replace hh := hh.ext hb_
        first | refine s_eql_t rfl rfl (by omega) (by decide) ?_ | refine s_eql_f rfl rfl (by omega) (by decide) ?_ | refine s_eql_v rfl rfl (by decide) ?_
        refine wl_end ?_
        refine wc_cond_f rfl ?_
        refine wc_skip ?_
        refine k_then ?_
        refine wc_seq ?_
        refine wc_seq ?_
        refine wc_region ?_
        refine s_fieldAddr (off := 2) FIs.out rfl (by decide) ?_
        refine s_load1 TIs.out rfl (hh.cell_blk (i := 2) rfl rfl) (by decide) ?_
        refine s_fieldAddr (off := 2) FIs.out rfl (by decide) ?_
        refine s_load1 TIs.out rfl (hh.cell_blk (i := 1) rfl rfl) (by decide) ?_
        first | refine s_lss_t rfl rfl (by omega) (by decide) ?_ | refine s_lss_f rfl rfl (by omega) (by decide) ?_ | refine s_lss_v rfl rfl (by decide) ?_
        refine wl_end ?_
        refine wc_cond_t rfl ?_
        refine wc_region ?_
        refine s_load (vs := [_, _, _]) TIs.out rfl (hh.rd_blk_at (i := 1) (n := 3) rfl rfl) rfl (by decide) ?_
        refine s_load (vs := [_, _, _]) TIs.out rfl (hh.rd_blk_at (i := 2) (n := 3) rfl rfl) rfl (by decide) ?_
        refine wl_store hh (i := 2) (vs := [_, _, _]) rfl rfl rfl rfl TIs.out rfl (by simp) rfl ?_
        intro ws hh
        replace hh : Hp _ (_ :: _ :: .blk _ _ [_, _, _] _ :: _) _ := hh
        refine wl_store hh (i := 1) (vs := [_, _, _]) rfl rfl rfl rfl TIs.out rfl (by simp) rfl ?_
        intro ws hh
        replace hh : Hp _ (_ :: .blk _ _ [_, _, _] _ :: _) _ := hh
        refine wl_end ?_
        refine wc_seq ?_
        -- at the drawn region 8
        refine wc_drawn 13 [[(2, none)], [(24, some 0)], [(2, none)], [(26, some 2)], [(3, none)], [(28, some 4)], [(27, some 3), (29, some 5)], [(25, some 1), (30, some 6)], [(3, none)], [(32, some 8)], [(31, some 7), (33, some 9)], [(3, none)], [(35, some 11)]] [(12, 36), (11, 35), (10, 34), (9, 33), (8, 32), (7, 31), (6, 30), (5, 29), (4, 28), (3, 27), (2, 26), (1, 25), (0, 24)] hh mixed (by kernel_rfl) ?_
        refine dx_val (i := 0) (fun ρ1 w1 hj hR => x_fieldAddr (off := 0) FIs.out (show ρ1 2 = Value.pointer _ from hR.1)) ?_
        refine dx_val (i := 1) (fun ρ1 w1 hj hR => x_load (vs := [_, _]) TIs.out (show ρ1 24 = Value.pointer _ from hR.1) (hj.hp.rd_blk_at (i := 2) (n := 2) rfl rfl) rfl) ?_
        refine dx_val (i := 2) (fun ρ1 w1 hj hR => x_fieldAddr (off := 2) FIs.out (show ρ1 2 = Value.pointer _ from hR.1)) ?_
        refine dx_val (i := 3) (fun ρ1 w1 hj hR => x_load1 TIs.out (show ρ1 26 = Value.pointer _ from hR.1) (hj.hp.cell_blk (i := 2) rfl rfl)) ?_
        refine dx_val (i := 4) (fun ρ1 w1 hj hR => x_fieldAddr (off := 2) FIs.out (show ρ1 3 = Value.pointer _ from hR.1)) ?_
        refine dx_val (i := 5) (fun ρ1 w1 hj hR => x_load1 TIs.out (show ρ1 28 = Value.pointer _ from hR.1) (hj.hp.cell_blk (i := 1) rfl rfl)) ?_
        refine dx_val (i := 6) (fun ρ1 w1 hj hR => x_subi (show ρ1 27 = Value.int _ _ from hR.1) (show ρ1 29 = Value.int _ _ from hR.2.1) (by omega) (by omega)) ?_
        refine dx_call (i := 7) (fun ρ1 w1 hj hR => run_callf FnIs.out (evs_cons (show ρ1 25 = Value.agg (List.toArray _) from hR.1) (evs_cons (show ρ1 30 = Value.int _ _ from hR.2.1) evs_nil))) (fun w1 hj => hshl _) ?_
        refine dx_val (i := 8) (fun ρ1 w1 hj hR => x_fieldAddr (off := 0) FIs.out (show ρ1 3 = Value.pointer _ from hR.1)) ?_
        refine dx_val (i := 9) (fun ρ1 w1 hj hR => x_load (vs := [_, _]) TIs.out (show ρ1 32 = Value.pointer _ from hR.1) (hj.hp.rd_blk_at (i := 1) (n := 2) rfl rfl) rfl) ?_
        refine dx_call (i := 10) (fun ρ1 w1 hj hR => run_callf FnIs.out (evs_cons (show ρ1 31 = Value.agg (List.toArray _) from hR.1) (evs_cons (show ρ1 33 = Value.agg (List.toArray _) from hR.2.1) evs_nil))) (fun w1 hj => hpl _) ?_
        refine dx_val (i := 11) (fun ρ1 w1 hj hR => x_fieldAddr (off := 2) FIs.out (show ρ1 3 = Value.pointer _ from hR.1)) ?_
        refine dx_val (i := 12) (fun ρ1 w1 hj hR => x_load1 TIs.out (show ρ1 35 = Value.pointer _ from hR.1) (hj.hp.cell_blk (i := 1) rfl rfl)) ?_
        refine dx_nil ?_
        intro f W hJ hV
        have hb_8 := hJ.bl
        obtain ⟨v36, v35, v34, v33, v32, v31, v30, v29, v28, v27, v26, v25, v24, _⟩ := hV
        simp only [updL]
        have e24 : f 0 = _ := v24
        rw [e24]
        have e25 : f 1 = _ := v25
        rw [e25]
        have e26 : f 2 = _ := v26
        rw [e26]
        have e27 : f 3 = _ := v27
        rw [e27]
        have e28 : f 4 = _ := v28
        rw [e28]
        have e29 : f 5 = _ := v29
        rw [e29]
        have e30 : f 6 = _ := v30
        rw [e30]
        have e31 : f 7 = _ := v31
        rw [e31]
        have e32 : f 8 = _ := v32
        rw [e32]
        have e33 : f 9 = _ := v33
        rw [e33]
        have e34 : f 10 = _ := v34
        rw [e34]
        have e35 : f 11 = _ := v35
        rw [e35]
        have e36 : f 12 = _ := v36
        rw [e36]
        replace hh := hJ.hp
        clear e24 e25 e26 e27 e28 e29 e30 e31 e32 e33 e34 e35 e36 hJ
        -- at some 37 := Op.call { callee := Callee.value (Operand.func 112), args := #[Operand.tmp 34, Operand.tmp
        refine s_callf (hmk _) FnIs.out rfl (by decide) ?_
        rintro e_ w37 ⟨rfl, hb_⟩
        refine ⟨_, rfl, ?_⟩
        replace hh := hh.ext hb_
        refine wl_store hh (i := 0) (vs := [_, _, _]) rfl rfl rfl rfl TIs.out rfl (by simp) rfl ?_
        intro ws hh
        replace hh : Hp _ (.blk _ _ [_, _, _] _ :: _) _ := hh
        refine wl_end ?_
        refine wc_ret ?_
        -- at ('end', 'ret')
        refine retc1 (by first | exact .inr rfl | exact .inl rfl) rfl (r_cell rfl (lv_agg (vs := [_, _, _]) TIs.out (hh.rd_blk_at (i := 0) (n := 3) rfl rfl) rfl) r_nil) ?_
        exact ⟨rfl, hh.below⟩
      · obtain ⟨k, hk⟩ : ∃ k : Nat, (nR a.d).e = (nR b.d).e + k := ⟨((nR a.d).e - (nR b.d).e).toNat, by omega⟩
        obtain ⟨hshl, hpl, hmk⟩ := plus_parts hk fa1 fb1 (by omega) (by omega) (by omega)
        rw [nR_d, nR_d] at hmk
        refine calls_vc (N := 38) (l := [.agg #[.bool a.neg, .string a.mag, .int .i64 a.e], .agg #[.bool b.neg, .string b.mag, .int .i64 b.e]]) Tryz.func104 rfl rfl (by simp) ?_
        refine wc_seq ?_
        refine wc_region ?_
        refine wl_box hh (cs := [_, _, _]) rfl rfl (by decide) ?_
        intro b2 w2 hh
        refine wl_box hh (cs := [_, _, _]) rfl rfl (by decide) ?_
        intro b3 w3 hh
        refine wl_alloc hh TIs.out (by decide) ?_
        intro b4 w4 hh
        refine wl_end ?_
        refine wc_seq ?_
        -- at the drawn region 1
        refine wc_drawn 3 [[(2, none)], [(5, some 0)], [(3, none)]] [(2, 7), (1, 6), (0, 5)] hh mixed (by kernel_rfl) ?_
        refine dx_val (i := 0) (fun ρ1 w1 hj hR => x_load (vs := [_, _, _]) TIs.out (show ρ1 2 = Value.pointer _ from hR.1) (hj.hp.rd_blk_at (i := 2) (n := 3) rfl rfl) rfl) ?_
        refine dx_call (i := 1) (fun ρ1 w1 hj hR => run_callf FnIs.out (evs_cons (show ρ1 5 = Value.agg (List.toArray _) from hR.1) evs_nil)) (fun w1 hj => yForm_calls a _ (by omega) (by omega) (by omega)) ?_
        refine dx_val (i := 2) (fun ρ1 w1 hj hR => x_load (vs := [_, _, _]) TIs.out (show ρ1 3 = Value.pointer _ from hR.1) (hj.hp.rd_blk_at (i := 1) (n := 3) rfl rfl) rfl) ?_
        refine dx_nil ?_
        intro f W hJ hV
        have hb_1 := hJ.bl
        obtain ⟨v7, v6, v5, _⟩ := hV
        simp only [updL]
        have e5 : f 0 = _ := v5
        rw [e5]
        have e6 : f 1 = _ := v6
        rw [e6]
        have e7 : f 2 = _ := v7
        rw [e7]
        replace hh := hJ.hp
        clear e5 e6 e7 hJ
        -- at some 8 := Op.call { callee := Callee.value (Operand.func 127), args := #[Operand.tmp 7], argTypes :=
        refine s_callf (yForm_calls b _ (by omega) (by omega) (by omega)) FnIs.out rfl (by decide) ?_
        rintro e_ w8 ⟨rfl, hb_⟩
        refine ⟨_, rfl, ?_⟩
        replace hh := hh.ext hb_
        refine wl_store hh (i := 2) (vs := [_, _, _]) rfl rfl rfl rfl TIs.out rfl (by simp) rfl ?_
        intro ws hh
        replace hh : Hp _ (_ :: _ :: .blk _ _ [_, _, _] _ :: _) _ := hh
        refine wl_store hh (i := 1) (vs := [_, _, _]) rfl rfl rfl rfl TIs.out rfl (by simp) rfl ?_
        intro ws hh
        replace hh : Hp _ (_ :: .blk _ _ [_, _, _] _ :: _) _ := hh
        refine wl_end ?_
        refine wc_seq ?_
        refine wc_seq ?_
        refine wc_region ?_
        refine s_load (vs := [_, _, _]) TIs.out rfl (hh.rd_blk_at (i := 2) (n := 3) rfl rfl) rfl (by decide) ?_
        -- at some 10 := Op.call { callee := Callee.value (Operand.func 130), args := #[Operand.tmp 9], argTypes :=
        refine s_callf (ySign_calls (nR a.d) _ (by omega)) FnIs.out rfl (by decide) ?_
        rintro e_ w10 ⟨rfl, hb_⟩
        refine ⟨_, rfl, ?_⟩
        replace hh := hh.ext hb_
        first | refine s_eql_t rfl rfl (by omega) (by decide) ?_ | refine s_eql_f rfl rfl (by omega) (by decide) ?_ | refine s_eql_v rfl rfl (by decide) ?_
        refine wl_end ?_
        refine wc_cond_f rfl ?_
        refine wc_skip ?_
        refine k_then ?_
        refine wc_seq ?_
        refine wc_seq ?_
        refine wc_region ?_
        refine s_load (vs := [_, _, _]) TIs.out rfl (hh.rd_blk_at (i := 1) (n := 3) rfl rfl) rfl (by decide) ?_
        -- at some 14 := Op.call { callee := Callee.value (Operand.func 130), args := #[Operand.tmp 13], argTypes :
        refine s_callf (ySign_calls (nR b.d) _ (by omega)) FnIs.out rfl (by decide) ?_
        rintro e_ w14 ⟨rfl, hb_⟩
        refine ⟨_, rfl, ?_⟩
        replace hh := hh.ext hb_
        first | refine s_eql_t rfl rfl (by omega) (by decide) ?_ | refine s_eql_f rfl rfl (by omega) (by decide) ?_ | refine s_eql_v rfl rfl (by decide) ?_
        refine wl_end ?_
        refine wc_cond_f rfl ?_
        refine wc_skip ?_
        refine k_then ?_
        refine wc_seq ?_
        refine wc_seq ?_
        refine wc_region ?_
        refine s_fieldAddr (off := 2) FIs.out rfl (by decide) ?_
        refine s_load1 TIs.out rfl (hh.cell_blk (i := 2) rfl rfl) (by decide) ?_
        refine s_fieldAddr (off := 2) FIs.out rfl (by decide) ?_
        refine s_load1 TIs.out rfl (hh.cell_blk (i := 1) rfl rfl) (by decide) ?_
        first | refine s_lss_t rfl rfl (by omega) (by decide) ?_ | refine s_lss_f rfl rfl (by omega) (by decide) ?_ | refine s_lss_v rfl rfl (by decide) ?_
        refine wl_end ?_
        refine wc_cond_f rfl ?_
        refine wc_skip ?_
        refine k_then ?_
        refine wc_seq ?_
        -- at the drawn region 8
        refine wc_drawn 13 [[(2, none)], [(24, some 0)], [(2, none)], [(26, some 2)], [(3, none)], [(28, some 4)], [(27, some 3), (29, some 5)], [(25, some 1), (30, some 6)], [(3, none)], [(32, some 8)], [(31, some 7), (33, some 9)], [(3, none)], [(35, some 11)]] [(12, 36), (11, 35), (10, 34), (9, 33), (8, 32), (7, 31), (6, 30), (5, 29), (4, 28), (3, 27), (2, 26), (1, 25), (0, 24)] hh mixed (by kernel_rfl) ?_
        refine dx_val (i := 0) (fun ρ1 w1 hj hR => x_fieldAddr (off := 0) FIs.out (show ρ1 2 = Value.pointer _ from hR.1)) ?_
        refine dx_val (i := 1) (fun ρ1 w1 hj hR => x_load (vs := [_, _]) TIs.out (show ρ1 24 = Value.pointer _ from hR.1) (hj.hp.rd_blk_at (i := 2) (n := 2) rfl rfl) rfl) ?_
        refine dx_val (i := 2) (fun ρ1 w1 hj hR => x_fieldAddr (off := 2) FIs.out (show ρ1 2 = Value.pointer _ from hR.1)) ?_
        refine dx_val (i := 3) (fun ρ1 w1 hj hR => x_load1 TIs.out (show ρ1 26 = Value.pointer _ from hR.1) (hj.hp.cell_blk (i := 2) rfl rfl)) ?_
        refine dx_val (i := 4) (fun ρ1 w1 hj hR => x_fieldAddr (off := 2) FIs.out (show ρ1 3 = Value.pointer _ from hR.1)) ?_
        refine dx_val (i := 5) (fun ρ1 w1 hj hR => x_load1 TIs.out (show ρ1 28 = Value.pointer _ from hR.1) (hj.hp.cell_blk (i := 1) rfl rfl)) ?_
        refine dx_val (i := 6) (fun ρ1 w1 hj hR => x_subi (show ρ1 27 = Value.int _ _ from hR.1) (show ρ1 29 = Value.int _ _ from hR.2.1) (by omega) (by omega)) ?_
        refine dx_call (i := 7) (fun ρ1 w1 hj hR => run_callf FnIs.out (evs_cons (show ρ1 25 = Value.agg (List.toArray _) from hR.1) (evs_cons (show ρ1 30 = Value.int _ _ from hR.2.1) evs_nil))) (fun w1 hj => hshl _) ?_
        refine dx_val (i := 8) (fun ρ1 w1 hj hR => x_fieldAddr (off := 0) FIs.out (show ρ1 3 = Value.pointer _ from hR.1)) ?_
        refine dx_val (i := 9) (fun ρ1 w1 hj hR => x_load (vs := [_, _]) TIs.out (show ρ1 32 = Value.pointer _ from hR.1) (hj.hp.rd_blk_at (i := 1) (n := 2) rfl rfl) rfl) ?_
        refine dx_call (i := 10) (fun ρ1 w1 hj hR => run_callf FnIs.out (evs_cons (show ρ1 31 = Value.agg (List.toArray _) from hR.1) (evs_cons (show ρ1 33 = Value.agg (List.toArray _) from hR.2.1) evs_nil))) (fun w1 hj => hpl _) ?_
        refine dx_val (i := 11) (fun ρ1 w1 hj hR => x_fieldAddr (off := 2) FIs.out (show ρ1 3 = Value.pointer _ from hR.1)) ?_
        refine dx_val (i := 12) (fun ρ1 w1 hj hR => x_load1 TIs.out (show ρ1 35 = Value.pointer _ from hR.1) (hj.hp.cell_blk (i := 1) rfl rfl)) ?_
        refine dx_nil ?_
        intro f W hJ hV
        have hb_8 := hJ.bl
        obtain ⟨v36, v35, v34, v33, v32, v31, v30, v29, v28, v27, v26, v25, v24, _⟩ := hV
        simp only [updL]
        have e24 : f 0 = _ := v24
        rw [e24]
        have e25 : f 1 = _ := v25
        rw [e25]
        have e26 : f 2 = _ := v26
        rw [e26]
        have e27 : f 3 = _ := v27
        rw [e27]
        have e28 : f 4 = _ := v28
        rw [e28]
        have e29 : f 5 = _ := v29
        rw [e29]
        have e30 : f 6 = _ := v30
        rw [e30]
        have e31 : f 7 = _ := v31
        rw [e31]
        have e32 : f 8 = _ := v32
        rw [e32]
        have e33 : f 9 = _ := v33
        rw [e33]
        have e34 : f 10 = _ := v34
        rw [e34]
        have e35 : f 11 = _ := v35
        rw [e35]
        have e36 : f 12 = _ := v36
        rw [e36]
        replace hh := hJ.hp
        clear e24 e25 e26 e27 e28 e29 e30 e31 e32 e33 e34 e35 e36 hJ
        -- at some 37 := Op.call { callee := Callee.value (Operand.func 112), args := #[Operand.tmp 34, Operand.tmp
        refine s_callf (hmk _) FnIs.out rfl (by decide) ?_
        rintro e_ w37 ⟨rfl, hb_⟩
        refine ⟨_, rfl, ?_⟩
        replace hh := hh.ext hb_
        refine wl_store hh (i := 0) (vs := [_, _, _]) rfl rfl rfl rfl TIs.out rfl (by simp) rfl ?_
        intro ws hh
        replace hh : Hp _ (.blk _ _ [_, _, _] _ :: _) _ := hh
        refine wl_end ?_
        refine wc_ret ?_
        -- at ('end', 'ret')
        refine retc1 (by first | exact .inr rfl | exact .inl rfl) rfl (r_cell rfl (lv_agg (vs := [_, _, _]) TIs.out (hh.rd_blk_at (i := 0) (n := 3) rfl rfl) rfl) r_nil) ?_
        exact ⟨rfl, hh.below⟩
theorem ySub_calls (a b : NR) (w : World) (ha : a.ok) (hb : b.ok) (hb' : (nR b.d).ok) :
    Calls Tryz.prog 131 #[.agg #[.bool a.neg, .string a.mag, .int .i64 a.e], .agg #[.bool b.neg, .string b.mag, .int .i64 b.e]] w fun r w' => r = .returned (.agg #[.bool (nR (a.d - b.d)).neg, .string (nR (a.d - b.d)).mag, .int .i64 (nR (a.d - b.d)).e]) ∧ Below w.heap.size w w' := by
  have hh := Hp.start w
  obtain ⟨hb1, hb2, hb3⟩ := hb
  obtain ⟨n1, n2⟩ := neg_bd b.d
  obtain ⟨o1, o2, o3⟩ := hb'
  have hp := fun w1 => yPlus_calls a (nR (-b.d)) w1 ha ⟨by rw [n1]; exact o1, by rw [n2]; exact o2, by rw [n2]; exact o3⟩
  rw [nR_d] at hp
  refine calls_vc (N := 9) (l := [.agg #[.bool a.neg, .string a.mag, .int .i64 a.e], .agg #[.bool b.neg, .string b.mag, .int .i64 b.e]]) Tryz.func131 rfl rfl (by simp) ?_
  refine wc_seq ?_
  refine wc_region ?_
  refine wl_box hh (cs := [_, _, _]) rfl rfl (by decide) ?_
  intro b2 w2 hh
  refine wl_box hh (cs := [_, _, _]) rfl rfl (by decide) ?_
  intro b3 w3 hh
  refine wl_alloc hh TIs.out (by decide) ?_
  intro b4 w4 hh
  refine wl_end ?_
  refine wc_seq ?_
  -- at the drawn region 1
  refine wc_drawn 3 [[(2, none)], [(3, none)], [(6, some 1)]] [(2, 7), (1, 6), (0, 5)] hh mixed (by kernel_rfl) ?_
  refine dx_val (i := 0) (fun ρ1 w1 hj hR => x_load (vs := [_, _, _]) TIs.out (show ρ1 2 = Value.pointer _ from hR.1) (hj.hp.rd_blk_at (i := 2) (n := 3) rfl rfl) rfl) ?_
  refine dx_val (i := 1) (fun ρ1 w1 hj hR => x_load (vs := [_, _, _]) TIs.out (show ρ1 3 = Value.pointer _ from hR.1) (hj.hp.rd_blk_at (i := 1) (n := 3) rfl rfl) rfl) ?_
  refine dx_call (i := 2) (fun ρ1 w1 hj hR => run_callf FnIs.out (evs_cons (show ρ1 6 = Value.agg (List.toArray _) from hR.1) evs_nil)) (fun w1 hj => yNeg_calls b _ (by omega) (by omega) (by omega)) ?_
  refine dx_nil ?_
  intro f W hJ hV
  have hb_1 := hJ.bl
  obtain ⟨v7, v6, v5, _⟩ := hV
  simp only [updL]
  have e5 : f 0 = _ := v5
  rw [e5]
  have e6 : f 1 = _ := v6
  rw [e6]
  have e7 : f 2 = _ := v7
  rw [e7]
  replace hh := hJ.hp
  clear e5 e6 e7 hJ
  -- at some 8 := Op.call { callee := Callee.value (Operand.func 104), args := #[Operand.tmp 5, Operand.tmp 
  refine s_callf (hp _) FnIs.out rfl (by decide) ?_
  rintro e_ w8 ⟨rfl, hb_⟩
  refine ⟨_, rfl, ?_⟩
  replace hh := hh.ext hb_
  refine wl_store hh (i := 0) (vs := [_, _, _]) rfl rfl rfl rfl TIs.out rfl (by simp) rfl ?_
  intro ws hh
  replace hh : Hp _ (.blk _ _ [_, _, _] _ :: _) _ := hh
  refine wl_end ?_
  refine wc_ret ?_
  -- at ('end', 'ret')
  refine retc1 (by first | exact .inr rfl | exact .inl rfl) rfl (r_cell rfl (lv_agg (vs := [_, _, _]) TIs.out (hh.rd_blk_at (i := 0) (n := 3) rfl rfl) rfl) r_nil) ?_
  exact ⟨rfl, hh.below⟩
theorem sub_sign (x y : Dyadic) : (nR (x - y)).i.sign = cmpD x y := by
  rw [NR.sign, nR_d]
  unfold cmpD
  have e1 : x - y < 0 ↔ x < y := by grind
  have e2 : 0 < x - y ↔ y < x := by grind
  simp only [e1, e2]
theorem yCmp_calls (a b : NR) (w : World) (ha : a.ok) (hb : b.ok) (hb' : (nR b.d).ok) (hs : (nR (a.d - b.d)).mag.size ≤ 10000000) :
    Calls Tryz.prog 90 #[.agg #[.bool a.neg, .string a.mag, .int .i64 a.e], .agg #[.bool b.neg, .string b.mag, .int .i64 b.e]] w fun r w' => r = .returned (.int .i64 (cmpD a.d b.d)) ∧ Below w.heap.size w w' := by
  have hh := Hp.start w
  refine calls_vc (N := 9) (l := [.agg #[.bool a.neg, .string a.mag, .int .i64 a.e], .agg #[.bool b.neg, .string b.mag, .int .i64 b.e]]) Tryz.func90 rfl rfl (by simp) ?_
  refine wc_seq ?_
  refine wc_region ?_
  refine wl_box hh (cs := [_, _, _]) rfl rfl (by decide) ?_
  intro b2 w2 hh
  refine wl_box hh (cs := [_, _, _]) rfl rfl (by decide) ?_
  intro b3 w3 hh
  refine s_assign (ev_int rfl) (by decide) ?_
  refine wl_end ?_
  refine wc_seq ?_
  refine wc_region ?_
  refine s_load (vs := [_, _, _]) TIs.out rfl (hh.rd_blk_at (i := 1) (n := 3) rfl rfl) rfl (by decide) ?_
  refine s_load (vs := [_, _, _]) TIs.out rfl (hh.rd_blk_at (i := 0) (n := 3) rfl rfl) rfl (by decide) ?_
  -- at some 7 := Op.call { callee := Callee.value (Operand.func 131), args := #[Operand.tmp 5, Operand.tmp 
  refine s_callf (ySub_calls a b _ ha hb hb') FnIs.out rfl (by decide) ?_
  rintro e_ w7 ⟨rfl, hb_⟩
  refine ⟨_, rfl, ?_⟩
  replace hh := hh.ext hb_
  -- at some 8 := Op.call { callee := Callee.value (Operand.func 130), args := #[Operand.tmp 7], argTypes :=
  refine s_callf (ySign_calls (nR (a.d - b.d)) _ hs) FnIs.out rfl (by decide) ?_
  rintro e_ w8 ⟨rfl, hb_⟩
  refine ⟨_, rfl, ?_⟩
  replace hh := hh.ext hb_
  rw [sub_sign]
  refine s_assign (ev_int rfl) (by decide) ?_
  refine wl_end ?_
  refine wc_ret ?_
  -- at ('end', 'ret')
  refine ret1 (by first | exact .inr rfl | exact .inl rfl) rfl (v_int rfl) ?_
  exact ⟨rfl, hh.below⟩
end Go.Proofs.YthmmofllajkejaaGreatDoor
