/- The walks through the program's whole numbers (whole). -/
import Derived.Test.YthmmofllajkejaaGreatDoorNatF
import Derived.Test.YthmmofllajkejaaGreatDoorDraw
namespace Go.Proofs.YthmmofllajkejaaGreatDoor
open Go.RowKit
-- umode
/-- A whole number's size and sign, and the one form of it. -/
def iv (s : Bool) (m : ByteArray) : Int := if s then -(bN m : Int) else bN m
def iN (z : Int) : Bool := decide (z < 0)
def iM (z : Int) : ByteArray := sN z.natAbs
theorem iv_of (z : Int) : iv (iN z) (iM z) = z := by
  unfold iv iN iM
  rw [bN_sN]
  by_cases h : z < 0
  · rw [decide_eq_true h, if_pos rfl]; omega
  · rw [decide_eq_false h, if_neg (by simp)]; omega
theorem iM_zero {z : Int} : iM z = ByteArray.mk #[] ↔ z = 0 := by
  rw [iM, ← sN_zero]
  constructor
  · intro h; have := sN_inj h; omega
  · intro h; rw [h]; rfl
theorem iv_abs (s : Bool) (m : ByteArray) : (iv s m).natAbs = bN m := by
  unfold iv; split <;> omega
theorem iM_iv (s : Bool) (m : ByteArray) : iM (iv s m) = sN (bN m) := by rw [iM, iv_abs]
theorem iN_iv (s : Bool) (m : ByteArray) : iN (iv s m) = (s && decide (bN m ≠ 0)) := by
  unfold iN iv
  rw [Bool.eq_iff_iff, Bool.and_eq_true, decide_eq_true_eq, decide_eq_true_eq]
  cases s
  · simp only [Bool.false_eq_true, if_false, false_and, iff_false]; omega
  · simp only [if_true, true_and]; omega
theorem wof_calls (s : Bool) (m : ByteArray) (w : World) :
    Calls Tryz.prog 117 #[.agg #[.bool s, .string m]] w fun e w' => e = .returned (.agg #[.string m, .bool s]) ∧ Below w.heap.size w w' := by
  have hh := Hp.start w
  refine calls_vc (N := 8) (l := [.agg #[.bool s, .string m]]) Tryz.func117 rfl rfl (by simp) ?_
  refine wc_seq ?_
  refine wc_region ?_
  refine wl_box hh (cs := [_, _]) rfl rfl (by decide) ?_
  intro b1 w1 hh
  refine wl_alloc hh TIs.out (by decide) ?_
  intro b2 w2 hh
  refine wl_end ?_
  refine wc_seq ?_
  refine wc_region ?_
  refine s_fieldAddr (off := 1) FIs.out rfl (by decide) ?_
  refine s_load1 TIs.out rfl (hh.cell_blk (i := 1) rfl rfl) (by decide) ?_
  refine s_fieldAddr (off := 0) FIs.out rfl (by decide) ?_
  refine s_load1 TIs.out rfl (hh.cell_blk (i := 1) rfl rfl) (by decide) ?_
  refine s_build (cs := [_, _]) TIs.out PIs.out rfl rfl (by decide) ?_
  refine wl_store hh (i := 0) (vs := [_, _]) rfl rfl rfl rfl TIs.out rfl (by simp) rfl ?_
  intro ws hh
  replace hh : Hp _ (.blk _ _ [_, _] _ :: _) _ := hh
  refine wl_end ?_
  refine wc_ret ?_
  -- at ('end', 'ret')
  refine retc1 (by first | exact .inr rfl | exact .inl rfl) rfl (r_cell rfl (lv_agg (vs := [_, _]) TIs.out (hh.rd_blk_at (i := 0) (n := 2) rfl rfl) rfl) r_nil) ?_
  exact ⟨rfl, hh.below⟩
theorem wmade_calls (s : Bool) (m : ByteArray) (w : World) :
    Calls Tryz.prog 118 #[.agg #[.string m, .bool s]] w fun e w' => e = .returned (.agg #[.bool (iN (iv s m)), .string (iM (iv s m))]) ∧ Below w.heap.size w w' := by
  have hh := Hp.start w
  rw [iN_iv, iM_iv]
  cases s with
  | false =>
    refine calls_vc (N := 15) (l := [.agg #[.string m, .bool false]]) Tryz.func118 rfl rfl (by simp) ?_
    refine wc_seq ?_
    refine wc_region ?_
    refine wl_box hh (cs := [_, _]) rfl rfl (by decide) ?_
    intro b1 w1 hh
    refine wl_alloc hh TIs.out (by decide) ?_
    intro b2 w2 hh
    refine wl_end ?_
    refine wc_seq ?_
    refine wc_region ?_
    refine s_fieldAddr (off := 0) FIs.out rfl (by decide) ?_
    refine s_load1 TIs.out rfl (hh.cell_blk (i := 1) rfl rfl) (by decide) ?_
    -- at some 6 := Op.call { callee := Callee.value (Operand.func 149), args := #[Operand.tmp 5], argTypes :=
    refine s_callf (natTrim_calls m _) FnIs.out rfl (by decide) ?_
    rintro e_ w6 ⟨rfl, hb_⟩
    refine ⟨_, rfl, ?_⟩
    replace hh := hh.ext hb_
    refine s_assign (ev_str rfl) (by decide) ?_
    refine wl_end ?_
    refine wc_seq ?_
    refine wc_region ?_
    refine s_fieldAddr (off := 1) FIs.out rfl (by decide) ?_
    refine s_load1 TIs.out rfl (hh.cell_blk (i := 1) rfl rfl) (by decide) ?_
    refine s_move (ev_bool rfl) (by decide) ?_
    first | (refine wl_guard_skip (by decide) rfl rfl (by decide) ?_) | (refine wl_guard_take rfl rfl ?_; (refine s_move (ev_str rfl) (by decide) ?_)) | (refine wl_guard_skipV (by decide) rfl rfl ?_)
    first | (refine wl_guard_skip (by decide) rfl rfl (by decide) ?_) | (refine wl_guard_take rfl rfl ?_; (first | refine s_neq_str_f rfl rfl (by first | rfl | assumption | decide) (by decide) ?_ | refine s_neq_str_t rfl rfl (by first | assumption | decide) (by decide) ?_)) | (refine wl_guard_skipV (by decide) rfl rfl ?_)
    first | refine s_pick_t rfl (ev_bool rfl) (by decide) ?_ | refine s_pick_f rfl (ev_bool rfl) (by decide) ?_
    refine s_move (ev_str rfl) (by decide) ?_
    refine s_build (cs := [_, _]) TIs.out PIs.out rfl rfl (by decide) ?_
    refine wl_store hh (i := 0) (vs := [_, _]) rfl rfl rfl rfl TIs.out rfl (by simp) rfl ?_
    intro ws hh
    replace hh : Hp _ (.blk _ _ [_, _] _ :: _) _ := hh
    refine wl_end ?_
    refine wc_ret ?_
    -- at ('end', 'ret')
    refine retc1 (by first | exact .inr rfl | exact .inl rfl) rfl (r_cell rfl (lv_agg (vs := [_, _]) TIs.out (hh.rd_blk_at (i := 0) (n := 2) rfl rfl) rfl) r_nil) ?_
    exact ⟨rfl, hh.below⟩
  | true =>
    by_cases h0 : sN (bN m) = ByteArray.mk #[]
    · refine calls_vc (N := 15) (l := [.agg #[.string m, .bool true]]) Tryz.func118 rfl rfl (by simp) ?_
      refine wc_seq ?_
      refine wc_region ?_
      refine wl_box hh (cs := [_, _]) rfl rfl (by decide) ?_
      intro b1 w1 hh
      refine wl_alloc hh TIs.out (by decide) ?_
      intro b2 w2 hh
      refine wl_end ?_
      refine wc_seq ?_
      refine wc_region ?_
      refine s_fieldAddr (off := 0) FIs.out rfl (by decide) ?_
      refine s_load1 TIs.out rfl (hh.cell_blk (i := 1) rfl rfl) (by decide) ?_
      -- at some 6 := Op.call { callee := Callee.value (Operand.func 149), args := #[Operand.tmp 5], argTypes :=
      refine s_callf (natTrim_calls m _) FnIs.out rfl (by decide) ?_
      rintro e_ w6 ⟨rfl, hb_⟩
      refine ⟨_, rfl, ?_⟩
      replace hh := hh.ext hb_
      refine s_assign (ev_str rfl) (by decide) ?_
      refine wl_end ?_
      refine wc_seq ?_
      refine wc_region ?_
      refine s_fieldAddr (off := 1) FIs.out rfl (by decide) ?_
      refine s_load1 TIs.out rfl (hh.cell_blk (i := 1) rfl rfl) (by decide) ?_
      refine s_move (ev_bool rfl) (by decide) ?_
      first | (refine wl_guard_skip (by decide) rfl rfl (by decide) ?_) | (refine wl_guard_take rfl rfl ?_; (refine s_move (ev_str rfl) (by decide) ?_)) | (refine wl_guard_skipV (by decide) rfl rfl ?_)
      first | (refine wl_guard_skip (by decide) rfl rfl (by decide) ?_) | (refine wl_guard_take rfl rfl ?_; (first | refine s_neq_str_f rfl rfl (by first | rfl | assumption | decide) (by decide) ?_ | refine s_neq_str_t rfl rfl (by first | assumption | decide) (by decide) ?_)) | (refine wl_guard_skipV (by decide) rfl rfl ?_)
      first | refine s_pick_t rfl (ev_bool rfl) (by decide) ?_ | refine s_pick_f rfl (ev_bool rfl) (by decide) ?_
      refine s_move (ev_str rfl) (by decide) ?_
      refine s_build (cs := [_, _]) TIs.out PIs.out rfl rfl (by decide) ?_
      refine wl_store hh (i := 0) (vs := [_, _]) rfl rfl rfl rfl TIs.out rfl (by simp) rfl ?_
      intro ws hh
      replace hh : Hp _ (.blk _ _ [_, _] _ :: _) _ := hh
      refine wl_end ?_
      refine wc_ret ?_
      -- at ('end', 'ret')
      refine retc1 (by first | exact .inr rfl | exact .inl rfl) rfl (r_cell rfl (lv_agg (vs := [_, _]) TIs.out (hh.rd_blk_at (i := 0) (n := 2) rfl rfl) rfl) r_nil) ?_
      have h1 : bN m = 0 := by rw [← sN_zero] at h0; exact sN_inj h0
      rw [decide_eq_false (by omega)]
      exact ⟨rfl, hh.below⟩
    · refine calls_vc (N := 15) (l := [.agg #[.string m, .bool true]]) Tryz.func118 rfl rfl (by simp) ?_
      refine wc_seq ?_
      refine wc_region ?_
      refine wl_box hh (cs := [_, _]) rfl rfl (by decide) ?_
      intro b1 w1 hh
      refine wl_alloc hh TIs.out (by decide) ?_
      intro b2 w2 hh
      refine wl_end ?_
      refine wc_seq ?_
      refine wc_region ?_
      refine s_fieldAddr (off := 0) FIs.out rfl (by decide) ?_
      refine s_load1 TIs.out rfl (hh.cell_blk (i := 1) rfl rfl) (by decide) ?_
      -- at some 6 := Op.call { callee := Callee.value (Operand.func 149), args := #[Operand.tmp 5], argTypes :=
      refine s_callf (natTrim_calls m _) FnIs.out rfl (by decide) ?_
      rintro e_ w6 ⟨rfl, hb_⟩
      refine ⟨_, rfl, ?_⟩
      replace hh := hh.ext hb_
      refine s_assign (ev_str rfl) (by decide) ?_
      refine wl_end ?_
      refine wc_seq ?_
      refine wc_region ?_
      refine s_fieldAddr (off := 1) FIs.out rfl (by decide) ?_
      refine s_load1 TIs.out rfl (hh.cell_blk (i := 1) rfl rfl) (by decide) ?_
      refine s_move (ev_bool rfl) (by decide) ?_
      first | (refine wl_guard_skip (by decide) rfl rfl (by decide) ?_) | (refine wl_guard_take rfl rfl ?_; (refine s_move (ev_str rfl) (by decide) ?_)) | (refine wl_guard_skipV (by decide) rfl rfl ?_)
      first | (refine wl_guard_skip (by decide) rfl rfl (by decide) ?_) | (refine wl_guard_take rfl rfl ?_; (first | refine s_neq_str_f rfl rfl (by first | rfl | assumption | decide) (by decide) ?_ | refine s_neq_str_t rfl rfl (by first | assumption | decide) (by decide) ?_)) | (refine wl_guard_skipV (by decide) rfl rfl ?_)
      first | refine s_pick_t rfl (ev_bool rfl) (by decide) ?_ | refine s_pick_f rfl (ev_bool rfl) (by decide) ?_
      refine s_move (ev_str rfl) (by decide) ?_
      refine s_build (cs := [_, _]) TIs.out PIs.out rfl rfl (by decide) ?_
      refine wl_store hh (i := 0) (vs := [_, _]) rfl rfl rfl rfl TIs.out rfl (by simp) rfl ?_
      intro ws hh
      replace hh : Hp _ (.blk _ _ [_, _] _ :: _) _ := hh
      refine wl_end ?_
      refine wc_ret ?_
      -- at ('end', 'ret')
      refine retc1 (by first | exact .inr rfl | exact .inl rfl) rfl (r_cell rfl (lv_agg (vs := [_, _]) TIs.out (hh.rd_blk_at (i := 0) (n := 2) rfl rfl) rfl) r_nil) ?_
      have h1 : bN m ≠ 0 := fun h => h0 (by rw [h, sN_zero])
      rw [decide_eq_true h1]
      exact ⟨rfl, hh.below⟩
/-- A whole number, and its pair's value. -/
def numV (s : Bool) (m : ByteArray) : Value := .agg #[.string m, .bool s]
theorem wcmp_calls (a b : ByteArray) (w : World) (ha : a.size ≤ 1000000000) (hb : b.size ≤ 1000000000) :
    Calls Tryz.prog 147 #[.string a, .string b] w fun e w' => e = .returned (.int .i64 (cmpN (bN a) (bN b))) ∧ Below w.heap.size w w' := by
  have hh := Hp.start w
  refine calls_vc (N := 8) (l := [.string a, .string b]) Tryz.func147 rfl rfl (by simp) ?_
  refine wc_seq ?_
  refine wc_region ?_
  refine s_assign (ev_int rfl) (by decide) ?_
  refine wl_end ?_
  refine wc_seq ?_
  refine wc_region ?_
  refine s_move (ev_str rfl) (by decide) ?_
  refine s_move (ev_str rfl) (by decide) ?_
  -- at some 7 := Op.call { callee := Callee.value (Operand.func 167), args := #[Operand.tmp 5, Operand.tmp 
  refine s_callf (natCmp_calls a b _ ha hb) FnIs.out rfl (by decide) ?_
  rintro e_ w7 ⟨rfl, hb_⟩
  refine ⟨_, rfl, ?_⟩
  replace hh := hh.ext hb_
  refine s_assign (ev_int rfl) (by decide) ?_
  refine wl_end ?_
  refine wc_ret ?_
  -- at ('end', 'ret')
  refine ret1 (by first | exact .inr rfl | exact .inl rfl) rfl (v_int rfl) ?_
  exact ⟨rfl, hh.below⟩
theorem wform_calls (s : Bool) (m : ByteArray) (w : World) :
    Calls Tryz.prog 120 #[.agg #[.bool s, .string m]] w fun e w' => e = .returned (.agg #[.bool (iN (iv s m)), .string (iM (iv s m))]) ∧ Below w.heap.size w w' := by
  have hh := Hp.start w
  refine calls_vc (N := 6) (l := [.agg #[.bool s, .string m]]) Tryz.func120 rfl rfl (by simp) ?_
  refine wc_seq ?_
  refine wc_region ?_
  refine wl_box hh (cs := [_, _]) rfl rfl (by decide) ?_
  intro b1 w1 hh
  refine wl_alloc hh TIs.out (by decide) ?_
  intro b2 w2 hh
  refine wl_end ?_
  refine wc_seq ?_
  refine wc_region ?_
  refine s_load (vs := [_, _]) TIs.out rfl (hh.rd_blk_at (i := 1) (n := 2) rfl rfl) rfl (by decide) ?_
  -- at some 4 := Op.call { callee := Callee.value (Operand.func 117), args := #[Operand.tmp 3], argTypes :=
  refine s_callf (wof_calls s m _) FnIs.out rfl (by decide) ?_
  rintro e_ w4 ⟨rfl, hb_⟩
  refine ⟨_, rfl, ?_⟩
  replace hh := hh.ext hb_
  -- at some 5 := Op.call { callee := Callee.value (Operand.func 118), args := #[Operand.tmp 4], argTypes :=
  refine s_callf (wmade_calls s m _) FnIs.out rfl (by decide) ?_
  rintro e_ w5 ⟨rfl, hb_⟩
  refine ⟨_, rfl, ?_⟩
  replace hh := hh.ext hb_
  refine wl_store hh (i := 0) (vs := [_, _]) rfl rfl rfl rfl TIs.out rfl (by simp) rfl ?_
  intro ws hh
  replace hh : Hp _ (.blk _ _ [_, _] _ :: _) _ := hh
  refine wl_end ?_
  refine wc_ret ?_
  -- at ('end', 'ret')
  refine retc1 (by first | exact .inr rfl | exact .inl rfl) rfl (r_cell rfl (lv_agg (vs := [_, _]) TIs.out (hh.rd_blk_at (i := 0) (n := 2) rfl rfl) rfl) r_nil) ?_
  exact ⟨rfl, hh.below⟩
theorem wneg_calls (s : Bool) (m : ByteArray) (w : World) :
    Calls Tryz.prog 121 #[.agg #[.bool s, .string m]] w fun e w' => e = .returned (.agg #[.bool (iN (-(iv s m))), .string (iM (-(iv s m)))]) ∧ Below w.heap.size w w' := by
  have hh := Hp.start w
  have e1 : iv (!s) m = -(iv s m) := by unfold iv; cases s <;> simp
  refine calls_vc (N := 10) (l := [.agg #[.bool s, .string m]]) Tryz.func121 rfl rfl (by simp) ?_
  refine wc_seq ?_
  refine wc_region ?_
  refine wl_box hh (cs := [_, _]) rfl rfl (by decide) ?_
  intro b1 w1 hh
  refine wl_alloc hh TIs.out (by decide) ?_
  intro b2 w2 hh
  refine wl_end ?_
  refine wc_seq ?_
  refine wc_region ?_
  refine s_fieldAddr (off := 1) FIs.out rfl (by decide) ?_
  refine s_load1 TIs.out rfl (hh.cell_blk (i := 1) rfl rfl) (by decide) ?_
  refine s_fieldAddr (off := 0) FIs.out rfl (by decide) ?_
  refine s_load1 TIs.out rfl (hh.cell_blk (i := 1) rfl rfl) (by decide) ?_
  refine s_not rfl (by decide) ?_
  refine s_build (cs := [_, _]) TIs.out PIs.out rfl rfl (by decide) ?_
  -- at some 9 := Op.call { callee := Callee.value (Operand.func 118), args := #[Operand.tmp 8], argTypes :=
  refine s_callf (wmade_calls (!s) m _) FnIs.out rfl (by decide) ?_
  rintro e_ w9 ⟨rfl, hb_⟩
  refine ⟨_, rfl, ?_⟩
  replace hh := hh.ext hb_
  rw [e1]
  refine wl_store hh (i := 0) (vs := [_, _]) rfl rfl rfl rfl TIs.out rfl (by simp) rfl ?_
  intro ws hh
  replace hh : Hp _ (.blk _ _ [_, _] _ :: _) _ := hh
  refine wl_end ?_
  refine wc_ret ?_
  -- at ('end', 'ret')
  refine retc1 (by first | exact .inr rfl | exact .inl rfl) rfl (r_cell rfl (lv_agg (vs := [_, _]) TIs.out (hh.rd_blk_at (i := 0) (n := 2) rfl rfl) rfl) r_nil) ?_
  exact ⟨rfl, hh.below⟩
theorem wsign_calls (s : Bool) (m : ByteArray) (w : World) :
    Calls Tryz.prog 68 #[.agg #[.bool s, .string m]] w fun e w' => e = .returned (.int .i64 (iv s m).sign) ∧ Below w.heap.size w w' := by
  have hh := Hp.start w
  by_cases h1 : iv s m < 0
  · have hn : iN (iv s m) = true := decide_eq_true h1
    refine calls_vc (N := 13) (l := [.agg #[.bool s, .string m]]) Tryz.func68 rfl rfl (by simp) ?_
    refine wc_seq ?_
    refine wc_region ?_
    refine wl_box hh (cs := [_, _]) rfl rfl (by decide) ?_
    intro b1 w1 hh
    refine s_assign (ev_int rfl) (by decide) ?_
    refine wl_end ?_
    refine wc_seq ?_
    refine wc_region ?_
    refine s_load (vs := [_, _]) TIs.out rfl (hh.rd_blk_at (i := 0) (n := 2) rfl rfl) rfl (by decide) ?_
    -- at some 5 := Op.call { callee := Callee.value (Operand.func 120), args := #[Operand.tmp 4], argTypes :=
    refine s_callf (wform_calls s m _) FnIs.out rfl (by decide) ?_
    rintro e_ w5 ⟨rfl, hb_⟩
    refine ⟨_, rfl, ?_⟩
    replace hh := hh.ext hb_
    rw [hn]
    refine wl_alloc hh TIs.out (by decide) ?_
    intro b3 w3 hh
    refine wl_store hh (i := 0) (vs := [_, _]) rfl rfl rfl rfl TIs.out rfl (by simp) rfl ?_
    intro ws hh
    replace hh : Hp _ (.blk _ _ [_, _] _ :: _) _ := hh
    refine wl_end ?_
    refine wc_seq ?_
    refine wc_block ?_
    refine wc_seq ?_
    refine wc_region ?_
    refine s_fieldAddr (off := 0) FIs.out rfl (by decide) ?_
    refine s_load1 TIs.out rfl (hh.cell_blk (i := 0) rfl rfl) (by decide) ?_
    refine s_assign (ev_bool rfl) (by decide) ?_
    refine wl_end ?_
    refine wc_cond_t rfl ?_
    refine wc_seq ?_
    refine wc_region ?_
    refine s_assign (ev_int rfl) (by decide) ?_
    refine wl_end ?_
    refine wc_ret ?_
    refine b_ret ?_
    refine k_ret ?_
    -- at ('end', 'ret')
    refine ret1 (by first | exact .inr rfl | exact .inl rfl) rfl (v_int rfl) ?_
    exact ⟨by rw [Int.sign_eq_neg_one_of_neg h1], hh.below⟩
  · have hn : iN (iv s m) = false := decide_eq_false h1
    by_cases h0 : iM (iv s m) = ByteArray.mk #[]
    · refine calls_vc (N := 13) (l := [.agg #[.bool s, .string m]]) Tryz.func68 rfl rfl (by simp) ?_
      refine wc_seq ?_
      refine wc_region ?_
      refine wl_box hh (cs := [_, _]) rfl rfl (by decide) ?_
      intro b1 w1 hh
      refine s_assign (ev_int rfl) (by decide) ?_
      refine wl_end ?_
      refine wc_seq ?_
      refine wc_region ?_
      refine s_load (vs := [_, _]) TIs.out rfl (hh.rd_blk_at (i := 0) (n := 2) rfl rfl) rfl (by decide) ?_
      -- at some 5 := Op.call { callee := Callee.value (Operand.func 120), args := #[Operand.tmp 4], argTypes :=
      refine s_callf (wform_calls s m _) FnIs.out rfl (by decide) ?_
      rintro e_ w5 ⟨rfl, hb_⟩
      refine ⟨_, rfl, ?_⟩
      replace hh := hh.ext hb_
      rw [hn]
      refine wl_alloc hh TIs.out (by decide) ?_
      intro b3 w3 hh
      refine wl_store hh (i := 0) (vs := [_, _]) rfl rfl rfl rfl TIs.out rfl (by simp) rfl ?_
      intro ws hh
      replace hh : Hp _ (.blk _ _ [_, _] _ :: _) _ := hh
      refine wl_end ?_
      refine wc_seq ?_
      refine wc_block ?_
      refine wc_seq ?_
      refine wc_region ?_
      refine s_fieldAddr (off := 0) FIs.out rfl (by decide) ?_
      refine s_load1 TIs.out rfl (hh.cell_blk (i := 0) rfl rfl) (by decide) ?_
      refine s_assign (ev_bool rfl) (by decide) ?_
      refine wl_end ?_
      refine wc_cond_f rfl ?_
      refine wc_seq ?_
      refine wc_region ?_
      refine s_fieldAddr (off := 1) FIs.out rfl (by decide) ?_
      refine s_load1 TIs.out rfl (hh.cell_blk (i := 0) rfl rfl) (by decide) ?_
      first | refine s_eql_str_t rfl rfl (by first | rfl | assumption | decide) (by decide) ?_ | refine s_eql_str_f rfl rfl (by first | assumption | decide) (by decide) ?_
      refine s_assign (ev_bool rfl) (by decide) ?_
      refine wl_end ?_
      refine wc_cond_t rfl ?_
      refine wc_seq ?_
      refine wc_region ?_
      refine s_assign (ev_int rfl) (by decide) ?_
      refine wl_end ?_
      refine wc_ret ?_
      refine b_ret ?_
      refine k_ret ?_
      -- at ('end', 'ret')
      refine ret1 (by first | exact .inr rfl | exact .inl rfl) rfl (v_int rfl) ?_
      exact ⟨by rw [iM_zero.1 h0]; rfl, hh.below⟩
    · have h2 : 0 < iv s m := by
        have : iv s m ≠ 0 := fun h => h0 (iM_zero.2 h)
        omega
      refine calls_vc (N := 13) (l := [.agg #[.bool s, .string m]]) Tryz.func68 rfl rfl (by simp) ?_
      refine wc_seq ?_
      refine wc_region ?_
      refine wl_box hh (cs := [_, _]) rfl rfl (by decide) ?_
      intro b1 w1 hh
      refine s_assign (ev_int rfl) (by decide) ?_
      refine wl_end ?_
      refine wc_seq ?_
      refine wc_region ?_
      refine s_load (vs := [_, _]) TIs.out rfl (hh.rd_blk_at (i := 0) (n := 2) rfl rfl) rfl (by decide) ?_
      -- at some 5 := Op.call { callee := Callee.value (Operand.func 120), args := #[Operand.tmp 4], argTypes :=
      refine s_callf (wform_calls s m _) FnIs.out rfl (by decide) ?_
      rintro e_ w5 ⟨rfl, hb_⟩
      refine ⟨_, rfl, ?_⟩
      replace hh := hh.ext hb_
      rw [hn]
      refine wl_alloc hh TIs.out (by decide) ?_
      intro b3 w3 hh
      refine wl_store hh (i := 0) (vs := [_, _]) rfl rfl rfl rfl TIs.out rfl (by simp) rfl ?_
      intro ws hh
      replace hh : Hp _ (.blk _ _ [_, _] _ :: _) _ := hh
      refine wl_end ?_
      refine wc_seq ?_
      refine wc_block ?_
      refine wc_seq ?_
      refine wc_region ?_
      refine s_fieldAddr (off := 0) FIs.out rfl (by decide) ?_
      refine s_load1 TIs.out rfl (hh.cell_blk (i := 0) rfl rfl) (by decide) ?_
      refine s_assign (ev_bool rfl) (by decide) ?_
      refine wl_end ?_
      refine wc_cond_f rfl ?_
      refine wc_seq ?_
      refine wc_region ?_
      refine s_fieldAddr (off := 1) FIs.out rfl (by decide) ?_
      refine s_load1 TIs.out rfl (hh.cell_blk (i := 0) rfl rfl) (by decide) ?_
      first | refine s_eql_str_t rfl rfl (by first | rfl | assumption | decide) (by decide) ?_ | refine s_eql_str_f rfl rfl (by first | assumption | decide) (by decide) ?_
      refine s_assign (ev_bool rfl) (by decide) ?_
      refine wl_end ?_
      refine wc_cond_f rfl ?_
      refine wc_skip ?_
      refine b_norm ?_
      refine k_then ?_
      refine wc_seq ?_
      refine wc_region ?_
      refine s_assign (ev_int rfl) (by decide) ?_
      refine wl_end ?_
      refine wc_ret ?_
      -- at ('end', 'ret')
      refine ret1 (by first | exact .inr rfl | exact .inl rfl) rfl (v_int rfl) ?_
      exact ⟨by rw [Int.sign_eq_one_of_pos h2], hh.below⟩
theorem iM_size (z : Int) : (iM z).size = (blen z.natAbs + 7) / 8 := sN_size _
theorem sum2 (a b : ByteArray) : ([a, b].map bN).sum = bN a + bN b := by simp
def plusU (s t : Bool) (a b : ByteArray) : Bool := if s = t then s else if bN a < bN b then t else s
theorem iv_plus (s t : Bool) (a b : ByteArray) : iv (plusU s t a b) (iM (iv s a + iv t b)) = iv s a + iv t b := by
  unfold iM iv
  rw [bN_sN]
  unfold plusU
  cases s <;> cases t <;> simp <;> (try split) <;> (try simp) <;> omega
theorem iv_times (s t : Bool) (a b : ByteArray) : iv (s != t) (iM (iv s a * iv t b)) = iv s a * iv t b := by
  rw [iM, Int.natAbs_mul, iv_abs, iv_abs]
  unfold iv
  rw [bN_sN]
  cases s <;> cases t <;> simp [Int.mul_neg, Int.neg_mul]
theorem wplus_calls (s t : Bool) (a b : ByteArray) (w : World) (ha : a.size ≤ 1000000000) (hb : b.size ≤ 1000000000) :
    Calls Tryz.prog 116 #[.agg #[.string a, .bool s], .agg #[.string b, .bool t]] w fun e w' => e = .returned (.agg #[.string (iM (iv s a + iv t b)), .bool (plusU s t a b)]) ∧ Below w.heap.size w w' := by
  have hh := Hp.start w
  have hiv : ∀ (u : Bool) (n : Nat) (z : Int), (z = if u then -(n : Int) else n) → sN n = iM z := by
    intro u n z hz
    have h1 : z.natAbs = n := by rw [hz]; split <;> omega
    rw [iM, h1]
  by_cases hst : s = t
  · subst hst
    have e1 := hiv s (bN a + bN b) (iv s a + iv s b) (by unfold iv; split <;> omega)
    refine calls_vc (N := 41) (l := [.agg #[.string a, .bool s], .agg #[.string b, .bool s]]) Tryz.func116 rfl rfl (by simp) ?_
    refine wc_seq ?_
    refine wc_region ?_
    refine wl_box hh (cs := [_, _]) rfl rfl (by decide) ?_
    intro b2 w2 hh
    refine wl_box hh (cs := [_, _]) rfl rfl (by decide) ?_
    intro b3 w3 hh
    refine wl_alloc hh TIs.out (by decide) ?_
    intro b4 w4 hh
    refine wl_end ?_
    refine wc_seq ?_
    refine wc_seq ?_
    refine wc_region ?_
    refine s_fieldAddr (off := 1) FIs.out rfl (by decide) ?_
    refine s_load1 TIs.out rfl (hh.cell_blk (i := 2) rfl rfl) (by decide) ?_
    refine s_fieldAddr (off := 1) FIs.out rfl (by decide) ?_
    refine s_load1 TIs.out rfl (hh.cell_blk (i := 1) rfl rfl) (by decide) ?_
    first | refine s_eqb_t UIs.out rfl rfl (by first | rfl | assumption) (by decide) ?_ | refine s_eqb_f UIs.out rfl rfl (by first | rfl | assumption | decide) (by decide) ?_ | refine s_eql_bool UIs.out rfl rfl (by decide) ?_
    refine wl_end ?_
    refine wc_cond_t rfl ?_
    refine wc_seq ?_
    -- at the drawn region 2
    refine wc_drawn 8 [[(2, none)], [(12, some 0)], [(3, none)], [(14, some 2)], [(13, some 1), (15, some 3)], [(16, some 4)], [(2, none)], [(18, some 6)]] [(7, 19), (6, 18), (5, 17), (4, 16), (3, 15), (2, 14), (1, 13), (0, 12)] hh mixed (by kernel_rfl) ?_
    refine dx_val (i := 0) (fun ρ1 w1 hj hR => x_fieldAddr (off := 0) FIs.out (show ρ1 2 = Value.pointer _ from hR.1)) ?_
    refine dx_val (i := 1) (fun ρ1 w1 hj hR => x_load1 TIs.out (show ρ1 12 = Value.pointer _ from hR.1) (hj.hp.cell_blk (i := 2) rfl rfl)) ?_
    refine dx_val (i := 2) (fun ρ1 w1 hj hR => x_fieldAddr (off := 0) FIs.out (show ρ1 3 = Value.pointer _ from hR.1)) ?_
    refine dx_val (i := 3) (fun ρ1 w1 hj hR => x_load1 TIs.out (show ρ1 14 = Value.pointer _ from hR.1) (hj.hp.cell_blk (i := 1) rfl rfl)) ?_
    refine dx_buildSlice (i := 4) (cs := [_, _]) UIs.out TIs.out (fun ρ1 w1 hj hR => (evp_cons (show ρ1 13 = Value.string _ from hR.1) (evp_cons (show ρ1 15 = Value.string _ from hR.2.1) evp_nil))) rfl rfl (by decide) (by decide) rfl ?_
    refine dx_gen (i := 5) (Is (.string (sN (bN a + bN b)))) Is.ext ?_ ?_
    · intro ρ1 w1 hj hR
      obtain ⟨A16, c16, h16, s16⟩ := hR.1
      exact og_enter rfl (run_callf FnIs.out (evs_cons h16 evs_nil)) (natAdd_calls A16 2 c16 [a, b] _ s16 (by omega) (by simp; omega)) (fun _ _ hq => ⟨_, hq.1, hq.2, rfl⟩)
    refine dx_val (i := 6) (fun ρ1 w1 hj hR => x_fieldAddr (off := 1) FIs.out (show ρ1 2 = Value.pointer _ from hR.1)) ?_
    refine dx_val (i := 7) (fun ρ1 w1 hj hR => x_load1 TIs.out (show ρ1 18 = Value.pointer _ from hR.1) (hj.hp.cell_blk (i := 2) rfl rfl)) ?_
    refine dx_nil ?_
    intro f W hJ hV
    have hb_2 := hJ.bl
    obtain ⟨v19, v18, v17, v16, v15, v14, v13, v12, _⟩ := hV
    simp only [updL]
    have e12 : f 0 = _ := v12
    rw [e12]
    have e13 : f 1 = _ := v13
    rw [e13]
    have e14 : f 2 = _ := v14
    rw [e14]
    have e15 : f 3 = _ := v15
    rw [e15]
    obtain ⟨A16, c16, e16, f16⟩ : Rows _ _ _ (f 4) W := v16
    rw [e16]
    have e17 : f 5 = _ := v17
    rw [e17]
    have e18 : f 6 = _ := v18
    rw [e18]
    have e19 : f 7 = _ := v19
    rw [e19]
    replace hh := hJ.hp
    clear e12 e13 e14 e15 e16 e17 e18 e19 hJ
    refine s_build (cs := [_, _]) TIs.out PIs.out rfl rfl (by decide) ?_
    refine wl_store hh (i := 0) (vs := [_, _]) rfl rfl rfl rfl TIs.out rfl (by simp) rfl ?_
    intro ws hh
    replace hh : Hp _ (.blk _ _ [_, _] _ :: _) _ := hh
    refine wl_end ?_
    refine wc_ret ?_
    refine k_ret ?_
    -- at ('end', 'ret')
    refine retc1 (by first | exact .inr rfl | exact .inl rfl) rfl (r_cell rfl (lv_agg (vs := [_, _]) TIs.out (hh.rd_blk_at (i := 0) (n := 2) rfl rfl) rfl) r_nil) ?_
    rw [e1, plusU, if_pos rfl]
    exact ⟨rfl, hh.below⟩
  · by_cases hlt : bN a < bN b
    · have e1 := hiv t (bN b - bN a) (iv s a + iv t b) (by unfold iv; cases s <;> cases t <;> simp at hst ⊢ <;> omega)
      refine calls_vc (N := 41) (l := [.agg #[.string a, .bool s], .agg #[.string b, .bool t]]) Tryz.func116 rfl rfl (by simp) ?_
      refine wc_seq ?_
      refine wc_region ?_
      refine wl_box hh (cs := [_, _]) rfl rfl (by decide) ?_
      intro b2 w2 hh
      refine wl_box hh (cs := [_, _]) rfl rfl (by decide) ?_
      intro b3 w3 hh
      refine wl_alloc hh TIs.out (by decide) ?_
      intro b4 w4 hh
      refine wl_end ?_
      refine wc_seq ?_
      refine wc_seq ?_
      refine wc_region ?_
      refine s_fieldAddr (off := 1) FIs.out rfl (by decide) ?_
      refine s_load1 TIs.out rfl (hh.cell_blk (i := 2) rfl rfl) (by decide) ?_
      refine s_fieldAddr (off := 1) FIs.out rfl (by decide) ?_
      refine s_load1 TIs.out rfl (hh.cell_blk (i := 1) rfl rfl) (by decide) ?_
      first | refine s_eqb_t UIs.out rfl rfl (by first | rfl | assumption) (by decide) ?_ | refine s_eqb_f UIs.out rfl rfl (by first | rfl | assumption | decide) (by decide) ?_ | refine s_eql_bool UIs.out rfl rfl (by decide) ?_
      refine wl_end ?_
      refine wc_cond_f rfl ?_
      refine wc_skip ?_
      refine k_then ?_
      refine wc_seq ?_
      refine wc_seq ?_
      refine wc_region ?_
      refine s_fieldAddr (off := 0) FIs.out rfl (by decide) ?_
      refine s_load1 TIs.out rfl (hh.cell_blk (i := 2) rfl rfl) (by decide) ?_
      refine s_fieldAddr (off := 0) FIs.out rfl (by decide) ?_
      refine s_load1 TIs.out rfl (hh.cell_blk (i := 1) rfl rfl) (by decide) ?_
      -- at some 25 := Op.call { callee := Callee.value (Operand.func 147), args := #[Operand.tmp 22, Operand.tmp
      refine s_callf (wcmp_calls a b _ ha hb) FnIs.out rfl (by decide) ?_
      rintro e_ w25 ⟨rfl, hb_⟩
      refine ⟨_, rfl, ?_⟩
      replace hh := hh.ext hb_
      rw [cmpN_lt hlt]
      first | refine s_lss_t rfl rfl (by omega) (by decide) ?_ | refine s_lss_f rfl rfl (by omega) (by decide) ?_ | refine s_lss_v rfl rfl (by decide) ?_
      refine wl_end ?_
      refine wc_cond_t rfl ?_
      refine wc_region ?_
      refine s_load (vs := [_, _]) TIs.out rfl (hh.rd_blk_at (i := 1) (n := 2) rfl rfl) rfl (by decide) ?_
      refine s_load (vs := [_, _]) TIs.out rfl (hh.rd_blk_at (i := 2) (n := 2) rfl rfl) rfl (by decide) ?_
      refine wl_store hh (i := 2) (vs := [_, _]) rfl rfl rfl rfl TIs.out rfl (by simp) rfl ?_
      intro ws hh
      replace hh : Hp _ (_ :: _ :: .blk _ _ [_, _] _ :: _) _ := hh
      refine wl_store hh (i := 1) (vs := [_, _]) rfl rfl rfl rfl TIs.out rfl (by simp) rfl ?_
      intro ws hh
      replace hh : Hp _ (_ :: .blk _ _ [_, _] _ :: _) _ := hh
      refine wl_end ?_
      refine wc_seq ?_
      refine wc_region ?_
      refine s_fieldAddr (off := 0) FIs.out rfl (by decide) ?_
      refine s_load1 TIs.out rfl (hh.cell_blk (i := 2) rfl rfl) (by decide) ?_
      refine s_fieldAddr (off := 0) FIs.out rfl (by decide) ?_
      refine s_load1 TIs.out rfl (hh.cell_blk (i := 1) rfl rfl) (by decide) ?_
      -- at some 34 := Op.call { callee := Callee.value (Operand.func 148), args := #[Operand.tmp 31, Operand.tmp
      refine s_callf (natSub_calls b a _ hb ha) FnIs.out rfl (by decide) ?_
      rintro e_ w34 ⟨rfl, hb_⟩
      refine ⟨_, rfl, ?_⟩
      replace hh := hh.ext hb_
      refine s_move (ev_tup rfl) (by decide) ?_
      refine s_extract rfl rfl (by decide) ?_
      refine s_extract rfl rfl (by decide) ?_
      refine s_assign (ev_str rfl) (by decide) ?_
      refine s_assign (ev_bool rfl) (by decide) ?_
      refine wl_end ?_
      refine wc_seq ?_
      refine wc_region ?_
      refine s_move (ev_str rfl) (by decide) ?_
      refine s_fieldAddr (off := 1) FIs.out rfl (by decide) ?_
      refine s_load1 TIs.out rfl (hh.cell_blk (i := 2) rfl rfl) (by decide) ?_
      refine s_build (cs := [_, _]) TIs.out PIs.out rfl rfl (by decide) ?_
      refine wl_store hh (i := 0) (vs := [_, _]) rfl rfl rfl rfl TIs.out rfl (by simp) rfl ?_
      intro ws hh
      replace hh : Hp _ (.blk _ _ [_, _] _ :: _) _ := hh
      refine wl_end ?_
      refine wc_ret ?_
      -- at ('end', 'ret')
      refine retc1 (by first | exact .inr rfl | exact .inl rfl) rfl (r_cell rfl (lv_agg (vs := [_, _]) TIs.out (hh.rd_blk_at (i := 0) (n := 2) rfl rfl) rfl) r_nil) ?_
      rw [e1, plusU, if_neg hst, if_pos hlt]
      exact ⟨rfl, hh.below⟩
    · have e1 := hiv s (bN a - bN b) (iv s a + iv t b) (by unfold iv; cases s <;> cases t <;> simp at hst ⊢ <;> omega)
      have hc : ¬ cmpN (bN a) (bN b) < 0 := by unfold cmpN; split <;> (try split) <;> omega
      refine calls_vc (N := 41) (l := [.agg #[.string a, .bool s], .agg #[.string b, .bool t]]) Tryz.func116 rfl rfl (by simp) ?_
      refine wc_seq ?_
      refine wc_region ?_
      refine wl_box hh (cs := [_, _]) rfl rfl (by decide) ?_
      intro b2 w2 hh
      refine wl_box hh (cs := [_, _]) rfl rfl (by decide) ?_
      intro b3 w3 hh
      refine wl_alloc hh TIs.out (by decide) ?_
      intro b4 w4 hh
      refine wl_end ?_
      refine wc_seq ?_
      refine wc_seq ?_
      refine wc_region ?_
      refine s_fieldAddr (off := 1) FIs.out rfl (by decide) ?_
      refine s_load1 TIs.out rfl (hh.cell_blk (i := 2) rfl rfl) (by decide) ?_
      refine s_fieldAddr (off := 1) FIs.out rfl (by decide) ?_
      refine s_load1 TIs.out rfl (hh.cell_blk (i := 1) rfl rfl) (by decide) ?_
      first | refine s_eqb_t UIs.out rfl rfl (by first | rfl | assumption) (by decide) ?_ | refine s_eqb_f UIs.out rfl rfl (by first | rfl | assumption | decide) (by decide) ?_ | refine s_eql_bool UIs.out rfl rfl (by decide) ?_
      refine wl_end ?_
      refine wc_cond_f rfl ?_
      refine wc_skip ?_
      refine k_then ?_
      refine wc_seq ?_
      refine wc_seq ?_
      refine wc_region ?_
      refine s_fieldAddr (off := 0) FIs.out rfl (by decide) ?_
      refine s_load1 TIs.out rfl (hh.cell_blk (i := 2) rfl rfl) (by decide) ?_
      refine s_fieldAddr (off := 0) FIs.out rfl (by decide) ?_
      refine s_load1 TIs.out rfl (hh.cell_blk (i := 1) rfl rfl) (by decide) ?_
      -- at some 25 := Op.call { callee := Callee.value (Operand.func 147), args := #[Operand.tmp 22, Operand.tmp
      refine s_callf (wcmp_calls a b _ ha hb) FnIs.out rfl (by decide) ?_
      rintro e_ w25 ⟨rfl, hb_⟩
      refine ⟨_, rfl, ?_⟩
      replace hh := hh.ext hb_
      first | refine s_lss_t rfl rfl (by omega) (by decide) ?_ | refine s_lss_f rfl rfl (by omega) (by decide) ?_ | refine s_lss_v rfl rfl (by decide) ?_
      refine wl_end ?_
      refine wc_cond_f rfl ?_
      refine wc_skip ?_
      refine k_then ?_
      refine wc_seq ?_
      refine wc_region ?_
      refine s_fieldAddr (off := 0) FIs.out rfl (by decide) ?_
      refine s_load1 TIs.out rfl (hh.cell_blk (i := 2) rfl rfl) (by decide) ?_
      refine s_fieldAddr (off := 0) FIs.out rfl (by decide) ?_
      refine s_load1 TIs.out rfl (hh.cell_blk (i := 1) rfl rfl) (by decide) ?_
      -- at some 34 := Op.call { callee := Callee.value (Operand.func 148), args := #[Operand.tmp 31, Operand.tmp
      refine s_callf (natSub_calls a b _ ha hb) FnIs.out rfl (by decide) ?_
      rintro e_ w34 ⟨rfl, hb_⟩
      refine ⟨_, rfl, ?_⟩
      replace hh := hh.ext hb_
      refine s_move (ev_tup rfl) (by decide) ?_
      refine s_extract rfl rfl (by decide) ?_
      refine s_extract rfl rfl (by decide) ?_
      refine s_assign (ev_str rfl) (by decide) ?_
      refine s_assign (ev_bool rfl) (by decide) ?_
      refine wl_end ?_
      refine wc_seq ?_
      refine wc_region ?_
      refine s_move (ev_str rfl) (by decide) ?_
      refine s_fieldAddr (off := 1) FIs.out rfl (by decide) ?_
      refine s_load1 TIs.out rfl (hh.cell_blk (i := 2) rfl rfl) (by decide) ?_
      refine s_build (cs := [_, _]) TIs.out PIs.out rfl rfl (by decide) ?_
      refine wl_store hh (i := 0) (vs := [_, _]) rfl rfl rfl rfl TIs.out rfl (by simp) rfl ?_
      intro ws hh
      replace hh : Hp _ (.blk _ _ [_, _] _ :: _) _ := hh
      refine wl_end ?_
      refine wc_ret ?_
      -- at ('end', 'ret')
      refine retc1 (by first | exact .inr rfl | exact .inl rfl) rfl (r_cell rfl (lv_agg (vs := [_, _]) TIs.out (hh.rd_blk_at (i := 0) (n := 2) rfl rfl) rfl) r_nil) ?_
      rw [e1, plusU, if_neg hst, if_neg hlt]
      exact ⟨rfl, hh.below⟩
theorem wtimes_calls (s t : Bool) (a b : ByteArray) (w : World) (ha : a.size ≤ 1000000000) (hb : b.size ≤ 1000000000) :
    Calls Tryz.prog 119 #[.agg #[.string a, .bool s], .agg #[.string b, .bool t]] w fun e w' => e = .returned (.agg #[.string (iM (iv s a * iv t b)), .bool (s != t)]) ∧ Below w.heap.size w w' := by
  have hh := Hp.start w
  have e0 : (iv s a * iv t b).natAbs = bN a * bN b := by rw [Int.natAbs_mul, iv_abs, iv_abs]
  have e1 : iM (iv s a * iv t b) = sN (bN a * bN b) := by rw [iM, e0]
  refine calls_vc (N := 16) (l := [.agg #[.string a, .bool s], .agg #[.string b, .bool t]]) Tryz.func119 rfl rfl (by simp) ?_
  refine wc_seq ?_
  refine wc_region ?_
  refine wl_box hh (cs := [_, _]) rfl rfl (by decide) ?_
  intro b2 w2 hh
  refine wl_box hh (cs := [_, _]) rfl rfl (by decide) ?_
  intro b3 w3 hh
  refine wl_alloc hh TIs.out (by decide) ?_
  intro b4 w4 hh
  refine wl_end ?_
  refine wc_seq ?_
  -- at the drawn region 1
  refine wc_drawn 10 [[(2, none)], [(5, some 0)], [(3, none)], [(7, some 2)], [(6, some 1), (8, some 3)], [(2, none)], [(10, some 5)], [(3, none)], [(12, some 7)], [(11, some 6), (13, some 8)]] [(9, 14), (8, 13), (7, 12), (6, 11), (5, 10), (4, 9), (3, 8), (2, 7), (1, 6), (0, 5)] hh mixed (by kernel_rfl) ?_
  refine dx_val (i := 0) (fun ρ1 w1 hj hR => x_fieldAddr (off := 0) FIs.out (show ρ1 2 = Value.pointer _ from hR.1)) ?_
  refine dx_val (i := 1) (fun ρ1 w1 hj hR => x_load1 TIs.out (show ρ1 5 = Value.pointer _ from hR.1) (hj.hp.cell_blk (i := 2) rfl rfl)) ?_
  refine dx_val (i := 2) (fun ρ1 w1 hj hR => x_fieldAddr (off := 0) FIs.out (show ρ1 3 = Value.pointer _ from hR.1)) ?_
  refine dx_val (i := 3) (fun ρ1 w1 hj hR => x_load1 TIs.out (show ρ1 7 = Value.pointer _ from hR.1) (hj.hp.cell_blk (i := 1) rfl rfl)) ?_
  refine dx_call (i := 4) (fun ρ1 w1 hj hR => run_callf FnIs.out (evs_cons (show ρ1 6 = Value.string _ from hR.1) (evs_cons (show ρ1 8 = Value.string _ from hR.2.1) evs_nil))) (fun w1 hj => natMul_calls a b _ ha hb) ?_
  refine dx_val (i := 5) (fun ρ1 w1 hj hR => x_fieldAddr (off := 1) FIs.out (show ρ1 2 = Value.pointer _ from hR.1)) ?_
  refine dx_val (i := 6) (fun ρ1 w1 hj hR => x_load1 TIs.out (show ρ1 10 = Value.pointer _ from hR.1) (hj.hp.cell_blk (i := 2) rfl rfl)) ?_
  refine dx_val (i := 7) (fun ρ1 w1 hj hR => x_fieldAddr (off := 1) FIs.out (show ρ1 3 = Value.pointer _ from hR.1)) ?_
  refine dx_val (i := 8) (fun ρ1 w1 hj hR => x_load1 TIs.out (show ρ1 12 = Value.pointer _ from hR.1) (hj.hp.cell_blk (i := 1) rfl rfl)) ?_
  first | refine dx_val (i := 9) (fun ρ1 w1 hj hR => x_neb_f UIs.out (show ρ1 11 = Value.bool _ from hR.1) (show ρ1 13 = Value.bool _ from hR.2.1) (by first | rfl | assumption)) ?_ | refine dx_val (i := 9) (fun ρ1 w1 hj hR => x_neb_t UIs.out (show ρ1 11 = Value.bool _ from hR.1) (show ρ1 13 = Value.bool _ from hR.2.1) (by first | assumption | decide)) ?_ | refine dx_val (i := 9) (fun ρ1 w1 hj hR => x_neq_bool UIs.out (show ρ1 11 = Value.bool _ from hR.1) (show ρ1 13 = Value.bool _ from hR.2.1)) ?_
  refine dx_nil ?_
  intro f W hJ hV
  have hb_1 := hJ.bl
  obtain ⟨v14, v13, v12, v11, v10, v9, v8, v7, v6, v5, _⟩ := hV
  simp only [updL]
  have e5 : f 0 = _ := v5
  rw [e5]
  have e6 : f 1 = _ := v6
  rw [e6]
  have e7 : f 2 = _ := v7
  rw [e7]
  have e8 : f 3 = _ := v8
  rw [e8]
  have e9 : f 4 = _ := v9
  rw [e9]
  have e10 : f 5 = _ := v10
  rw [e10]
  have e11 : f 6 = _ := v11
  rw [e11]
  have e12 : f 7 = _ := v12
  rw [e12]
  have e13 : f 8 = _ := v13
  rw [e13]
  have e14 : f 9 = _ := v14
  rw [e14]
  replace hh := hJ.hp
  clear e5 e6 e7 e8 e9 e10 e11 e12 e13 e14 hJ
  refine s_build (cs := [_, _]) TIs.out PIs.out rfl rfl (by decide) ?_
  refine wl_store hh (i := 0) (vs := [_, _]) rfl rfl rfl rfl TIs.out rfl (by simp) rfl ?_
  intro ws hh
  replace hh : Hp _ (.blk _ _ [_, _] _ :: _) _ := hh
  refine wl_end ?_
  refine wc_ret ?_
  -- at ('end', 'ret')
  refine retc1 (by first | exact .inr rfl | exact .inl rfl) rfl (r_cell rfl (lv_agg (vs := [_, _]) TIs.out (hh.rd_blk_at (i := 0) (n := 2) rfl rfl) rfl) r_nil) ?_
  rw [e1]
  exact ⟨rfl, hh.below⟩
theorem wOf_calls (n : Int) (w : World) (h1 : -9223372036854775808 ≤ n) (h2 : n ≤ 9223372036854775807) :
    Calls Tryz.prog 107 #[.int .i64 n] w fun e w' => e = .returned (.agg #[.bool (iN n), .string (iM n)]) ∧ Below w.heap.size w w' := by
  have hh := Hp.start w
  by_cases h0 : n < 0
  · have e1 : iv true (sN n.natAbs) = n := by unfold iv; rw [bN_sN, if_pos rfl]; omega
    have hw : IntKind.u64.wrap n = ((18446744073709551616 - n.natAbs : Nat) : Int) := by
      rw [show n = ((18446744073709551616 - n.natAbs : Nat) : Int) + -((18446744073709551616 : Nat) : Int) by omega]
      have := UK.wrap_add (k := .u64) (((18446744073709551616 - n.natAbs : Nat) : Int) + -((18446744073709551616 : Nat) : Int))
      rw [← this, Int.neg_add_cancel_right, UK.wrap_lt (by omega)]
      omega
    have hn : (18446744073709551616 - (18446744073709551616 - n.natAbs)) % 18446744073709551616 = n.natAbs := by omega
    refine calls_vc (N := 16) (l := [.int .i64 n]) Tryz.func107 rfl rfl (by simp) ?_
    refine wc_seq ?_
    refine wc_region ?_
    refine wl_alloc hh TIs.out (by decide) ?_
    intro b2 w2 hh
    refine wl_end ?_
    refine wc_seq ?_
    refine wc_seq ?_
    refine wc_region ?_
    refine s_move (ev_int rfl) (by decide) ?_
    first | refine s_lss_t rfl rfl (by omega) (by decide) ?_ | refine s_lss_f rfl rfl (by omega) (by decide) ?_ | refine s_lss_v rfl rfl (by decide) ?_
    refine wl_end ?_
    refine wc_cond_t rfl ?_
    refine wc_seq ?_
    refine wc_region ?_
    refine s_move (ev_int rfl) (by decide) ?_
    refine s_conv_int UIs.out UIs.out rfl (by decide) ?_
    -- at some 7
    rw [hw]
    refine s_negu rfl (by omega) (by decide) ?_
    rw [hn]
    skip
    -- at some 8 := Op.call { callee := Callee.value (Operand.func 136), args := #[Operand.tmp 7], argTypes :=
    refine s_callf (natOf_calls n.natAbs _ (by omega)) FnIs.out rfl (by decide) ?_
    rintro e_ w8 ⟨rfl, hb_⟩
    refine ⟨_, rfl, ?_⟩
    replace hh := hh.ext hb_
    refine s_build (cs := [_, _]) TIs.out PIs.out rfl rfl (by decide) ?_
    -- at some 10 := Op.call { callee := Callee.value (Operand.func 118), args := #[Operand.tmp 9], argTypes :=
    refine s_callf (wmade_calls true (sN n.natAbs) _) FnIs.out rfl (by decide) ?_
    rintro e_ w10 ⟨rfl, hb_⟩
    refine ⟨_, rfl, ?_⟩
    replace hh := hh.ext hb_
    rw [e1]
    refine wl_store hh (i := 0) (vs := [_, _]) rfl rfl rfl rfl TIs.out rfl (by simp) rfl ?_
    intro ws hh
    replace hh : Hp _ (.blk _ _ [_, _] _ :: _) _ := hh
    refine wl_end ?_
    refine wc_ret ?_
    refine k_ret ?_
    -- at ('end', 'ret')
    refine retc1 (by first | exact .inr rfl | exact .inl rfl) rfl (r_cell rfl (lv_agg (vs := [_, _]) TIs.out (hh.rd_blk_at (i := 0) (n := 2) rfl rfl) rfl) r_nil) ?_
    exact ⟨rfl, hh.below⟩
  · obtain ⟨m, rfl⟩ := Int.eq_ofNat_of_zero_le (by omega : 0 ≤ n)
    have e1 : iv false (sN m) = m := by unfold iv; rw [bN_sN]; simp
    have hm : m < 18446744073709551616 := by omega
    refine calls_vc (N := 16) (l := [.int .i64 (m : Int)]) Tryz.func107 rfl rfl (by simp) ?_
    refine wc_seq ?_
    refine wc_region ?_
    refine wl_alloc hh TIs.out (by decide) ?_
    intro b2 w2 hh
    refine wl_end ?_
    refine wc_seq ?_
    refine wc_seq ?_
    refine wc_region ?_
    refine s_move (ev_int rfl) (by decide) ?_
    first | refine s_lss_t rfl rfl (by omega) (by decide) ?_ | refine s_lss_f rfl rfl (by omega) (by decide) ?_ | refine s_lss_v rfl rfl (by decide) ?_
    refine wl_end ?_
    refine wc_cond_f rfl ?_
    refine wc_skip ?_
    refine k_then ?_
    refine wc_seq ?_
    refine wc_region ?_
    refine s_move (ev_int rfl) (by decide) ?_
    first | refine s_convu_lt UIs.out UIs.out rfl (by first | assumption | omega) (by decide) ?_ | refine s_convu UIs.out UIs.out rfl (by decide) ?_
    -- at some 13 := Op.call { callee := Callee.value (Operand.func 136), args := #[Operand.tmp 12], argTypes :
    refine s_callf (natOf_calls m _ hm) FnIs.out rfl (by decide) ?_
    rintro e_ w13 ⟨rfl, hb_⟩
    refine ⟨_, rfl, ?_⟩
    replace hh := hh.ext hb_
    refine s_build (cs := [_, _]) TIs.out PIs.out rfl rfl (by decide) ?_
    -- at some 15 := Op.call { callee := Callee.value (Operand.func 118), args := #[Operand.tmp 14], argTypes :
    refine s_callf (wmade_calls false (sN m) _) FnIs.out rfl (by decide) ?_
    rintro e_ w15 ⟨rfl, hb_⟩
    refine ⟨_, rfl, ?_⟩
    replace hh := hh.ext hb_
    rw [e1]
    refine wl_store hh (i := 0) (vs := [_, _]) rfl rfl rfl rfl TIs.out rfl (by simp) rfl ?_
    intro ws hh
    replace hh : Hp _ (.blk _ _ [_, _] _ :: _) _ := hh
    refine wl_end ?_
    refine wc_ret ?_
    -- at ('end', 'ret')
    refine retc1 (by first | exact .inr rfl | exact .inl rfl) rfl (r_cell rfl (lv_agg (vs := [_, _]) TIs.out (hh.rd_blk_at (i := 0) (n := 2) rfl rfl) rfl) r_nil) ?_
    exact ⟨rfl, hh.below⟩
end Go.Proofs.YthmmofllajkejaaGreatDoor
