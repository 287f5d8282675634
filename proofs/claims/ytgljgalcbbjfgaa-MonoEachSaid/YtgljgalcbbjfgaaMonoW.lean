/- The walk through the laws' own examples (awake). -/
import Derived.Test.YtgljgalcbbjfgaaMonoB
namespace Go.Proofs.Ytgljgalcbbjfgaa
open Go.RowKit
theorem sl_nil0 (w : World) (k : Nat) : Sl w none 0 k [] := Sl.nil w none k
theorem awake_calls (w : World) : Calls Try.prog 8 #[] w fun e w' => e = .returned (.bool true) ∧ Below w.heap.size w w' := by
  have hh := Hp.start w
  refine calls_vc (N := 104) (l := []) Try.func8 rfl rfl (by simp) ?_
  refine wc_seq ?_
  refine wc_region ?_
  refine s_assign (ev_bool rfl) (by decide) ?_
  refine wl_end ?_
  refine wc_seq ?_
  refine wc_region ?_
  refine wl_buildSlice hh (cs := [_, _, _]) UIs.out TIs.out (evp_cons rfl (evp_cons rfl (evp_cons rfl evp_nil))) rfl rfl (by decide) (by decide) (by decide) rfl (by decide) ?_
  intro b16 w16 hh
  -- at some 17 := Op.call { callee := Callee.value (Operand.func 9), args := #[Operand.tmp 16], argTypes := 
  refine s_callf (of_calls _ _ _ [2, 0, 1] _ (hh.sl_row (i := 0) rfl) (by omega)) FnIs.out rfl (by decide) ?_
  rintro e_ w17 ⟨rfl, hb_⟩
  refine ⟨_, rfl, ?_⟩
  replace hh := hh.ext hb_
  rw [show ofE [2, 0, 1] = 0 from rfl]
  refine s_move (ev_tup rfl) (by decide) ?_
  refine s_extract rfl rfl (by decide) ?_
  refine s_extract rfl rfl (by decide) ?_
  refine s_assign (ev_str rfl) (by decide) ?_
  refine s_assign (ev_int rfl) (by decide) ?_
  refine wl_end ?_
  refine wc_seq ?_
  refine wc_region ?_
  refine wl_buildSlice hh (cs := [_]) UIs.out TIs.out (evp_cons rfl evp_nil) rfl rfl (by decide) (by decide) (by decide) rfl (by decide) ?_
  intro b21 w21 hh
  -- at some 22 := Op.call { callee := Callee.value (Operand.func 9), args := #[Operand.tmp 21], argTypes := 
  refine s_callf (of_calls _ _ _ [128] _ (hh.sl_row (i := 0) rfl) (by omega)) FnIs.out rfl (by decide) ?_
  rintro e_ w22 ⟨rfl, hb_⟩
  refine ⟨_, rfl, ?_⟩
  replace hh := hh.ext hb_
  rw [show ofE [128] = 3 from rfl]
  refine s_move (ev_tup rfl) (by decide) ?_
  refine s_extract rfl rfl (by decide) ?_
  refine s_extract rfl rfl (by decide) ?_
  refine s_assign (ev_str rfl) (by decide) ?_
  refine s_assign (ev_int rfl) (by decide) ?_
  refine wl_end ?_
  refine wc_seq ?_
  refine wc_region ?_
  -- at some 26 := Op.call { callee := Callee.value (Operand.func 18), args := #[Operand.const (Value.string 
  refine s_callf (mul_calls _ _ _ (by decide) (by decide)) FnIs.out rfl (by decide) ?_
  rintro e_ w26 ⟨rfl, hb_⟩
  refine ⟨_, rfl, ?_⟩
  replace hh := hh.ext hb_
  rw [show mulL (ByteArray.mk #[2, 0]).data.toList (ByteArray.mk #[1, 3]).data.toList = ([3, 3], 0) from rfl]
  refine s_move (ev_tup rfl) (by decide) ?_
  refine s_extract rfl rfl (by decide) ?_
  refine s_extract rfl rfl (by decide) ?_
  refine s_assign (ev_str rfl) (by decide) ?_
  refine s_assign (ev_int rfl) (by decide) ?_
  refine wl_end ?_
  refine wc_seq ?_
  refine wc_region ?_
  -- at some 30 := Op.call { callee := Callee.value (Operand.func 18), args := #[Operand.const (Value.string 
  refine s_callf (mul_calls _ _ _ (by decide) (by decide)) FnIs.out rfl (by decide) ?_
  rintro e_ w30 ⟨rfl, hb_⟩
  refine ⟨_, rfl, ?_⟩
  replace hh := hh.ext hb_
  rw [show mulL (ByteArray.mk #[100]).data.toList (ByteArray.mk #[28]).data.toList = ([], 3) from rfl]
  refine s_move (ev_tup rfl) (by decide) ?_
  refine s_extract rfl rfl (by decide) ?_
  refine s_extract rfl rfl (by decide) ?_
  refine s_assign (ev_str rfl) (by decide) ?_
  refine s_assign (ev_int rfl) (by decide) ?_
  refine wl_end ?_
  refine wc_seq ?_
  refine wc_region ?_
  -- at some 34 := Op.call { callee := Callee.value (Operand.func 18), args := #[Operand.const (Value.string 
  refine s_callf (mul_calls _ _ _ (by decide) (by decide)) FnIs.out rfl (by decide) ?_
  rintro e_ w34 ⟨rfl, hb_⟩
  refine ⟨_, rfl, ?_⟩
  replace hh := hh.ext hb_
  rw [show mulL (ByteArray.mk #[1]).data.toList (ByteArray.mk #[1, 1]).data.toList = ([], 1) from rfl]
  refine s_move (ev_tup rfl) (by decide) ?_
  refine s_extract rfl rfl (by decide) ?_
  refine s_extract rfl rfl (by decide) ?_
  refine s_assign (ev_str rfl) (by decide) ?_
  refine s_assign (ev_int rfl) (by decide) ?_
  refine wl_end ?_
  refine wc_seq ?_
  refine wc_region ?_
  -- at some 38 := Op.call { callee := Callee.value (Operand.func 20), args := #[Operand.const (Value.string 
  refine s_callf (div_calls _ _ _ (by decide) (by decide)) FnIs.out rfl (by decide) ?_
  rintro e_ w38 ⟨rfl, hb_⟩
  refine ⟨_, rfl, ?_⟩
  replace hh := hh.ext hb_
  rw [show divL (ByteArray.mk #[3, 3]).data.toList (ByteArray.mk #[1, 3]).data.toList = ([2, 0], true) from rfl]
  refine s_move (ev_tup rfl) (by decide) ?_
  refine s_extract rfl rfl (by decide) ?_
  refine s_extract rfl rfl (by decide) ?_
  refine s_assign (ev_str rfl) (by decide) ?_
  refine s_assign (ev_bool rfl) (by decide) ?_
  refine wl_end ?_
  refine wc_seq ?_
  refine wc_region ?_
  -- at some 42 := Op.call { callee := Callee.value (Operand.func 20), args := #[Operand.const (Value.string 
  refine s_callf (div_calls _ _ _ (by decide) (by decide)) FnIs.out rfl (by decide) ?_
  rintro e_ w42 ⟨rfl, hb_⟩
  refine ⟨_, rfl, ?_⟩
  replace hh := hh.ext hb_
  rw [show divL (ByteArray.mk #[1]).data.toList (ByteArray.mk #[2]).data.toList = ([], false) from rfl]
  refine s_move (ev_tup rfl) (by decide) ?_
  refine s_extract rfl rfl (by decide) ?_
  refine s_extract rfl rfl (by decide) ?_
  refine s_assign (ev_str rfl) (by decide) ?_
  refine s_assign (ev_bool rfl) (by decide) ?_
  refine wl_end ?_
  refine wc_seq ?_
  refine wc_region ?_
  refine s_move (ev_str rfl) (by decide) ?_
  first | refine s_eql_str_t rfl rfl (by first | rfl | assumption | decide) (by decide) ?_ | refine s_eql_str_f rfl rfl (by first | assumption | decide) (by decide) ?_
  refine s_move (ev_bool rfl) (by decide) ?_
  first | (refine wl_guard_skip (by decide) rfl rfl (by decide) ?_) | (refine wl_guard_take rfl rfl ?_; (refine s_move (ev_int rfl) (by decide) ?_)) | (refine wl_guard_skipV (by decide) rfl rfl ?_)
  first | (refine wl_guard_skip (by decide) rfl rfl (by decide) ?_) | (refine wl_guard_take rfl rfl ?_; (first | refine s_eql_t rfl rfl (by omega) (by decide) ?_ | refine s_eql_f rfl rfl (by omega) (by decide) ?_)) | (refine wl_guard_skipV (by decide) rfl rfl ?_)
  first | refine s_pick_t rfl (ev_bool rfl) (by decide) ?_ | refine s_pick_f rfl (ev_bool rfl) (by decide) ?_
  refine s_move (ev_bool rfl) (by decide) ?_
  first | (refine wl_guard_skip (by decide) rfl rfl (by decide) ?_) | (refine wl_guard_take rfl rfl ?_; (refine s_move (ev_int rfl) (by decide) ?_)) | (refine wl_guard_skipV (by decide) rfl rfl ?_)
  first | (refine wl_guard_skip (by decide) rfl rfl (by decide) ?_) | (refine wl_guard_take rfl rfl ?_; (first | refine s_eql_t rfl rfl (by omega) (by decide) ?_ | refine s_eql_f rfl rfl (by omega) (by decide) ?_)) | (refine wl_guard_skipV (by decide) rfl rfl ?_)
  first | refine s_pick_t rfl (ev_bool rfl) (by decide) ?_ | refine s_pick_f rfl (ev_bool rfl) (by decide) ?_
  refine s_move (ev_bool rfl) (by decide) ?_
  first | (refine wl_guard_skip (by decide) rfl rfl (by decide) ?_) | (refine wl_guard_take rfl rfl ?_; (refine s_move (ev_str rfl) (by decide) ?_)) | (refine wl_guard_skipV (by decide) rfl rfl ?_)
  -- at guarded Op.call { callee := Callee.value (Operand.func 14), args := #[Operand.tmp 56], a
  refine wl_guard_take rfl rfl ?_
  refine s_callf (degree_calls (str [2, 0, 1]) _ (by decide)) FnIs.out rfl (by decide) ?_
  rintro e_ w57 ⟨rfl, hb_⟩
  refine ⟨_, rfl, ?_⟩
  replace hh := hh.ext hb_
  rw [show degL (str [2, 0, 1]).data.toList = 3 from rfl]
  first | (refine wl_guard_skip (by decide) rfl rfl (by decide) ?_) | (refine wl_guard_take rfl rfl ?_; (first | refine s_eql_t rfl rfl (by omega) (by decide) ?_ | refine s_eql_f rfl rfl (by omega) (by decide) ?_)) | (refine wl_guard_skipV (by decide) rfl rfl ?_)
  first | refine s_pick_t rfl (ev_bool rfl) (by decide) ?_ | refine s_pick_f rfl (ev_bool rfl) (by decide) ?_
  refine s_move (ev_bool rfl) (by decide) ?_
  first | (refine wl_guard_skip (by decide) rfl rfl (by decide) ?_) | (refine wl_guard_take rfl rfl ?_; (refine s_move (ev_str rfl) (by decide) ?_)) | (refine wl_guard_skipV (by decide) rfl rfl ?_)
  first | (refine wl_guard_skip (by decide) rfl rfl (by decide) ?_) | (refine wl_guard_take rfl rfl ?_; (first | refine s_eql_str_t rfl rfl (by first | rfl | assumption | decide) (by decide) ?_ | refine s_eql_str_f rfl rfl (by first | assumption | decide) (by decide) ?_)) | (refine wl_guard_skipV (by decide) rfl rfl ?_)
  first | refine s_pick_t rfl (ev_bool rfl) (by decide) ?_ | refine s_pick_f rfl (ev_bool rfl) (by decide) ?_
  refine s_move (ev_bool rfl) (by decide) ?_
  first | (refine wl_guard_skip (by decide) rfl rfl (by decide) ?_) | (refine wl_guard_take rfl rfl ?_; (refine s_move (ev_int rfl) (by decide) ?_)) | (refine wl_guard_skipV (by decide) rfl rfl ?_)
  first | (refine wl_guard_skip (by decide) rfl rfl (by decide) ?_) | (refine wl_guard_take rfl rfl ?_; (first | refine s_eql_t rfl rfl (by omega) (by decide) ?_ | refine s_eql_f rfl rfl (by omega) (by decide) ?_)) | (refine wl_guard_skipV (by decide) rfl rfl ?_)
  first | refine s_pick_t rfl (ev_bool rfl) (by decide) ?_ | refine s_pick_f rfl (ev_bool rfl) (by decide) ?_
  refine s_move (ev_bool rfl) (by decide) ?_
  first | (refine wl_guard_skip (by decide) rfl rfl (by decide) ?_) | (refine wl_guard_take rfl rfl ?_; (refine s_move (ev_int rfl) (by decide) ?_)) | (refine wl_guard_skipV (by decide) rfl rfl ?_)
  first | (refine wl_guard_skip (by decide) rfl rfl (by decide) ?_) | (refine wl_guard_take rfl rfl ?_; (first | refine s_eql_t rfl rfl (by omega) (by decide) ?_ | refine s_eql_f rfl rfl (by omega) (by decide) ?_)) | (refine wl_guard_skipV (by decide) rfl rfl ?_)
  first | refine s_pick_t rfl (ev_bool rfl) (by decide) ?_ | refine s_pick_f rfl (ev_bool rfl) (by decide) ?_
  refine s_move (ev_bool rfl) (by decide) ?_
  first | (refine wl_guard_skip (by decide) rfl rfl (by decide) ?_) | (refine wl_guard_take rfl rfl ?_; (refine s_move (ev_int rfl) (by decide) ?_)) | (refine wl_guard_skipV (by decide) rfl rfl ?_)
  first | (refine wl_guard_skip (by decide) rfl rfl (by decide) ?_) | (refine wl_guard_take rfl rfl ?_; (first | refine s_eql_t rfl rfl (by omega) (by decide) ?_ | refine s_eql_f rfl rfl (by omega) (by decide) ?_)) | (refine wl_guard_skipV (by decide) rfl rfl ?_)
  first | refine s_pick_t rfl (ev_bool rfl) (by decide) ?_ | refine s_pick_f rfl (ev_bool rfl) (by decide) ?_
  refine s_move (ev_bool rfl) (by decide) ?_
  first | (refine wl_guard_skip (by decide) rfl rfl (by decide) ?_) | (refine wl_guard_take rfl rfl ?_; (refine s_move (ev_str rfl) (by decide) ?_)) | (refine wl_guard_skipV (by decide) rfl rfl ?_)
  first | (refine wl_guard_skip (by decide) rfl rfl (by decide) ?_) | (refine wl_guard_take rfl rfl ?_; (first | refine s_eql_str_t rfl rfl (by first | rfl | assumption | decide) (by decide) ?_ | refine s_eql_str_f rfl rfl (by first | assumption | decide) (by decide) ?_)) | (refine wl_guard_skipV (by decide) rfl rfl ?_)
  first | refine s_pick_t rfl (ev_bool rfl) (by decide) ?_ | refine s_pick_f rfl (ev_bool rfl) (by decide) ?_
  refine s_move (ev_bool rfl) (by decide) ?_
  first | (refine wl_guard_skip (by decide) rfl rfl (by decide) ?_) | (refine wl_guard_take rfl rfl ?_; (refine s_move (ev_bool rfl) (by decide) ?_)) | (refine wl_guard_skipV (by decide) rfl rfl ?_)
  first | refine s_pick_t rfl (ev_bool rfl) (by decide) ?_ | refine s_pick_f rfl (ev_bool rfl) (by decide) ?_
  refine s_move (ev_bool rfl) (by decide) ?_
  first | (refine wl_guard_skip (by decide) rfl rfl (by decide) ?_) | (refine wl_guard_take rfl rfl ?_; (refine s_move (ev_bool rfl) (by decide) ?_)) | (refine wl_guard_skipV (by decide) rfl rfl ?_)
  first | (refine wl_guard_skip (by decide) rfl rfl (by decide) ?_) | (refine wl_guard_take rfl rfl ?_; (refine s_not rfl (by decide) ?_)) | (refine wl_guard_skipV (by decide) rfl rfl ?_)
  first | refine s_pick_t rfl (ev_bool rfl) (by decide) ?_ | refine s_pick_f rfl (ev_bool rfl) (by decide) ?_
  refine s_move (ev_bool rfl) (by decide) ?_
  first | (refine wl_guard_skip (by decide) rfl rfl (by decide) ?_) | (refine wl_guard_take rfl rfl ?_; (refine wl_buildSlice hh (cs := [_, _]) UIs.out TIs.out (evp_cons rfl (evp_cons rfl evp_nil)) rfl rfl (by decide) (by decide) (by decide) rfl (by decide) ?_); (intro b88 w88 hh)) | (refine wl_guard_skipV (by decide) rfl rfl ?_)
  -- at guarded Op.call { callee := Callee.value (Operand.func 23), args := #[Operand.tmp 88], a
  refine wl_guard_take rfl rfl ?_
  refine s_callf (all_calls _ _ _ [1, 1] _ (hh.sl_row (i := 0) rfl) (by omega)) FnIs.out rfl (by decide) ?_
  rintro e_ w89 ⟨A89, c89, rfl, hown_, hb_⟩
  refine ⟨_, rfl, ?_⟩
  replace hh := hh.push_new (x := .row _ _ _ _ _ _) hb_ hown_
  first | (refine wl_guard_skip (by decide) rfl rfl (by decide) ?_) | (refine wl_guard_take rfl rfl ?_; (refine wl_buildSlice hh (cs := [_, _, _, _]) UIs.out TIs.out (evp_cons rfl (evp_cons rfl (evp_cons rfl (evp_cons rfl evp_nil)))) rfl rfl (by decide) (by decide) (by decide) rfl (by decide) ?_); (intro b90 w90 hh)) | (refine wl_guard_skipV (by decide) rfl rfl ?_)
  -- at guarded Op.call { callee := Callee.value (Operand.func 22), args := #[Operand.tmp 89, Op
  refine wl_guard_take rfl rfl ?_
  refine s_callf (same_calls _ _ _ _ _ _ _ [⟨#[0, 0]⟩, ⟨#[0, 1]⟩, ⟨#[1, 0]⟩, ⟨#[1, 1]⟩] _ (hh.sl_row (i := 1) rfl) (hh.sl_row (i := 0) rfl) (by decide) (by decide)) FnIs.out rfl (by decide) ?_
  rintro e_ w91 ⟨rfl, hb_⟩
  refine ⟨_, rfl, ?_⟩
  replace hh := hh.ext hb_
  rw [show decide (allL [1, 1] = [⟨#[0, 0]⟩, ⟨#[0, 1]⟩, ⟨#[1, 0]⟩, ⟨#[1, 1]⟩]) = true from by decide]
  first | refine s_pick_t rfl (ev_bool rfl) (by decide) ?_ | refine s_pick_f rfl (ev_bool rfl) (by decide) ?_
  refine s_move (ev_bool rfl) (by decide) ?_
  -- at guarded Op.call { callee := Callee.value (Operand.func 23), args := #[Operand.const (Val
  refine wl_guard_take rfl rfl ?_
  refine s_callf (all_calls _ _ _ [] _ (sl_nil0 _ _) (by omega)) FnIs.out rfl (by decide) ?_
  rintro e_ w94 ⟨A94, c94, rfl, hown_, hb_⟩
  refine ⟨_, rfl, ?_⟩
  replace hh := hh.push_new (x := .row _ _ _ _ _ _) hb_ hown_
  rw [show (allL []).length = 1 from rfl]
  first | (refine wl_guard_skip (by decide) rfl rfl (by decide) ?_) | (refine wl_guard_take rfl rfl ?_; (refine s_len_sl UIs.out rfl (by decide) ?_)) | (refine wl_guard_skipV (by decide) rfl rfl ?_)
  first | (refine wl_guard_skip (by decide) rfl rfl (by decide) ?_) | (refine wl_guard_take rfl rfl ?_; (first | refine s_eql_t rfl rfl (by omega) (by decide) ?_ | refine s_eql_f rfl rfl (by omega) (by decide) ?_)) | (refine wl_guard_skipV (by decide) rfl rfl ?_)
  first | refine s_pick_t rfl (ev_bool rfl) (by decide) ?_ | refine s_pick_f rfl (ev_bool rfl) (by decide) ?_
  refine s_move (ev_bool rfl) (by decide) ?_
  first | (refine wl_guard_skip (by decide) rfl rfl (by decide) ?_) | (refine wl_guard_take rfl rfl ?_; (refine wl_buildSlice hh (cs := [_]) UIs.out TIs.out (evp_cons rfl evp_nil) rfl rfl (by decide) (by decide) (by decide) rfl (by decide) ?_); (intro b99 w99 hh)) | (refine wl_guard_skipV (by decide) rfl rfl ?_)
  -- at guarded Op.call { callee := Callee.value (Operand.func 23), args := #[Operand.tmp 99], a
  refine wl_guard_take rfl rfl ?_
  refine s_callf (all_calls _ _ _ [-1] _ (hh.sl_row (i := 0) rfl) (by omega)) FnIs.out rfl (by decide) ?_
  rintro e_ w100 ⟨A100, c100, rfl, hown_, hb_⟩
  refine ⟨_, rfl, ?_⟩
  replace hh := hh.push_new (x := .row _ _ _ _ _ _) hb_ hown_
  rw [show (allL [-1]).length = 0 from rfl]
  first | (refine wl_guard_skip (by decide) rfl rfl (by decide) ?_) | (refine wl_guard_take rfl rfl ?_; (refine s_len_sl UIs.out rfl (by decide) ?_)) | (refine wl_guard_skipV (by decide) rfl rfl ?_)
  first | (refine wl_guard_skip (by decide) rfl rfl (by decide) ?_) | (refine wl_guard_take rfl rfl ?_; (first | refine s_eql_t rfl rfl (by omega) (by decide) ?_ | refine s_eql_f rfl rfl (by omega) (by decide) ?_)) | (refine wl_guard_skipV (by decide) rfl rfl ?_)
  first | refine s_pick_t rfl (ev_bool rfl) (by decide) ?_ | refine s_pick_f rfl (ev_bool rfl) (by decide) ?_
  refine s_assign (ev_bool rfl) (by decide) ?_
  refine wl_end ?_
  refine wc_ret ?_
  -- at ('end', 'ret')
  refine ret1 (by first | exact .inr rfl | exact .inl rfl) rfl rfl ?_
  exact ⟨rfl, hh.below⟩
end Go.Proofs.Ytgljgalcbbjfgaa
