/- The walks through the laws of ogeelaw07. -/
import Derived.Test.YtgljgalcbbjfgaaMonoW
namespace Go.Proofs.Ytgljgalcbbjfgaa
open Go.RowKit
section
variable {P : Program} {N : Nat} {ops : Array Oper} {Q : Kq} {ρ : Rf} {w : World} {rest : List Oper} {d : Nat} {ty : TypeId} {pos : String} {af : Array Edge} {t u : TypeId} {x y : Operand}
theorem s_eqlb_t {a : Bool} (ht : P.underlying t = some .bool) (hx : ev ρ x = .bool a) (hy : ev ρ y = .bool a) (hN : d < N) (kk : WL P N ops Q rest (upd ρ d (.bool true)) w) :
    WL P N ops Q (⟨some d, .binOp .eql t x y u, ty, pos, af, none⟩ :: rest) ρ w := s_eql_bool ht hx hy hN (by rw [beq_self_eq_true]; exact kk)
end
theorem monoMuls_calls (a b : ByteArray) (w : World) : Calls Try.prog 4 #[.string a, .string b] w fun e w' => e = .returned (.bool true) ∧ Below w.heap.size w w' := by
  have hh := Hp.start w
  by_cases ha : a.size ≤ 500
  · by_cases hb : b.size ≤ 500
    · refine calls_vc (N := 67) (l := [.string a, .string b]) Try.func4 rfl rfl (by simp) ?_
      refine wc_seq ?_
      refine wc_region ?_
      refine s_assign (ev_bool rfl) (by decide) ?_
      refine wl_end ?_
      refine wc_seq ?_
      refine wc_seq ?_
      refine wc_region ?_
      refine s_move (ev_str rfl) (by decide) ?_
      refine s_len_str UIs.out rfl (by decide) ?_
      first | refine s_gtr_t rfl rfl (by omega) (by decide) ?_ | refine s_gtr_f rfl rfl (by omega) (by decide) ?_
      refine s_move (ev_bool rfl) (by decide) ?_
      first | (refine wl_guard_skip (by decide) rfl rfl (by decide) ?_) | (refine wl_guard_take rfl rfl ?_; (refine s_move (ev_str rfl) (by decide) ?_))
      first | (refine wl_guard_skip (by decide) rfl rfl (by decide) ?_) | (refine wl_guard_take rfl rfl ?_; (refine s_len_str UIs.out rfl (by decide) ?_))
      first | (refine wl_guard_skip (by decide) rfl rfl (by decide) ?_) | (refine wl_guard_take rfl rfl ?_; (first | refine s_gtr_t rfl rfl (by omega) (by decide) ?_ | refine s_gtr_f rfl rfl (by omega) (by decide) ?_))
      first | refine s_pick_t rfl (ev_bool rfl) (by decide) ?_ | refine s_pick_f rfl (ev_bool rfl) (by decide) ?_
      refine wl_end ?_
      refine wc_cond_f rfl ?_
      refine wc_skip ?_
      refine k_then ?_
      refine wc_seq ?_
      refine wc_region ?_
      refine s_move (ev_str rfl) (by decide) ?_
      refine s_move (ev_str rfl) (by decide) ?_
      -- at some 25 := Op.call { callee := Callee.value (Operand.func 18), args := #[Operand.tmp 23, Operand.tmp 
      refine s_callf (mul_calls _ _ _ (by omega) (by omega)) FnIs.out rfl (by decide) ?_
      rintro e_ w25 ⟨rfl, hb_⟩
      refine ⟨_, rfl, ?_⟩
      replace hh := hh.ext hb_
      refine s_move (ev_tup rfl) (by decide) ?_
      refine s_extract rfl rfl (by decide) ?_
      refine s_extract rfl rfl (by decide) ?_
      refine s_assign (ev_str rfl) (by decide) ?_
      refine s_assign (ev_int rfl) (by decide) ?_
      refine wl_end ?_
      refine wc_seq ?_
      refine wc_region ?_
      refine s_move (ev_str rfl) (by decide) ?_
      refine s_move (ev_str rfl) (by decide) ?_
      -- at some 31 := Op.call { callee := Callee.value (Operand.func 19), args := #[Operand.tmp 29, Operand.tmp 
      refine s_callf (rmul_calls _ _ _ (by omega) (by omega)) FnIs.out rfl (by decide) ?_
      rintro e_ w31 ⟨rfl, hb_⟩
      refine ⟨_, rfl, ?_⟩
      replace hh := hh.ext hb_
      refine s_move (ev_tup rfl) (by decide) ?_
      refine s_extract rfl rfl (by decide) ?_
      refine s_extract rfl rfl (by decide) ?_
      refine s_assign (ev_str rfl) (by decide) ?_
      refine s_assign (ev_int rfl) (by decide) ?_
      refine wl_end ?_
      refine wc_seq ?_
      refine wc_region ?_
      refine s_move (ev_str rfl) (by decide) ?_
      refine s_move (ev_str rfl) (by decide) ?_
      -- at some 37 := Op.call { callee := Callee.value (Operand.func 20), args := #[Operand.tmp 35, Operand.tmp 
      refine s_callf (div_calls _ _ _ (by omega) (by omega)) FnIs.out rfl (by decide) ?_
      rintro e_ w37 ⟨rfl, hb_⟩
      refine ⟨_, rfl, ?_⟩
      replace hh := hh.ext hb_
      refine s_move (ev_tup rfl) (by decide) ?_
      refine s_extract rfl rfl (by decide) ?_
      refine s_extract rfl rfl (by decide) ?_
      refine s_assign (ev_str rfl) (by decide) ?_
      refine s_assign (ev_bool rfl) (by decide) ?_
      refine wl_end ?_
      refine wc_seq ?_
      refine wc_region ?_
      refine s_move (ev_str rfl) (by decide) ?_
      refine s_move (ev_str rfl) (by decide) ?_
      -- at some 43 := Op.call { callee := Callee.value (Operand.func 21), args := #[Operand.tmp 41, Operand.tmp 
      refine s_callf (rdiv_calls _ _ _ (by omega) (by omega)) FnIs.out rfl (by decide) ?_
      rintro e_ w43 ⟨rfl, hb_⟩
      refine ⟨_, rfl, ?_⟩
      replace hh := hh.ext hb_
      refine s_move (ev_tup rfl) (by decide) ?_
      refine s_extract rfl rfl (by decide) ?_
      refine s_extract rfl rfl (by decide) ?_
      refine s_assign (ev_str rfl) (by decide) ?_
      refine s_assign (ev_bool rfl) (by decide) ?_
      refine wl_end ?_
      refine wc_seq ?_
      refine wc_region ?_
      refine s_move (ev_str rfl) (by decide) ?_
      refine s_move (ev_str rfl) (by decide) ?_
      first | refine s_eql_str_t rfl rfl (by first | rfl | assumption | decide) (by decide) ?_ | refine s_eql_str_f rfl rfl (by first | assumption | decide) (by decide) ?_
      refine s_move (ev_bool rfl) (by decide) ?_
      first | (refine wl_guard_skip (by decide) rfl rfl (by decide) ?_) | (refine wl_guard_take rfl rfl ?_; (refine s_move (ev_int rfl) (by decide) ?_))
      first | (refine wl_guard_skip (by decide) rfl rfl (by decide) ?_) | (refine wl_guard_take rfl rfl ?_; (refine s_move (ev_int rfl) (by decide) ?_))
      first | (refine wl_guard_skip (by decide) rfl rfl (by decide) ?_) | (refine wl_guard_take rfl rfl ?_; (first | refine s_eql_t rfl rfl (by omega) (by decide) ?_ | refine s_eql_f rfl rfl (by omega) (by decide) ?_))
      first | refine s_pick_t rfl (ev_bool rfl) (by decide) ?_ | refine s_pick_f rfl (ev_bool rfl) (by decide) ?_
      refine s_move (ev_bool rfl) (by decide) ?_
      first | (refine wl_guard_skip (by decide) rfl rfl (by decide) ?_) | (refine wl_guard_take rfl rfl ?_; (refine s_move (ev_str rfl) (by decide) ?_))
      first | (refine wl_guard_skip (by decide) rfl rfl (by decide) ?_) | (refine wl_guard_take rfl rfl ?_; (refine s_move (ev_str rfl) (by decide) ?_))
      first | (refine wl_guard_skip (by decide) rfl rfl (by decide) ?_) | (refine wl_guard_take rfl rfl ?_; (first | refine s_eql_str_t rfl rfl (by first | rfl | assumption | decide) (by decide) ?_ | refine s_eql_str_f rfl rfl (by first | assumption | decide) (by decide) ?_))
      first | refine s_pick_t rfl (ev_bool rfl) (by decide) ?_ | refine s_pick_f rfl (ev_bool rfl) (by decide) ?_
      refine s_move (ev_bool rfl) (by decide) ?_
      first | (refine wl_guard_skip (by decide) rfl rfl (by decide) ?_) | (refine wl_guard_take rfl rfl ?_; (refine s_move (ev_bool rfl) (by decide) ?_))
      first | (refine wl_guard_skip (by decide) rfl rfl (by decide) ?_) | (refine wl_guard_take rfl rfl ?_; (refine s_move (ev_bool rfl) (by decide) ?_))
      first | (refine wl_guard_skip (by decide) rfl rfl (by decide) ?_) | (refine wl_guard_take rfl rfl ?_; (refine s_eqlb_t UIs.out rfl rfl (by decide) ?_))
      first | refine s_pick_t rfl (ev_bool rfl) (by decide) ?_ | refine s_pick_f rfl (ev_bool rfl) (by decide) ?_
      refine s_move (ev_bool rfl) (by decide) ?_
      -- at guarded Op.call { callee := Callee.value (Operand.func 8), args := #[], argTypes := #[] 
      refine wl_guard_take rfl rfl ?_
      refine s_callf (awake_calls _) FnIs.out rfl (by decide) ?_
      rintro e_ w65 ⟨rfl, hb_⟩
      refine ⟨_, rfl, ?_⟩
      replace hh := hh.ext hb_
      first | refine s_pick_t rfl (ev_bool rfl) (by decide) ?_ | refine s_pick_f rfl (ev_bool rfl) (by decide) ?_
      refine s_assign (ev_bool rfl) (by decide) ?_
      refine wl_end ?_
      refine wc_ret ?_
      -- at ('end', 'ret')
      refine ret1 (by first | exact .inr rfl | exact .inl rfl) rfl rfl ?_
      exact ⟨rfl, hh.below⟩
    · refine calls_vc (N := 67) (l := [.string a, .string b]) Try.func4 rfl rfl (by simp) ?_
      refine wc_seq ?_
      refine wc_region ?_
      refine s_assign (ev_bool rfl) (by decide) ?_
      refine wl_end ?_
      refine wc_seq ?_
      refine wc_seq ?_
      refine wc_region ?_
      refine s_move (ev_str rfl) (by decide) ?_
      refine s_len_str UIs.out rfl (by decide) ?_
      first | refine s_gtr_t rfl rfl (by omega) (by decide) ?_ | refine s_gtr_f rfl rfl (by omega) (by decide) ?_
      refine s_move (ev_bool rfl) (by decide) ?_
      first | (refine wl_guard_skip (by decide) rfl rfl (by decide) ?_) | (refine wl_guard_take rfl rfl ?_; (refine s_move (ev_str rfl) (by decide) ?_))
      first | (refine wl_guard_skip (by decide) rfl rfl (by decide) ?_) | (refine wl_guard_take rfl rfl ?_; (refine s_len_str UIs.out rfl (by decide) ?_))
      first | (refine wl_guard_skip (by decide) rfl rfl (by decide) ?_) | (refine wl_guard_take rfl rfl ?_; (first | refine s_gtr_t rfl rfl (by omega) (by decide) ?_ | refine s_gtr_f rfl rfl (by omega) (by decide) ?_))
      first | refine s_pick_t rfl (ev_bool rfl) (by decide) ?_ | refine s_pick_f rfl (ev_bool rfl) (by decide) ?_
      refine wl_end ?_
      refine wc_cond_t rfl ?_
      refine wc_seq ?_
      refine wc_region ?_
      -- at some 21 := Op.call { callee := Callee.value (Operand.func 8), args := #[], argTypes := #[] }
      refine s_callf (awake_calls _) FnIs.out rfl (by decide) ?_
      rintro e_ w21 ⟨rfl, hb_⟩
      refine ⟨_, rfl, ?_⟩
      replace hh := hh.ext hb_
      refine s_assign (ev_bool rfl) (by decide) ?_
      refine wl_end ?_
      refine wc_ret ?_
      refine k_ret ?_
      -- at ('end', 'ret')
      refine ret1 (by first | exact .inr rfl | exact .inl rfl) rfl rfl ?_
      exact ⟨rfl, hh.below⟩
  · refine calls_vc (N := 67) (l := [.string a, .string b]) Try.func4 rfl rfl (by simp) ?_
    refine wc_seq ?_
    refine wc_region ?_
    refine s_assign (ev_bool rfl) (by decide) ?_
    refine wl_end ?_
    refine wc_seq ?_
    refine wc_seq ?_
    refine wc_region ?_
    refine s_move (ev_str rfl) (by decide) ?_
    refine s_len_str UIs.out rfl (by decide) ?_
    first | refine s_gtr_t rfl rfl (by omega) (by decide) ?_ | refine s_gtr_f rfl rfl (by omega) (by decide) ?_
    refine s_move (ev_bool rfl) (by decide) ?_
    first | (refine wl_guard_skip (by decide) rfl rfl (by decide) ?_) | (refine wl_guard_take rfl rfl ?_; (refine s_move (ev_str rfl) (by decide) ?_))
    first | (refine wl_guard_skip (by decide) rfl rfl (by decide) ?_) | (refine wl_guard_take rfl rfl ?_; (refine s_len_str UIs.out rfl (by decide) ?_))
    first | (refine wl_guard_skip (by decide) rfl rfl (by decide) ?_) | (refine wl_guard_take rfl rfl ?_; (first | refine s_gtr_t rfl rfl (by omega) (by decide) ?_ | refine s_gtr_f rfl rfl (by omega) (by decide) ?_))
    first | refine s_pick_t rfl (ev_bool rfl) (by decide) ?_ | refine s_pick_f rfl (ev_bool rfl) (by decide) ?_
    refine wl_end ?_
    refine wc_cond_t rfl ?_
    refine wc_seq ?_
    refine wc_region ?_
    -- at some 21 := Op.call { callee := Callee.value (Operand.func 8), args := #[], argTypes := #[] }
    refine s_callf (awake_calls _) FnIs.out rfl (by decide) ?_
    rintro e_ w21 ⟨rfl, hb_⟩
    refine ⟨_, rfl, ?_⟩
    replace hh := hh.ext hb_
    refine s_assign (ev_bool rfl) (by decide) ?_
    refine wl_end ?_
    refine wc_ret ?_
    refine k_ret ?_
    -- at ('end', 'ret')
    refine ret1 (by first | exact .inr rfl | exact .inl rfl) rfl rfl ?_
    exact ⟨rfl, hh.below⟩
end Go.Proofs.Ytgljgalcbbjfgaa
