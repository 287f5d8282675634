/- The walk through MonoBack. -/
import Derived.Test.YtgljgalcbbjfgaaMonoL
import Derived.Test.YtgljgalcbbjfgaaMonoK
namespace Go.Proofs.Ytgljgalcbbjfgaa
open Go.RowKit
section
variable {P : Program} {N : Nat} {ops : Array Oper} {Q : Kq} {ρ : Rf} {w : World} {rest : List Oper} {d : Nat} {ty : TypeId} {pos : String} {af : Array Edge} {t u : TypeId} {x y : Operand}
theorem s_eqlb_t2 {a b : Bool} (ht : P.underlying t = some .bool) (hx : ev ρ x = .bool a) (hy : ev ρ y = .bool b) (h : a = b) (hN : d < N) (kk : WL P N ops Q rest (upd ρ d (.bool true)) w) :
    WL P N ops Q (⟨some d, .binOp .eql t x y u, ty, pos, af, none⟩ :: rest) ρ w := s_eql_bool ht hx hy hN (by rw [h, beq_self_eq_true]; exact kk)
end
theorem deg_bd (l : List UInt8) : 0 ≤ degL l ∧ degL l ≤ l.length * 127 := by
  have h := sum_bd (l := expsL l) 127 (by omega) (fun _ _ h => exps_bd h) (expsL l).length
  rw [List.take_of_length_le (Nat.le_refl _)] at h
  have := length_exps l
  exact ⟨h.1, by unfold degL; omega⟩
theorem monoBack_calls (a b c : ByteArray) (w : World) : Calls Try.prog 6 #[.string a, .string b, .string c] w fun e w' => e = .returned (.bool true) ∧ Below w.heap.size w w' := by
  have hh := Hp.start w
  by_cases hbig : a.size ≤ 500 ∧ b.size ≤ 500 ∧ c.size ≤ 500
  · obtain ⟨ha, hb, hc⟩ := hbig
    by_cases h : (mulL a.data.toList c.data.toList).2 = 0
    · have hsa := ba_size a
      have hsb := ba_size b
      have hsc := ba_size c
      have hlm := length_mul h
      have hms : (str (mulL a.data.toList c.data.toList).1).size ≤ 100000 := by rw [str_size]; omega
      have hd1 : divL (str (mulL a.data.toList c.data.toList).1).data.toList c.data.toList = (a.data.toList, true) := by rw [str_toList]; exact div_r h
      have hd2 : divL (str (mulL a.data.toList c.data.toList).1).data.toList a.data.toList = (c.data.toList, true) := by rw [str_toList]; exact div_l h
      have hdg : degL (str (mulL a.data.toList c.data.toList).1).data.toList = degL a.data.toList + degL c.data.toList := by rw [str_toList]; exact deg_mul h
      have hba := deg_bd a.data.toList
      have hbc := deg_bd c.data.toList
      have hea := str_of a
      have hec := str_of c
      by_cases h2 : (mulL b.data.toList c.data.toList).2 = 0
      · have hord := order_mul h h2
        have hless : Op.bytesLess (str (mulL a.data.toList c.data.toList).1).toList (str (mulL b.data.toList c.data.toList).1).toList = Op.bytesLess a.toList b.toList := by
          rw [ba_toList, ba_toList, ba_toList, ba_toList, str_toList, str_toList]; exact hord.1
        by_cases hab : a = b
        · have hmm : str (mulL a.data.toList c.data.toList).1 = str (mulL b.data.toList c.data.toList).1 := by rw [hab]
          refine calls_vc (N := 109) (l := [.string a, .string b, .string c]) Try.func6 rfl rfl (by simp) ?_
          refine wc_seq ?_
          refine wc_region ?_
          refine s_assign (ev_bool rfl) (by decide) ?_
          refine wl_end ?_
          refine wc_seq ?_
          refine wc_seq ?_
          refine wc_region ?_
          refine s_move (ev_str rfl) (by decide) ?_
          refine s_len_str UIs.out rfl (by decide) ?_
          first | refine s_gtr_t rfl rfl (by omega) (by decide) ?_ | refine s_gtr_f rfl rfl (by omega) (by decide) ?_
          refine s_move (ev_bool rfl) (by decide) ?_
          first | (refine wl_guard_skip (by decide) rfl rfl (by decide) ?_) | (refine wl_guard_take rfl rfl ?_; (refine s_move (ev_str rfl) (by decide) ?_)) | (refine wl_guard_skipV (by decide) rfl rfl ?_)
          first | (refine wl_guard_skip (by decide) rfl rfl (by decide) ?_) | (refine wl_guard_take rfl rfl ?_; (refine s_len_str UIs.out rfl (by decide) ?_)) | (refine wl_guard_skipV (by decide) rfl rfl ?_)
          first | (refine wl_guard_skip (by decide) rfl rfl (by decide) ?_) | (refine wl_guard_take rfl rfl ?_; (first | refine s_gtr_t rfl rfl (by omega) (by decide) ?_ | refine s_gtr_f rfl rfl (by omega) (by decide) ?_)) | (refine wl_guard_skipV (by decide) rfl rfl ?_)
          first | refine s_pick_t rfl (ev_bool rfl) (by decide) ?_ | refine s_pick_f rfl (ev_bool rfl) (by decide) ?_
          refine s_move (ev_bool rfl) (by decide) ?_
          first | (refine wl_guard_skip (by decide) rfl rfl (by decide) ?_) | (refine wl_guard_take rfl rfl ?_; (refine s_move (ev_str rfl) (by decide) ?_)) | (refine wl_guard_skipV (by decide) rfl rfl ?_)
          first | (refine wl_guard_skip (by decide) rfl rfl (by decide) ?_) | (refine wl_guard_take rfl rfl ?_; (refine s_len_str UIs.out rfl (by decide) ?_)) | (refine wl_guard_skipV (by decide) rfl rfl ?_)
          first | (refine wl_guard_skip (by decide) rfl rfl (by decide) ?_) | (refine wl_guard_take rfl rfl ?_; (first | refine s_gtr_t rfl rfl (by omega) (by decide) ?_ | refine s_gtr_f rfl rfl (by omega) (by decide) ?_)) | (refine wl_guard_skipV (by decide) rfl rfl ?_)
          first | refine s_pick_t rfl (ev_bool rfl) (by decide) ?_ | refine s_pick_f rfl (ev_bool rfl) (by decide) ?_
          refine wl_end ?_
          refine wc_cond_f rfl ?_
          refine wc_skip ?_
          refine k_then ?_
          refine wc_seq ?_
          refine wc_region ?_
          refine s_move (ev_str rfl) (by decide) ?_
          refine s_move (ev_str rfl) (by decide) ?_
          -- at some 32 := Op.call { callee := Callee.value (Operand.func 18), args := #[Operand.tmp 30, Operand.tmp 
          refine s_callf (mul_calls a c _ (by omega) (by omega)) FnIs.out rfl (by decide) ?_
          rintro e_ w32 ⟨rfl, hb_⟩
          refine ⟨_, rfl, ?_⟩
          replace hh := hh.ext hb_
          refine s_move (ev_tup rfl) (by decide) ?_
          refine s_extract rfl rfl (by decide) ?_
          refine s_extract rfl rfl (by decide) ?_
          refine s_assign (ev_str rfl) (by decide) ?_
          refine s_assign (ev_int rfl) (by decide) ?_
          refine wl_end ?_
          refine wc_seq ?_
          refine wc_region ?_
          refine s_move (ev_str rfl) (by decide) ?_
          refine s_move (ev_str rfl) (by decide) ?_
          -- at some 38 := Op.call { callee := Callee.value (Operand.func 18), args := #[Operand.tmp 36, Operand.tmp 
          refine s_callf (mul_calls b c _ (by omega) (by omega)) FnIs.out rfl (by decide) ?_
          rintro e_ w38 ⟨rfl, hb_⟩
          refine ⟨_, rfl, ?_⟩
          replace hh := hh.ext hb_
          refine s_move (ev_tup rfl) (by decide) ?_
          refine s_extract rfl rfl (by decide) ?_
          refine s_extract rfl rfl (by decide) ?_
          refine s_assign (ev_str rfl) (by decide) ?_
          refine s_assign (ev_int rfl) (by decide) ?_
          refine wl_end ?_
          refine wc_seq ?_
          refine wc_seq ?_
          refine wc_region ?_
          refine s_move (ev_int rfl) (by decide) ?_
          first | refine s_neq_t rfl rfl (by omega) (by decide) ?_ | refine s_neq_f rfl rfl (by omega) (by decide) ?_
          refine wl_end ?_
          refine wc_cond_f rfl ?_
          refine wc_skip ?_
          refine k_then ?_
          refine wc_seq ?_
          refine wc_region ?_
          refine s_move (ev_str rfl) (by decide) ?_
          refine s_move (ev_str rfl) (by decide) ?_
          -- at some 51 := Op.call { callee := Callee.value (Operand.func 20), args := #[Operand.tmp 49, Operand.tmp 
          refine s_callf (div_calls _ c _ hms (by omega)) FnIs.out rfl (by decide) ?_
          rintro e_ w51 ⟨rfl, hb_⟩
          refine ⟨_, rfl, ?_⟩
          replace hh := hh.ext hb_
          rw [hd1]
          refine s_move (ev_tup rfl) (by decide) ?_
          refine s_extract rfl rfl (by decide) ?_
          refine s_extract rfl rfl (by decide) ?_
          refine s_assign (ev_str rfl) (by decide) ?_
          refine s_assign (ev_bool rfl) (by decide) ?_
          refine wl_end ?_
          refine wc_seq ?_
          refine wc_region ?_
          refine s_move (ev_str rfl) (by decide) ?_
          refine s_move (ev_str rfl) (by decide) ?_
          -- at some 57 := Op.call { callee := Callee.value (Operand.func 20), args := #[Operand.tmp 55, Operand.tmp 
          refine s_callf (div_calls _ a _ hms (by omega)) FnIs.out rfl (by decide) ?_
          rintro e_ w57 ⟨rfl, hb_⟩
          refine ⟨_, rfl, ?_⟩
          replace hh := hh.ext hb_
          rw [hd2]
          refine s_move (ev_tup rfl) (by decide) ?_
          refine s_extract rfl rfl (by decide) ?_
          refine s_extract rfl rfl (by decide) ?_
          refine s_assign (ev_str rfl) (by decide) ?_
          refine s_assign (ev_bool rfl) (by decide) ?_
          refine wl_end ?_
          refine wc_seq ?_
          refine wc_seq ?_
          refine wc_region ?_
          refine s_move (ev_bool rfl) (by decide) ?_
          refine s_not rfl (by decide) ?_
          refine s_move (ev_bool rfl) (by decide) ?_
          first | (refine wl_guard_skip (by decide) rfl rfl (by decide) ?_) | (refine wl_guard_take rfl rfl ?_; (refine s_move (ev_bool rfl) (by decide) ?_)) | (refine wl_guard_skipV (by decide) rfl rfl ?_)
          first | (refine wl_guard_skip (by decide) rfl rfl (by decide) ?_) | (refine wl_guard_take rfl rfl ?_; (refine s_not rfl (by decide) ?_)) | (refine wl_guard_skipV (by decide) rfl rfl ?_)
          first | refine s_pick_t rfl (ev_bool rfl) (by decide) ?_ | refine s_pick_f rfl (ev_bool rfl) (by decide) ?_
          refine s_move (ev_bool rfl) (by decide) ?_
          first | (refine wl_guard_skip (by decide) rfl rfl (by decide) ?_) | (refine wl_guard_take rfl rfl ?_; (refine s_move (ev_str rfl) (by decide) ?_)) | (refine wl_guard_skipV (by decide) rfl rfl ?_)
          first | (refine wl_guard_skip (by decide) rfl rfl (by decide) ?_) | (refine wl_guard_take rfl rfl ?_; (refine s_move (ev_str rfl) (by decide) ?_)) | (refine wl_guard_skipV (by decide) rfl rfl ?_)
          first | (refine wl_guard_skip (by decide) rfl rfl (by decide) ?_) | (refine wl_guard_take rfl rfl ?_; (first | refine s_neq_str_f rfl rfl (by first | rfl | assumption | decide) (by decide) ?_ | refine s_neq_str_t rfl rfl (by first | assumption | decide) (by decide) ?_)) | (refine wl_guard_skipV (by decide) rfl rfl ?_)
          first | refine s_pick_t rfl (ev_bool rfl) (by decide) ?_ | refine s_pick_f rfl (ev_bool rfl) (by decide) ?_
          refine s_move (ev_bool rfl) (by decide) ?_
          first | (refine wl_guard_skip (by decide) rfl rfl (by decide) ?_) | (refine wl_guard_take rfl rfl ?_; (refine s_move (ev_str rfl) (by decide) ?_)) | (refine wl_guard_skipV (by decide) rfl rfl ?_)
          first | (refine wl_guard_skip (by decide) rfl rfl (by decide) ?_) | (refine wl_guard_take rfl rfl ?_; (refine s_move (ev_str rfl) (by decide) ?_)) | (refine wl_guard_skipV (by decide) rfl rfl ?_)
          first | (refine wl_guard_skip (by decide) rfl rfl (by decide) ?_) | (refine wl_guard_take rfl rfl ?_; (first | refine s_neq_str_f rfl rfl (by first | rfl | assumption | decide) (by decide) ?_ | refine s_neq_str_t rfl rfl (by first | assumption | decide) (by decide) ?_)) | (refine wl_guard_skipV (by decide) rfl rfl ?_)
          first | refine s_pick_t rfl (ev_bool rfl) (by decide) ?_ | refine s_pick_f rfl (ev_bool rfl) (by decide) ?_
          refine s_move (ev_bool rfl) (by decide) ?_
          first | (refine wl_guard_skip (by decide) rfl rfl (by decide) ?_) | (refine wl_guard_take rfl rfl ?_; (refine s_move (ev_str rfl) (by decide) ?_)) | (refine wl_guard_skipV (by decide) rfl rfl ?_)
          -- at guarded Op.call { callee := Callee.value (Operand.func 14), args := #[Operand.tmp 77], a
          refine wl_guard_take rfl rfl ?_
          refine s_callf (degree_calls _ _ hms) FnIs.out rfl (by decide) ?_
          rintro e_ w78 ⟨rfl, hb_⟩
          refine ⟨_, rfl, ?_⟩
          replace hh := hh.ext hb_
          rw [hdg]
          first | (refine wl_guard_skip (by decide) rfl rfl (by decide) ?_) | (refine wl_guard_take rfl rfl ?_; (refine s_move (ev_str rfl) (by decide) ?_)) | (refine wl_guard_skipV (by decide) rfl rfl ?_)
          -- at guarded Op.call { callee := Callee.value (Operand.func 14), args := #[Operand.tmp 79], a
          refine wl_guard_take rfl rfl ?_
          refine s_callf (degree_calls a _ (by omega)) FnIs.out rfl (by decide) ?_
          rintro e_ w80 ⟨rfl, hb_⟩
          refine ⟨_, rfl, ?_⟩
          replace hh := hh.ext hb_
          first | (refine wl_guard_skip (by decide) rfl rfl (by decide) ?_) | (refine wl_guard_take rfl rfl ?_; (refine s_move (ev_str rfl) (by decide) ?_)) | (refine wl_guard_skipV (by decide) rfl rfl ?_)
          -- at guarded Op.call { callee := Callee.value (Operand.func 14), args := #[Operand.tmp 81], a
          refine wl_guard_take rfl rfl ?_
          refine s_callf (degree_calls c _ (by omega)) FnIs.out rfl (by decide) ?_
          rintro e_ w82 ⟨rfl, hb_⟩
          refine ⟨_, rfl, ?_⟩
          replace hh := hh.ext hb_
          first | (refine wl_guard_skip (by decide) rfl rfl (by decide) ?_) | (refine wl_guard_take rfl rfl ?_; (refine s_addi rfl rfl (by omega) (by omega) (by decide) ?_)) | (refine wl_guard_skipV (by decide) rfl rfl ?_)
          first | (refine wl_guard_skip (by decide) rfl rfl (by decide) ?_) | (refine wl_guard_take rfl rfl ?_; (first | refine s_neq_t rfl rfl (by omega) (by decide) ?_ | refine s_neq_f rfl rfl (by omega) (by decide) ?_)) | (refine wl_guard_skipV (by decide) rfl rfl ?_)
          first | refine s_pick_t rfl (ev_bool rfl) (by decide) ?_ | refine s_pick_f rfl (ev_bool rfl) (by decide) ?_
          refine wl_end ?_
          refine wc_cond_f rfl ?_
          refine wc_skip ?_
          refine k_then ?_
          refine wc_seq ?_
          refine wc_region ?_
          refine s_move (ev_int rfl) (by decide) ?_
          first | refine s_neq_t rfl rfl (by omega) (by decide) ?_ | refine s_neq_f rfl rfl (by omega) (by decide) ?_
          refine s_move (ev_bool rfl) (by decide) ?_
          first | (refine wl_guard_skip (by decide) rfl rfl (by decide) ?_) | (refine wl_guard_take rfl rfl ?_; (refine s_move (ev_str rfl) (by decide) ?_)) | (refine wl_guard_skipV (by decide) rfl rfl ?_)
          first | (refine wl_guard_skip (by decide) rfl rfl (by decide) ?_) | (refine wl_guard_take rfl rfl ?_; (refine s_move (ev_str rfl) (by decide) ?_)) | (refine wl_guard_skipV (by decide) rfl rfl ?_)
          first | (refine wl_guard_skip (by decide) rfl rfl (by decide) ?_) | (refine wl_guard_take rfl rfl ?_; (refine s_lss_str rfl rfl (by decide) ?_)) | (refine wl_guard_skipV (by decide) rfl rfl ?_)
          first | (refine wl_guard_skip (by decide) rfl rfl (by decide) ?_) | (refine wl_guard_take rfl rfl ?_; (refine s_move (ev_str rfl) (by decide) ?_)) | (refine wl_guard_skipV (by decide) rfl rfl ?_)
          first | (refine wl_guard_skip (by decide) rfl rfl (by decide) ?_) | (refine wl_guard_take rfl rfl ?_; (refine s_move (ev_str rfl) (by decide) ?_)) | (refine wl_guard_skipV (by decide) rfl rfl ?_)
          first | (refine wl_guard_skip (by decide) rfl rfl (by decide) ?_) | (refine wl_guard_take rfl rfl ?_; (refine s_lss_str rfl rfl (by decide) ?_)) | (refine wl_guard_skipV (by decide) rfl rfl ?_)
          first | (refine wl_guard_skip (by decide) rfl rfl (by decide) ?_) | (refine wl_guard_take rfl rfl ?_; (refine s_eqlb_t2 UIs.out rfl rfl hless (by decide) ?_)) | (refine wl_guard_skipV (by decide) rfl rfl ?_)
          first | (refine wl_guard_skip (by decide) rfl rfl (by decide) ?_) | (refine wl_guard_take rfl rfl ?_; (refine s_move (ev_bool rfl) (by decide) ?_)) | (refine wl_guard_skipV (by decide) rfl rfl ?_)
          first | (refine wl_guard_skip (by decide) rfl rfl (by decide) ?_) | (refine wl_guard_take rfl rfl ?_; (refine s_move (ev_str rfl) (by decide) ?_)) | (refine wl_guard_skipV (by decide) rfl rfl ?_)
          first | (refine wl_guard_skip (by decide) rfl rfl (by decide) ?_) | (refine wl_guard_take rfl rfl ?_; (refine s_move (ev_str rfl) (by decide) ?_)) | (refine wl_guard_skipV (by decide) rfl rfl ?_)
          first | (refine wl_guard_skip (by decide) rfl rfl (by decide) ?_) | (refine wl_guard_take rfl rfl ?_; (first | refine s_eql_str_t rfl rfl (by first | rfl | assumption | decide) (by decide) ?_ | refine s_eql_str_f rfl rfl (by first | assumption | decide) (by decide) ?_)) | (refine wl_guard_skipV (by decide) rfl rfl ?_)
          first | (refine wl_guard_skip (by decide) rfl rfl (by decide) ?_) | (refine wl_guard_take rfl rfl ?_; (refine s_move (ev_str rfl) (by decide) ?_)) | (refine wl_guard_skipV (by decide) rfl rfl ?_)
          first | (refine wl_guard_skip (by decide) rfl rfl (by decide) ?_) | (refine wl_guard_take rfl rfl ?_; (refine s_move (ev_str rfl) (by decide) ?_)) | (refine wl_guard_skipV (by decide) rfl rfl ?_)
          first | (refine wl_guard_skip (by decide) rfl rfl (by decide) ?_) | (refine wl_guard_take rfl rfl ?_; (first | refine s_eql_str_t rfl rfl (by first | rfl | assumption | decide) (by decide) ?_ | refine s_eql_str_f rfl rfl (by first | assumption | decide) (by decide) ?_)) | (refine wl_guard_skipV (by decide) rfl rfl ?_)
          first | (refine wl_guard_skip (by decide) rfl rfl (by decide) ?_) | (refine wl_guard_take rfl rfl ?_; (refine s_eqlb_t UIs.out rfl rfl (by decide) ?_)) | (refine wl_guard_skipV (by decide) rfl rfl ?_)
          first | (refine wl_guard_skip (by decide) rfl rfl (by decide) ?_) | (refine wl_guard_take rfl rfl ?_; (first | refine s_pick_t rfl (ev_bool rfl) (by decide) ?_ | refine s_pick_f rfl (ev_bool rfl) (by decide) ?_)) | (refine wl_guard_skipV (by decide) rfl rfl ?_)
          first | refine s_pick_t rfl (ev_bool rfl) (by decide) ?_ | refine s_pick_f rfl (ev_bool rfl) (by decide) ?_
          refine s_move (ev_bool rfl) (by decide) ?_
          -- at guarded Op.call { callee := Callee.value (Operand.func 8), args := #[], argTypes := #[] 
          refine wl_guard_take rfl rfl ?_
          refine s_callf (awake_calls _) FnIs.out rfl (by decide) ?_
          rintro e_ w107 ⟨rfl, hb_⟩
          refine ⟨_, rfl, ?_⟩
          replace hh := hh.ext hb_
          first | refine s_pick_t rfl (ev_bool rfl) (by decide) ?_ | refine s_pick_f rfl (ev_bool rfl) (by decide) ?_
          refine s_assign (ev_bool rfl) (by decide) ?_
          refine wl_end ?_
          refine wc_ret ?_
          -- at ('end', 'ret')
          refine ret1 (by first | exact .inr rfl | exact .inl rfl) rfl rfl ?_
          exact ⟨rfl, hh.below⟩
        · have hmm : ¬ str (mulL a.data.toList c.data.toList).1 = str (mulL b.data.toList c.data.toList).1 := fun he => hab (ba_ext (hord.2.1 (str_inj.1 he)))
          refine calls_vc (N := 109) (l := [.string a, .string b, .string c]) Try.func6 rfl rfl (by simp) ?_
          refine wc_seq ?_
          refine wc_region ?_
          refine s_assign (ev_bool rfl) (by decide) ?_
          refine wl_end ?_
          refine wc_seq ?_
          refine wc_seq ?_
          refine wc_region ?_
          refine s_move (ev_str rfl) (by decide) ?_
          refine s_len_str UIs.out rfl (by decide) ?_
          first | refine s_gtr_t rfl rfl (by omega) (by decide) ?_ | refine s_gtr_f rfl rfl (by omega) (by decide) ?_
          refine s_move (ev_bool rfl) (by decide) ?_
          first | (refine wl_guard_skip (by decide) rfl rfl (by decide) ?_) | (refine wl_guard_take rfl rfl ?_; (refine s_move (ev_str rfl) (by decide) ?_)) | (refine wl_guard_skipV (by decide) rfl rfl ?_)
          first | (refine wl_guard_skip (by decide) rfl rfl (by decide) ?_) | (refine wl_guard_take rfl rfl ?_; (refine s_len_str UIs.out rfl (by decide) ?_)) | (refine wl_guard_skipV (by decide) rfl rfl ?_)
          first | (refine wl_guard_skip (by decide) rfl rfl (by decide) ?_) | (refine wl_guard_take rfl rfl ?_; (first | refine s_gtr_t rfl rfl (by omega) (by decide) ?_ | refine s_gtr_f rfl rfl (by omega) (by decide) ?_)) | (refine wl_guard_skipV (by decide) rfl rfl ?_)
          first | refine s_pick_t rfl (ev_bool rfl) (by decide) ?_ | refine s_pick_f rfl (ev_bool rfl) (by decide) ?_
          refine s_move (ev_bool rfl) (by decide) ?_
          first | (refine wl_guard_skip (by decide) rfl rfl (by decide) ?_) | (refine wl_guard_take rfl rfl ?_; (refine s_move (ev_str rfl) (by decide) ?_)) | (refine wl_guard_skipV (by decide) rfl rfl ?_)
          first | (refine wl_guard_skip (by decide) rfl rfl (by decide) ?_) | (refine wl_guard_take rfl rfl ?_; (refine s_len_str UIs.out rfl (by decide) ?_)) | (refine wl_guard_skipV (by decide) rfl rfl ?_)
          first | (refine wl_guard_skip (by decide) rfl rfl (by decide) ?_) | (refine wl_guard_take rfl rfl ?_; (first | refine s_gtr_t rfl rfl (by omega) (by decide) ?_ | refine s_gtr_f rfl rfl (by omega) (by decide) ?_)) | (refine wl_guard_skipV (by decide) rfl rfl ?_)
          first | refine s_pick_t rfl (ev_bool rfl) (by decide) ?_ | refine s_pick_f rfl (ev_bool rfl) (by decide) ?_
          refine wl_end ?_
          refine wc_cond_f rfl ?_
          refine wc_skip ?_
          refine k_then ?_
          refine wc_seq ?_
          refine wc_region ?_
          refine s_move (ev_str rfl) (by decide) ?_
          refine s_move (ev_str rfl) (by decide) ?_
          -- at some 32 := Op.call { callee := Callee.value (Operand.func 18), args := #[Operand.tmp 30, Operand.tmp 
          refine s_callf (mul_calls a c _ (by omega) (by omega)) FnIs.out rfl (by decide) ?_
          rintro e_ w32 ⟨rfl, hb_⟩
          refine ⟨_, rfl, ?_⟩
          replace hh := hh.ext hb_
          refine s_move (ev_tup rfl) (by decide) ?_
          refine s_extract rfl rfl (by decide) ?_
          refine s_extract rfl rfl (by decide) ?_
          refine s_assign (ev_str rfl) (by decide) ?_
          refine s_assign (ev_int rfl) (by decide) ?_
          refine wl_end ?_
          refine wc_seq ?_
          refine wc_region ?_
          refine s_move (ev_str rfl) (by decide) ?_
          refine s_move (ev_str rfl) (by decide) ?_
          -- at some 38 := Op.call { callee := Callee.value (Operand.func 18), args := #[Operand.tmp 36, Operand.tmp 
          refine s_callf (mul_calls b c _ (by omega) (by omega)) FnIs.out rfl (by decide) ?_
          rintro e_ w38 ⟨rfl, hb_⟩
          refine ⟨_, rfl, ?_⟩
          replace hh := hh.ext hb_
          refine s_move (ev_tup rfl) (by decide) ?_
          refine s_extract rfl rfl (by decide) ?_
          refine s_extract rfl rfl (by decide) ?_
          refine s_assign (ev_str rfl) (by decide) ?_
          refine s_assign (ev_int rfl) (by decide) ?_
          refine wl_end ?_
          refine wc_seq ?_
          refine wc_seq ?_
          refine wc_region ?_
          refine s_move (ev_int rfl) (by decide) ?_
          first | refine s_neq_t rfl rfl (by omega) (by decide) ?_ | refine s_neq_f rfl rfl (by omega) (by decide) ?_
          refine wl_end ?_
          refine wc_cond_f rfl ?_
          refine wc_skip ?_
          refine k_then ?_
          refine wc_seq ?_
          refine wc_region ?_
          refine s_move (ev_str rfl) (by decide) ?_
          refine s_move (ev_str rfl) (by decide) ?_
          -- at some 51 := Op.call { callee := Callee.value (Operand.func 20), args := #[Operand.tmp 49, Operand.tmp 
          refine s_callf (div_calls _ c _ hms (by omega)) FnIs.out rfl (by decide) ?_
          rintro e_ w51 ⟨rfl, hb_⟩
          refine ⟨_, rfl, ?_⟩
          replace hh := hh.ext hb_
          rw [hd1]
          refine s_move (ev_tup rfl) (by decide) ?_
          refine s_extract rfl rfl (by decide) ?_
          refine s_extract rfl rfl (by decide) ?_
          refine s_assign (ev_str rfl) (by decide) ?_
          refine s_assign (ev_bool rfl) (by decide) ?_
          refine wl_end ?_
          refine wc_seq ?_
          refine wc_region ?_
          refine s_move (ev_str rfl) (by decide) ?_
          refine s_move (ev_str rfl) (by decide) ?_
          -- at some 57 := Op.call { callee := Callee.value (Operand.func 20), args := #[Operand.tmp 55, Operand.tmp 
          refine s_callf (div_calls _ a _ hms (by omega)) FnIs.out rfl (by decide) ?_
          rintro e_ w57 ⟨rfl, hb_⟩
          refine ⟨_, rfl, ?_⟩
          replace hh := hh.ext hb_
          rw [hd2]
          refine s_move (ev_tup rfl) (by decide) ?_
          refine s_extract rfl rfl (by decide) ?_
          refine s_extract rfl rfl (by decide) ?_
          refine s_assign (ev_str rfl) (by decide) ?_
          refine s_assign (ev_bool rfl) (by decide) ?_
          refine wl_end ?_
          refine wc_seq ?_
          refine wc_seq ?_
          refine wc_region ?_
          refine s_move (ev_bool rfl) (by decide) ?_
          refine s_not rfl (by decide) ?_
          refine s_move (ev_bool rfl) (by decide) ?_
          first | (refine wl_guard_skip (by decide) rfl rfl (by decide) ?_) | (refine wl_guard_take rfl rfl ?_; (refine s_move (ev_bool rfl) (by decide) ?_)) | (refine wl_guard_skipV (by decide) rfl rfl ?_)
          first | (refine wl_guard_skip (by decide) rfl rfl (by decide) ?_) | (refine wl_guard_take rfl rfl ?_; (refine s_not rfl (by decide) ?_)) | (refine wl_guard_skipV (by decide) rfl rfl ?_)
          first | refine s_pick_t rfl (ev_bool rfl) (by decide) ?_ | refine s_pick_f rfl (ev_bool rfl) (by decide) ?_
          refine s_move (ev_bool rfl) (by decide) ?_
          first | (refine wl_guard_skip (by decide) rfl rfl (by decide) ?_) | (refine wl_guard_take rfl rfl ?_; (refine s_move (ev_str rfl) (by decide) ?_)) | (refine wl_guard_skipV (by decide) rfl rfl ?_)
          first | (refine wl_guard_skip (by decide) rfl rfl (by decide) ?_) | (refine wl_guard_take rfl rfl ?_; (refine s_move (ev_str rfl) (by decide) ?_)) | (refine wl_guard_skipV (by decide) rfl rfl ?_)
          first | (refine wl_guard_skip (by decide) rfl rfl (by decide) ?_) | (refine wl_guard_take rfl rfl ?_; (first | refine s_neq_str_f rfl rfl (by first | rfl | assumption | decide) (by decide) ?_ | refine s_neq_str_t rfl rfl (by first | assumption | decide) (by decide) ?_)) | (refine wl_guard_skipV (by decide) rfl rfl ?_)
          first | refine s_pick_t rfl (ev_bool rfl) (by decide) ?_ | refine s_pick_f rfl (ev_bool rfl) (by decide) ?_
          refine s_move (ev_bool rfl) (by decide) ?_
          first | (refine wl_guard_skip (by decide) rfl rfl (by decide) ?_) | (refine wl_guard_take rfl rfl ?_; (refine s_move (ev_str rfl) (by decide) ?_)) | (refine wl_guard_skipV (by decide) rfl rfl ?_)
          first | (refine wl_guard_skip (by decide) rfl rfl (by decide) ?_) | (refine wl_guard_take rfl rfl ?_; (refine s_move (ev_str rfl) (by decide) ?_)) | (refine wl_guard_skipV (by decide) rfl rfl ?_)
          first | (refine wl_guard_skip (by decide) rfl rfl (by decide) ?_) | (refine wl_guard_take rfl rfl ?_; (first | refine s_neq_str_f rfl rfl (by first | rfl | assumption | decide) (by decide) ?_ | refine s_neq_str_t rfl rfl (by first | assumption | decide) (by decide) ?_)) | (refine wl_guard_skipV (by decide) rfl rfl ?_)
          first | refine s_pick_t rfl (ev_bool rfl) (by decide) ?_ | refine s_pick_f rfl (ev_bool rfl) (by decide) ?_
          refine s_move (ev_bool rfl) (by decide) ?_
          first | (refine wl_guard_skip (by decide) rfl rfl (by decide) ?_) | (refine wl_guard_take rfl rfl ?_; (refine s_move (ev_str rfl) (by decide) ?_)) | (refine wl_guard_skipV (by decide) rfl rfl ?_)
          -- at guarded Op.call { callee := Callee.value (Operand.func 14), args := #[Operand.tmp 77], a
          refine wl_guard_take rfl rfl ?_
          refine s_callf (degree_calls _ _ hms) FnIs.out rfl (by decide) ?_
          rintro e_ w78 ⟨rfl, hb_⟩
          refine ⟨_, rfl, ?_⟩
          replace hh := hh.ext hb_
          rw [hdg]
          first | (refine wl_guard_skip (by decide) rfl rfl (by decide) ?_) | (refine wl_guard_take rfl rfl ?_; (refine s_move (ev_str rfl) (by decide) ?_)) | (refine wl_guard_skipV (by decide) rfl rfl ?_)
          -- at guarded Op.call { callee := Callee.value (Operand.func 14), args := #[Operand.tmp 79], a
          refine wl_guard_take rfl rfl ?_
          refine s_callf (degree_calls a _ (by omega)) FnIs.out rfl (by decide) ?_
          rintro e_ w80 ⟨rfl, hb_⟩
          refine ⟨_, rfl, ?_⟩
          replace hh := hh.ext hb_
          first | (refine wl_guard_skip (by decide) rfl rfl (by decide) ?_) | (refine wl_guard_take rfl rfl ?_; (refine s_move (ev_str rfl) (by decide) ?_)) | (refine wl_guard_skipV (by decide) rfl rfl ?_)
          -- at guarded Op.call { callee := Callee.value (Operand.func 14), args := #[Operand.tmp 81], a
          refine wl_guard_take rfl rfl ?_
          refine s_callf (degree_calls c _ (by omega)) FnIs.out rfl (by decide) ?_
          rintro e_ w82 ⟨rfl, hb_⟩
          refine ⟨_, rfl, ?_⟩
          replace hh := hh.ext hb_
          first | (refine wl_guard_skip (by decide) rfl rfl (by decide) ?_) | (refine wl_guard_take rfl rfl ?_; (refine s_addi rfl rfl (by omega) (by omega) (by decide) ?_)) | (refine wl_guard_skipV (by decide) rfl rfl ?_)
          first | (refine wl_guard_skip (by decide) rfl rfl (by decide) ?_) | (refine wl_guard_take rfl rfl ?_; (first | refine s_neq_t rfl rfl (by omega) (by decide) ?_ | refine s_neq_f rfl rfl (by omega) (by decide) ?_)) | (refine wl_guard_skipV (by decide) rfl rfl ?_)
          first | refine s_pick_t rfl (ev_bool rfl) (by decide) ?_ | refine s_pick_f rfl (ev_bool rfl) (by decide) ?_
          refine wl_end ?_
          refine wc_cond_f rfl ?_
          refine wc_skip ?_
          refine k_then ?_
          refine wc_seq ?_
          refine wc_region ?_
          refine s_move (ev_int rfl) (by decide) ?_
          first | refine s_neq_t rfl rfl (by omega) (by decide) ?_ | refine s_neq_f rfl rfl (by omega) (by decide) ?_
          refine s_move (ev_bool rfl) (by decide) ?_
          first | (refine wl_guard_skip (by decide) rfl rfl (by decide) ?_) | (refine wl_guard_take rfl rfl ?_; (refine s_move (ev_str rfl) (by decide) ?_)) | (refine wl_guard_skipV (by decide) rfl rfl ?_)
          first | (refine wl_guard_skip (by decide) rfl rfl (by decide) ?_) | (refine wl_guard_take rfl rfl ?_; (refine s_move (ev_str rfl) (by decide) ?_)) | (refine wl_guard_skipV (by decide) rfl rfl ?_)
          first | (refine wl_guard_skip (by decide) rfl rfl (by decide) ?_) | (refine wl_guard_take rfl rfl ?_; (refine s_lss_str rfl rfl (by decide) ?_)) | (refine wl_guard_skipV (by decide) rfl rfl ?_)
          first | (refine wl_guard_skip (by decide) rfl rfl (by decide) ?_) | (refine wl_guard_take rfl rfl ?_; (refine s_move (ev_str rfl) (by decide) ?_)) | (refine wl_guard_skipV (by decide) rfl rfl ?_)
          first | (refine wl_guard_skip (by decide) rfl rfl (by decide) ?_) | (refine wl_guard_take rfl rfl ?_; (refine s_move (ev_str rfl) (by decide) ?_)) | (refine wl_guard_skipV (by decide) rfl rfl ?_)
          first | (refine wl_guard_skip (by decide) rfl rfl (by decide) ?_) | (refine wl_guard_take rfl rfl ?_; (refine s_lss_str rfl rfl (by decide) ?_)) | (refine wl_guard_skipV (by decide) rfl rfl ?_)
          first | (refine wl_guard_skip (by decide) rfl rfl (by decide) ?_) | (refine wl_guard_take rfl rfl ?_; (refine s_eqlb_t2 UIs.out rfl rfl hless (by decide) ?_)) | (refine wl_guard_skipV (by decide) rfl rfl ?_)
          first | (refine wl_guard_skip (by decide) rfl rfl (by decide) ?_) | (refine wl_guard_take rfl rfl ?_; (refine s_move (ev_bool rfl) (by decide) ?_)) | (refine wl_guard_skipV (by decide) rfl rfl ?_)
          first | (refine wl_guard_skip (by decide) rfl rfl (by decide) ?_) | (refine wl_guard_take rfl rfl ?_; (refine s_move (ev_str rfl) (by decide) ?_)) | (refine wl_guard_skipV (by decide) rfl rfl ?_)
          first | (refine wl_guard_skip (by decide) rfl rfl (by decide) ?_) | (refine wl_guard_take rfl rfl ?_; (refine s_move (ev_str rfl) (by decide) ?_)) | (refine wl_guard_skipV (by decide) rfl rfl ?_)
          first | (refine wl_guard_skip (by decide) rfl rfl (by decide) ?_) | (refine wl_guard_take rfl rfl ?_; (first | refine s_eql_str_t rfl rfl (by first | rfl | assumption | decide) (by decide) ?_ | refine s_eql_str_f rfl rfl (by first | assumption | decide) (by decide) ?_)) | (refine wl_guard_skipV (by decide) rfl rfl ?_)
          first | (refine wl_guard_skip (by decide) rfl rfl (by decide) ?_) | (refine wl_guard_take rfl rfl ?_; (refine s_move (ev_str rfl) (by decide) ?_)) | (refine wl_guard_skipV (by decide) rfl rfl ?_)
          first | (refine wl_guard_skip (by decide) rfl rfl (by decide) ?_) | (refine wl_guard_take rfl rfl ?_; (refine s_move (ev_str rfl) (by decide) ?_)) | (refine wl_guard_skipV (by decide) rfl rfl ?_)
          first | (refine wl_guard_skip (by decide) rfl rfl (by decide) ?_) | (refine wl_guard_take rfl rfl ?_; (first | refine s_eql_str_t rfl rfl (by first | rfl | assumption | decide) (by decide) ?_ | refine s_eql_str_f rfl rfl (by first | assumption | decide) (by decide) ?_)) | (refine wl_guard_skipV (by decide) rfl rfl ?_)
          first | (refine wl_guard_skip (by decide) rfl rfl (by decide) ?_) | (refine wl_guard_take rfl rfl ?_; (refine s_eqlb_t UIs.out rfl rfl (by decide) ?_)) | (refine wl_guard_skipV (by decide) rfl rfl ?_)
          first | (refine wl_guard_skip (by decide) rfl rfl (by decide) ?_) | (refine wl_guard_take rfl rfl ?_; (first | refine s_pick_t rfl (ev_bool rfl) (by decide) ?_ | refine s_pick_f rfl (ev_bool rfl) (by decide) ?_)) | (refine wl_guard_skipV (by decide) rfl rfl ?_)
          first | refine s_pick_t rfl (ev_bool rfl) (by decide) ?_ | refine s_pick_f rfl (ev_bool rfl) (by decide) ?_
          refine s_move (ev_bool rfl) (by decide) ?_
          -- at guarded Op.call { callee := Callee.value (Operand.func 8), args := #[], argTypes := #[] 
          refine wl_guard_take rfl rfl ?_
          refine s_callf (awake_calls _) FnIs.out rfl (by decide) ?_
          rintro e_ w107 ⟨rfl, hb_⟩
          refine ⟨_, rfl, ?_⟩
          replace hh := hh.ext hb_
          first | refine s_pick_t rfl (ev_bool rfl) (by decide) ?_ | refine s_pick_f rfl (ev_bool rfl) (by decide) ?_
          refine s_assign (ev_bool rfl) (by decide) ?_
          refine wl_end ?_
          refine wc_ret ?_
          -- at ('end', 'ret')
          refine ret1 (by first | exact .inr rfl | exact .inl rfl) rfl rfl ?_
          exact ⟨rfl, hh.below⟩
      · refine calls_vc (N := 109) (l := [.string a, .string b, .string c]) Try.func6 rfl rfl (by simp) ?_
        refine wc_seq ?_
        refine wc_region ?_
        refine s_assign (ev_bool rfl) (by decide) ?_
        refine wl_end ?_
        refine wc_seq ?_
        refine wc_seq ?_
        refine wc_region ?_
        refine s_move (ev_str rfl) (by decide) ?_
        refine s_len_str UIs.out rfl (by decide) ?_
        first | refine s_gtr_t rfl rfl (by omega) (by decide) ?_ | refine s_gtr_f rfl rfl (by omega) (by decide) ?_
        refine s_move (ev_bool rfl) (by decide) ?_
        first | (refine wl_guard_skip (by decide) rfl rfl (by decide) ?_) | (refine wl_guard_take rfl rfl ?_; (refine s_move (ev_str rfl) (by decide) ?_)) | (refine wl_guard_skipV (by decide) rfl rfl ?_)
        first | (refine wl_guard_skip (by decide) rfl rfl (by decide) ?_) | (refine wl_guard_take rfl rfl ?_; (refine s_len_str UIs.out rfl (by decide) ?_)) | (refine wl_guard_skipV (by decide) rfl rfl ?_)
        first | (refine wl_guard_skip (by decide) rfl rfl (by decide) ?_) | (refine wl_guard_take rfl rfl ?_; (first | refine s_gtr_t rfl rfl (by omega) (by decide) ?_ | refine s_gtr_f rfl rfl (by omega) (by decide) ?_)) | (refine wl_guard_skipV (by decide) rfl rfl ?_)
        first | refine s_pick_t rfl (ev_bool rfl) (by decide) ?_ | refine s_pick_f rfl (ev_bool rfl) (by decide) ?_
        refine s_move (ev_bool rfl) (by decide) ?_
        first | (refine wl_guard_skip (by decide) rfl rfl (by decide) ?_) | (refine wl_guard_take rfl rfl ?_; (refine s_move (ev_str rfl) (by decide) ?_)) | (refine wl_guard_skipV (by decide) rfl rfl ?_)
        first | (refine wl_guard_skip (by decide) rfl rfl (by decide) ?_) | (refine wl_guard_take rfl rfl ?_; (refine s_len_str UIs.out rfl (by decide) ?_)) | (refine wl_guard_skipV (by decide) rfl rfl ?_)
        first | (refine wl_guard_skip (by decide) rfl rfl (by decide) ?_) | (refine wl_guard_take rfl rfl ?_; (first | refine s_gtr_t rfl rfl (by omega) (by decide) ?_ | refine s_gtr_f rfl rfl (by omega) (by decide) ?_)) | (refine wl_guard_skipV (by decide) rfl rfl ?_)
        first | refine s_pick_t rfl (ev_bool rfl) (by decide) ?_ | refine s_pick_f rfl (ev_bool rfl) (by decide) ?_
        refine wl_end ?_
        refine wc_cond_f rfl ?_
        refine wc_skip ?_
        refine k_then ?_
        refine wc_seq ?_
        refine wc_region ?_
        refine s_move (ev_str rfl) (by decide) ?_
        refine s_move (ev_str rfl) (by decide) ?_
        -- at some 32 := Op.call { callee := Callee.value (Operand.func 18), args := #[Operand.tmp 30, Operand.tmp 
        refine s_callf (mul_calls a c _ (by omega) (by omega)) FnIs.out rfl (by decide) ?_
        rintro e_ w32 ⟨rfl, hb_⟩
        refine ⟨_, rfl, ?_⟩
        replace hh := hh.ext hb_
        refine s_move (ev_tup rfl) (by decide) ?_
        refine s_extract rfl rfl (by decide) ?_
        refine s_extract rfl rfl (by decide) ?_
        refine s_assign (ev_str rfl) (by decide) ?_
        refine s_assign (ev_int rfl) (by decide) ?_
        refine wl_end ?_
        refine wc_seq ?_
        refine wc_region ?_
        refine s_move (ev_str rfl) (by decide) ?_
        refine s_move (ev_str rfl) (by decide) ?_
        -- at some 38 := Op.call { callee := Callee.value (Operand.func 18), args := #[Operand.tmp 36, Operand.tmp 
        refine s_callf (mul_calls b c _ (by omega) (by omega)) FnIs.out rfl (by decide) ?_
        rintro e_ w38 ⟨rfl, hb_⟩
        refine ⟨_, rfl, ?_⟩
        replace hh := hh.ext hb_
        refine s_move (ev_tup rfl) (by decide) ?_
        refine s_extract rfl rfl (by decide) ?_
        refine s_extract rfl rfl (by decide) ?_
        refine s_assign (ev_str rfl) (by decide) ?_
        refine s_assign (ev_int rfl) (by decide) ?_
        refine wl_end ?_
        refine wc_seq ?_
        refine wc_seq ?_
        refine wc_region ?_
        refine s_move (ev_int rfl) (by decide) ?_
        first | refine s_neq_t rfl rfl (by omega) (by decide) ?_ | refine s_neq_f rfl rfl (by omega) (by decide) ?_
        refine wl_end ?_
        refine wc_cond_f rfl ?_
        refine wc_skip ?_
        refine k_then ?_
        refine wc_seq ?_
        refine wc_region ?_
        refine s_move (ev_str rfl) (by decide) ?_
        refine s_move (ev_str rfl) (by decide) ?_
        -- at some 51 := Op.call { callee := Callee.value (Operand.func 20), args := #[Operand.tmp 49, Operand.tmp 
        refine s_callf (div_calls _ c _ hms (by omega)) FnIs.out rfl (by decide) ?_
        rintro e_ w51 ⟨rfl, hb_⟩
        refine ⟨_, rfl, ?_⟩
        replace hh := hh.ext hb_
        rw [hd1]
        refine s_move (ev_tup rfl) (by decide) ?_
        refine s_extract rfl rfl (by decide) ?_
        refine s_extract rfl rfl (by decide) ?_
        refine s_assign (ev_str rfl) (by decide) ?_
        refine s_assign (ev_bool rfl) (by decide) ?_
        refine wl_end ?_
        refine wc_seq ?_
        refine wc_region ?_
        refine s_move (ev_str rfl) (by decide) ?_
        refine s_move (ev_str rfl) (by decide) ?_
        -- at some 57 := Op.call { callee := Callee.value (Operand.func 20), args := #[Operand.tmp 55, Operand.tmp 
        refine s_callf (div_calls _ a _ hms (by omega)) FnIs.out rfl (by decide) ?_
        rintro e_ w57 ⟨rfl, hb_⟩
        refine ⟨_, rfl, ?_⟩
        replace hh := hh.ext hb_
        rw [hd2]
        refine s_move (ev_tup rfl) (by decide) ?_
        refine s_extract rfl rfl (by decide) ?_
        refine s_extract rfl rfl (by decide) ?_
        refine s_assign (ev_str rfl) (by decide) ?_
        refine s_assign (ev_bool rfl) (by decide) ?_
        refine wl_end ?_
        refine wc_seq ?_
        refine wc_seq ?_
        refine wc_region ?_
        refine s_move (ev_bool rfl) (by decide) ?_
        refine s_not rfl (by decide) ?_
        refine s_move (ev_bool rfl) (by decide) ?_
        first | (refine wl_guard_skip (by decide) rfl rfl (by decide) ?_) | (refine wl_guard_take rfl rfl ?_; (refine s_move (ev_bool rfl) (by decide) ?_)) | (refine wl_guard_skipV (by decide) rfl rfl ?_)
        first | (refine wl_guard_skip (by decide) rfl rfl (by decide) ?_) | (refine wl_guard_take rfl rfl ?_; (refine s_not rfl (by decide) ?_)) | (refine wl_guard_skipV (by decide) rfl rfl ?_)
        first | refine s_pick_t rfl (ev_bool rfl) (by decide) ?_ | refine s_pick_f rfl (ev_bool rfl) (by decide) ?_
        refine s_move (ev_bool rfl) (by decide) ?_
        first | (refine wl_guard_skip (by decide) rfl rfl (by decide) ?_) | (refine wl_guard_take rfl rfl ?_; (refine s_move (ev_str rfl) (by decide) ?_)) | (refine wl_guard_skipV (by decide) rfl rfl ?_)
        first | (refine wl_guard_skip (by decide) rfl rfl (by decide) ?_) | (refine wl_guard_take rfl rfl ?_; (refine s_move (ev_str rfl) (by decide) ?_)) | (refine wl_guard_skipV (by decide) rfl rfl ?_)
        first | (refine wl_guard_skip (by decide) rfl rfl (by decide) ?_) | (refine wl_guard_take rfl rfl ?_; (first | refine s_neq_str_f rfl rfl (by first | rfl | assumption | decide) (by decide) ?_ | refine s_neq_str_t rfl rfl (by first | assumption | decide) (by decide) ?_)) | (refine wl_guard_skipV (by decide) rfl rfl ?_)
        first | refine s_pick_t rfl (ev_bool rfl) (by decide) ?_ | refine s_pick_f rfl (ev_bool rfl) (by decide) ?_
        refine s_move (ev_bool rfl) (by decide) ?_
        first | (refine wl_guard_skip (by decide) rfl rfl (by decide) ?_) | (refine wl_guard_take rfl rfl ?_; (refine s_move (ev_str rfl) (by decide) ?_)) | (refine wl_guard_skipV (by decide) rfl rfl ?_)
        first | (refine wl_guard_skip (by decide) rfl rfl (by decide) ?_) | (refine wl_guard_take rfl rfl ?_; (refine s_move (ev_str rfl) (by decide) ?_)) | (refine wl_guard_skipV (by decide) rfl rfl ?_)
        first | (refine wl_guard_skip (by decide) rfl rfl (by decide) ?_) | (refine wl_guard_take rfl rfl ?_; (first | refine s_neq_str_f rfl rfl (by first | rfl | assumption | decide) (by decide) ?_ | refine s_neq_str_t rfl rfl (by first | assumption | decide) (by decide) ?_)) | (refine wl_guard_skipV (by decide) rfl rfl ?_)
        first | refine s_pick_t rfl (ev_bool rfl) (by decide) ?_ | refine s_pick_f rfl (ev_bool rfl) (by decide) ?_
        refine s_move (ev_bool rfl) (by decide) ?_
        first | (refine wl_guard_skip (by decide) rfl rfl (by decide) ?_) | (refine wl_guard_take rfl rfl ?_; (refine s_move (ev_str rfl) (by decide) ?_)) | (refine wl_guard_skipV (by decide) rfl rfl ?_)
        -- at guarded Op.call { callee := Callee.value (Operand.func 14), args := #[Operand.tmp 77], a
        refine wl_guard_take rfl rfl ?_
        refine s_callf (degree_calls _ _ hms) FnIs.out rfl (by decide) ?_
        rintro e_ w78 ⟨rfl, hb_⟩
        refine ⟨_, rfl, ?_⟩
        replace hh := hh.ext hb_
        rw [hdg]
        first | (refine wl_guard_skip (by decide) rfl rfl (by decide) ?_) | (refine wl_guard_take rfl rfl ?_; (refine s_move (ev_str rfl) (by decide) ?_)) | (refine wl_guard_skipV (by decide) rfl rfl ?_)
        -- at guarded Op.call { callee := Callee.value (Operand.func 14), args := #[Operand.tmp 79], a
        refine wl_guard_take rfl rfl ?_
        refine s_callf (degree_calls a _ (by omega)) FnIs.out rfl (by decide) ?_
        rintro e_ w80 ⟨rfl, hb_⟩
        refine ⟨_, rfl, ?_⟩
        replace hh := hh.ext hb_
        first | (refine wl_guard_skip (by decide) rfl rfl (by decide) ?_) | (refine wl_guard_take rfl rfl ?_; (refine s_move (ev_str rfl) (by decide) ?_)) | (refine wl_guard_skipV (by decide) rfl rfl ?_)
        -- at guarded Op.call { callee := Callee.value (Operand.func 14), args := #[Operand.tmp 81], a
        refine wl_guard_take rfl rfl ?_
        refine s_callf (degree_calls c _ (by omega)) FnIs.out rfl (by decide) ?_
        rintro e_ w82 ⟨rfl, hb_⟩
        refine ⟨_, rfl, ?_⟩
        replace hh := hh.ext hb_
        first | (refine wl_guard_skip (by decide) rfl rfl (by decide) ?_) | (refine wl_guard_take rfl rfl ?_; (refine s_addi rfl rfl (by omega) (by omega) (by decide) ?_)) | (refine wl_guard_skipV (by decide) rfl rfl ?_)
        first | (refine wl_guard_skip (by decide) rfl rfl (by decide) ?_) | (refine wl_guard_take rfl rfl ?_; (first | refine s_neq_t rfl rfl (by omega) (by decide) ?_ | refine s_neq_f rfl rfl (by omega) (by decide) ?_)) | (refine wl_guard_skipV (by decide) rfl rfl ?_)
        first | refine s_pick_t rfl (ev_bool rfl) (by decide) ?_ | refine s_pick_f rfl (ev_bool rfl) (by decide) ?_
        refine wl_end ?_
        refine wc_cond_f rfl ?_
        refine wc_skip ?_
        refine k_then ?_
        refine wc_seq ?_
        refine wc_region ?_
        refine s_move (ev_int rfl) (by decide) ?_
        first | refine s_neq_t rfl rfl (by omega) (by decide) ?_ | refine s_neq_f rfl rfl (by omega) (by decide) ?_
        refine s_move (ev_bool rfl) (by decide) ?_
        first | (refine wl_guard_skip (by decide) rfl rfl (by decide) ?_) | (refine wl_guard_take rfl rfl ?_; (refine s_move (ev_str rfl) (by decide) ?_)) | (refine wl_guard_skipV (by decide) rfl rfl ?_)
        first | (refine wl_guard_skip (by decide) rfl rfl (by decide) ?_) | (refine wl_guard_take rfl rfl ?_; (refine s_move (ev_str rfl) (by decide) ?_)) | (refine wl_guard_skipV (by decide) rfl rfl ?_)
        first | (refine wl_guard_skip (by decide) rfl rfl (by decide) ?_) | (refine wl_guard_take rfl rfl ?_; (refine s_lss_str rfl rfl (by decide) ?_)) | (refine wl_guard_skipV (by decide) rfl rfl ?_)
        first | (refine wl_guard_skip (by decide) rfl rfl (by decide) ?_) | (refine wl_guard_take rfl rfl ?_; (refine s_move (ev_str rfl) (by decide) ?_)) | (refine wl_guard_skipV (by decide) rfl rfl ?_)
        first | (refine wl_guard_skip (by decide) rfl rfl (by decide) ?_) | (refine wl_guard_take rfl rfl ?_; (refine s_move (ev_str rfl) (by decide) ?_)) | (refine wl_guard_skipV (by decide) rfl rfl ?_)
        first | (refine wl_guard_skip (by decide) rfl rfl (by decide) ?_) | (refine wl_guard_take rfl rfl ?_; (refine s_lss_str rfl rfl (by decide) ?_)) | (refine wl_guard_skipV (by decide) rfl rfl ?_)
        first | (refine wl_guard_skip (by decide) rfl rfl (by decide) ?_) | (refine wl_guard_take rfl rfl ?_; (refine s_eql_bool UIs.out rfl rfl (by decide) ?_)) | (refine wl_guard_skipV (by decide) rfl rfl ?_)
        first | (refine wl_guard_skip (by decide) rfl rfl (by decide) ?_) | (refine wl_guard_take rfl rfl ?_; (refine s_move (ev_bool rfl) (by decide) ?_)) | (refine wl_guard_skipV (by decide) rfl rfl ?_)
        first | (refine wl_guard_skip (by decide) rfl rfl (by decide) ?_) | (refine wl_guard_take rfl rfl ?_; (refine s_move (ev_str rfl) (by decide) ?_)) | (refine wl_guard_skipV (by decide) rfl rfl ?_)
        first | (refine wl_guard_skip (by decide) rfl rfl (by decide) ?_) | (refine wl_guard_take rfl rfl ?_; (refine s_move (ev_str rfl) (by decide) ?_)) | (refine wl_guard_skipV (by decide) rfl rfl ?_)
        first | (refine wl_guard_skip (by decide) rfl rfl (by decide) ?_) | (refine wl_guard_take rfl rfl ?_; (first | refine s_eql_str_t rfl rfl (by first | rfl | assumption | decide) (by decide) ?_ | refine s_eql_str_f rfl rfl (by first | assumption | decide) (by decide) ?_)) | (refine wl_guard_skipV (by decide) rfl rfl ?_)
        first | (refine wl_guard_skip (by decide) rfl rfl (by decide) ?_) | (refine wl_guard_take rfl rfl ?_; (refine s_move (ev_str rfl) (by decide) ?_)) | (refine wl_guard_skipV (by decide) rfl rfl ?_)
        first | (refine wl_guard_skip (by decide) rfl rfl (by decide) ?_) | (refine wl_guard_take rfl rfl ?_; (refine s_move (ev_str rfl) (by decide) ?_)) | (refine wl_guard_skipV (by decide) rfl rfl ?_)
        first | (refine wl_guard_skip (by decide) rfl rfl (by decide) ?_) | (refine wl_guard_take rfl rfl ?_; (first | refine s_eql_str_t rfl rfl (by first | rfl | assumption | decide) (by decide) ?_ | refine s_eql_str_f rfl rfl (by first | assumption | decide) (by decide) ?_)) | (refine wl_guard_skipV (by decide) rfl rfl ?_)
        first | (refine wl_guard_skip (by decide) rfl rfl (by decide) ?_) | (refine wl_guard_take rfl rfl ?_; (refine s_eql_bool UIs.out rfl rfl (by decide) ?_)) | (refine wl_guard_skipV (by decide) rfl rfl ?_)
        first | (refine wl_guard_skip (by decide) rfl rfl (by decide) ?_) | (refine wl_guard_take rfl rfl ?_; (first | refine s_pick_t rfl (ev_bool rfl) (by decide) ?_ | refine s_pick_f rfl (ev_bool rfl) (by decide) ?_)) | (refine wl_guard_skipV (by decide) rfl rfl ?_)
        first | refine s_pick_t rfl (ev_bool rfl) (by decide) ?_ | refine s_pick_f rfl (ev_bool rfl) (by decide) ?_
        refine s_move (ev_bool rfl) (by decide) ?_
        -- at guarded Op.call { callee := Callee.value (Operand.func 8), args := #[], argTypes := #[] 
        refine wl_guard_take rfl rfl ?_
        refine s_callf (awake_calls _) FnIs.out rfl (by decide) ?_
        rintro e_ w107 ⟨rfl, hb_⟩
        refine ⟨_, rfl, ?_⟩
        replace hh := hh.ext hb_
        first | refine s_pick_t rfl (ev_bool rfl) (by decide) ?_ | refine s_pick_f rfl (ev_bool rfl) (by decide) ?_
        refine s_assign (ev_bool rfl) (by decide) ?_
        refine wl_end ?_
        refine wc_ret ?_
        -- at ('end', 'ret')
        refine ret1 (by first | exact .inr rfl | exact .inl rfl) rfl rfl ?_
        exact ⟨rfl, hh.below⟩
    · have hm : str (mulL a.data.toList c.data.toList).1 = ByteArray.mk #[] := by rw [mul_bad h]; rfl
      refine calls_vc (N := 109) (l := [.string a, .string b, .string c]) Try.func6 rfl rfl (by simp) ?_
      refine wc_seq ?_
      refine wc_region ?_
      refine s_assign (ev_bool rfl) (by decide) ?_
      refine wl_end ?_
      refine wc_seq ?_
      refine wc_seq ?_
      refine wc_region ?_
      refine s_move (ev_str rfl) (by decide) ?_
      refine s_len_str UIs.out rfl (by decide) ?_
      first | refine s_gtr_t rfl rfl (by omega) (by decide) ?_ | refine s_gtr_f rfl rfl (by omega) (by decide) ?_
      refine s_move (ev_bool rfl) (by decide) ?_
      first | (refine wl_guard_skip (by decide) rfl rfl (by decide) ?_) | (refine wl_guard_take rfl rfl ?_; (refine s_move (ev_str rfl) (by decide) ?_)) | (refine wl_guard_skipV (by decide) rfl rfl ?_)
      first | (refine wl_guard_skip (by decide) rfl rfl (by decide) ?_) | (refine wl_guard_take rfl rfl ?_; (refine s_len_str UIs.out rfl (by decide) ?_)) | (refine wl_guard_skipV (by decide) rfl rfl ?_)
      first | (refine wl_guard_skip (by decide) rfl rfl (by decide) ?_) | (refine wl_guard_take rfl rfl ?_; (first | refine s_gtr_t rfl rfl (by omega) (by decide) ?_ | refine s_gtr_f rfl rfl (by omega) (by decide) ?_)) | (refine wl_guard_skipV (by decide) rfl rfl ?_)
      first | refine s_pick_t rfl (ev_bool rfl) (by decide) ?_ | refine s_pick_f rfl (ev_bool rfl) (by decide) ?_
      refine s_move (ev_bool rfl) (by decide) ?_
      first | (refine wl_guard_skip (by decide) rfl rfl (by decide) ?_) | (refine wl_guard_take rfl rfl ?_; (refine s_move (ev_str rfl) (by decide) ?_)) | (refine wl_guard_skipV (by decide) rfl rfl ?_)
      first | (refine wl_guard_skip (by decide) rfl rfl (by decide) ?_) | (refine wl_guard_take rfl rfl ?_; (refine s_len_str UIs.out rfl (by decide) ?_)) | (refine wl_guard_skipV (by decide) rfl rfl ?_)
      first | (refine wl_guard_skip (by decide) rfl rfl (by decide) ?_) | (refine wl_guard_take rfl rfl ?_; (first | refine s_gtr_t rfl rfl (by omega) (by decide) ?_ | refine s_gtr_f rfl rfl (by omega) (by decide) ?_)) | (refine wl_guard_skipV (by decide) rfl rfl ?_)
      first | refine s_pick_t rfl (ev_bool rfl) (by decide) ?_ | refine s_pick_f rfl (ev_bool rfl) (by decide) ?_
      refine wl_end ?_
      refine wc_cond_f rfl ?_
      refine wc_skip ?_
      refine k_then ?_
      refine wc_seq ?_
      refine wc_region ?_
      refine s_move (ev_str rfl) (by decide) ?_
      refine s_move (ev_str rfl) (by decide) ?_
      -- at some 32 := Op.call { callee := Callee.value (Operand.func 18), args := #[Operand.tmp 30, Operand.tmp 
      refine s_callf (mul_calls a c _ (by omega) (by omega)) FnIs.out rfl (by decide) ?_
      rintro e_ w32 ⟨rfl, hb_⟩
      refine ⟨_, rfl, ?_⟩
      replace hh := hh.ext hb_
      refine s_move (ev_tup rfl) (by decide) ?_
      refine s_extract rfl rfl (by decide) ?_
      refine s_extract rfl rfl (by decide) ?_
      refine s_assign (ev_str rfl) (by decide) ?_
      refine s_assign (ev_int rfl) (by decide) ?_
      refine wl_end ?_
      refine wc_seq ?_
      refine wc_region ?_
      refine s_move (ev_str rfl) (by decide) ?_
      refine s_move (ev_str rfl) (by decide) ?_
      -- at some 38 := Op.call { callee := Callee.value (Operand.func 18), args := #[Operand.tmp 36, Operand.tmp 
      refine s_callf (mul_calls b c _ (by omega) (by omega)) FnIs.out rfl (by decide) ?_
      rintro e_ w38 ⟨rfl, hb_⟩
      refine ⟨_, rfl, ?_⟩
      replace hh := hh.ext hb_
      refine s_move (ev_tup rfl) (by decide) ?_
      refine s_extract rfl rfl (by decide) ?_
      refine s_extract rfl rfl (by decide) ?_
      refine s_assign (ev_str rfl) (by decide) ?_
      refine s_assign (ev_int rfl) (by decide) ?_
      refine wl_end ?_
      refine wc_seq ?_
      refine wc_seq ?_
      refine wc_region ?_
      refine s_move (ev_int rfl) (by decide) ?_
      first | refine s_neq_t rfl rfl (by omega) (by decide) ?_ | refine s_neq_f rfl rfl (by omega) (by decide) ?_
      refine wl_end ?_
      refine wc_cond_t rfl ?_
      refine wc_seq ?_
      refine wc_region ?_
      refine s_move (ev_str rfl) (by decide) ?_
      first | refine s_eql_str_t rfl rfl (by first | rfl | assumption | decide) (by decide) ?_ | refine s_eql_str_f rfl rfl (by first | assumption | decide) (by decide) ?_
      refine s_move (ev_bool rfl) (by decide) ?_
      -- at guarded Op.call { callee := Callee.value (Operand.func 8), args := #[], argTypes := #[] 
      refine wl_guard_take rfl rfl ?_
      refine s_callf (awake_calls _) FnIs.out rfl (by decide) ?_
      rintro e_ w46 ⟨rfl, hb_⟩
      refine ⟨_, rfl, ?_⟩
      replace hh := hh.ext hb_
      first | refine s_pick_t rfl (ev_bool rfl) (by decide) ?_ | refine s_pick_f rfl (ev_bool rfl) (by decide) ?_
      refine s_assign (ev_bool rfl) (by decide) ?_
      refine wl_end ?_
      refine wc_ret ?_
      refine k_ret ?_
      -- at ('end', 'ret')
      refine ret1 (by first | exact .inr rfl | exact .inl rfl) rfl rfl ?_
      exact ⟨rfl, hh.below⟩
  · by_cases ha : a.size ≤ 500
    · by_cases hb : b.size ≤ 500
      · have hc : ¬ c.size ≤ 500 := fun hc => hbig ⟨ha, hb, hc⟩
        refine calls_vc (N := 109) (l := [.string a, .string b, .string c]) Try.func6 rfl rfl (by simp) ?_
        refine wc_seq ?_
        refine wc_region ?_
        refine s_assign (ev_bool rfl) (by decide) ?_
        refine wl_end ?_
        refine wc_seq ?_
        refine wc_seq ?_
        refine wc_region ?_
        refine s_move (ev_str rfl) (by decide) ?_
        refine s_len_str UIs.out rfl (by decide) ?_
        first | refine s_gtr_t rfl rfl (by omega) (by decide) ?_ | refine s_gtr_f rfl rfl (by omega) (by decide) ?_
        refine s_move (ev_bool rfl) (by decide) ?_
        first | (refine wl_guard_skip (by decide) rfl rfl (by decide) ?_) | (refine wl_guard_take rfl rfl ?_; (refine s_move (ev_str rfl) (by decide) ?_)) | (refine wl_guard_skipV (by decide) rfl rfl ?_)
        first | (refine wl_guard_skip (by decide) rfl rfl (by decide) ?_) | (refine wl_guard_take rfl rfl ?_; (refine s_len_str UIs.out rfl (by decide) ?_)) | (refine wl_guard_skipV (by decide) rfl rfl ?_)
        first | (refine wl_guard_skip (by decide) rfl rfl (by decide) ?_) | (refine wl_guard_take rfl rfl ?_; (first | refine s_gtr_t rfl rfl (by omega) (by decide) ?_ | refine s_gtr_f rfl rfl (by omega) (by decide) ?_)) | (refine wl_guard_skipV (by decide) rfl rfl ?_)
        first | refine s_pick_t rfl (ev_bool rfl) (by decide) ?_ | refine s_pick_f rfl (ev_bool rfl) (by decide) ?_
        refine s_move (ev_bool rfl) (by decide) ?_
        first | (refine wl_guard_skip (by decide) rfl rfl (by decide) ?_) | (refine wl_guard_take rfl rfl ?_; (refine s_move (ev_str rfl) (by decide) ?_)) | (refine wl_guard_skipV (by decide) rfl rfl ?_)
        first | (refine wl_guard_skip (by decide) rfl rfl (by decide) ?_) | (refine wl_guard_take rfl rfl ?_; (refine s_len_str UIs.out rfl (by decide) ?_)) | (refine wl_guard_skipV (by decide) rfl rfl ?_)
        first | (refine wl_guard_skip (by decide) rfl rfl (by decide) ?_) | (refine wl_guard_take rfl rfl ?_; (first | refine s_gtr_t rfl rfl (by omega) (by decide) ?_ | refine s_gtr_f rfl rfl (by omega) (by decide) ?_)) | (refine wl_guard_skipV (by decide) rfl rfl ?_)
        first | refine s_pick_t rfl (ev_bool rfl) (by decide) ?_ | refine s_pick_f rfl (ev_bool rfl) (by decide) ?_
        refine wl_end ?_
        refine wc_cond_t rfl ?_
        refine wc_seq ?_
        refine wc_region ?_
        -- at some 28 := Op.call { callee := Callee.value (Operand.func 8), args := #[], argTypes := #[] }
        refine s_callf (awake_calls _) FnIs.out rfl (by decide) ?_
        rintro e_ w28 ⟨rfl, hb_⟩
        refine ⟨_, rfl, ?_⟩
        replace hh := hh.ext hb_
        refine s_assign (ev_bool rfl) (by decide) ?_
        refine wl_end ?_
        refine wc_ret ?_
        refine k_ret ?_
        -- at ('end', 'ret')
        refine ret1 (by first | exact .inr rfl | exact .inl rfl) rfl rfl ?_
        exact ⟨rfl, hh.below⟩
      · refine calls_vc (N := 109) (l := [.string a, .string b, .string c]) Try.func6 rfl rfl (by simp) ?_
        refine wc_seq ?_
        refine wc_region ?_
        refine s_assign (ev_bool rfl) (by decide) ?_
        refine wl_end ?_
        refine wc_seq ?_
        refine wc_seq ?_
        refine wc_region ?_
        refine s_move (ev_str rfl) (by decide) ?_
        refine s_len_str UIs.out rfl (by decide) ?_
        first | refine s_gtr_t rfl rfl (by omega) (by decide) ?_ | refine s_gtr_f rfl rfl (by omega) (by decide) ?_
        refine s_move (ev_bool rfl) (by decide) ?_
        first | (refine wl_guard_skip (by decide) rfl rfl (by decide) ?_) | (refine wl_guard_take rfl rfl ?_; (refine s_move (ev_str rfl) (by decide) ?_)) | (refine wl_guard_skipV (by decide) rfl rfl ?_)
        first | (refine wl_guard_skip (by decide) rfl rfl (by decide) ?_) | (refine wl_guard_take rfl rfl ?_; (refine s_len_str UIs.out rfl (by decide) ?_)) | (refine wl_guard_skipV (by decide) rfl rfl ?_)
        first | (refine wl_guard_skip (by decide) rfl rfl (by decide) ?_) | (refine wl_guard_take rfl rfl ?_; (first | refine s_gtr_t rfl rfl (by omega) (by decide) ?_ | refine s_gtr_f rfl rfl (by omega) (by decide) ?_)) | (refine wl_guard_skipV (by decide) rfl rfl ?_)
        first | refine s_pick_t rfl (ev_bool rfl) (by decide) ?_ | refine s_pick_f rfl (ev_bool rfl) (by decide) ?_
        refine s_move (ev_bool rfl) (by decide) ?_
        first | (refine wl_guard_skip (by decide) rfl rfl (by decide) ?_) | (refine wl_guard_take rfl rfl ?_; (refine s_move (ev_str rfl) (by decide) ?_)) | (refine wl_guard_skipV (by decide) rfl rfl ?_)
        first | (refine wl_guard_skip (by decide) rfl rfl (by decide) ?_) | (refine wl_guard_take rfl rfl ?_; (refine s_len_str UIs.out rfl (by decide) ?_)) | (refine wl_guard_skipV (by decide) rfl rfl ?_)
        first | (refine wl_guard_skip (by decide) rfl rfl (by decide) ?_) | (refine wl_guard_take rfl rfl ?_; (first | refine s_gtr_t rfl rfl (by omega) (by decide) ?_ | refine s_gtr_f rfl rfl (by omega) (by decide) ?_)) | (refine wl_guard_skipV (by decide) rfl rfl ?_)
        first | refine s_pick_t rfl (ev_bool rfl) (by decide) ?_ | refine s_pick_f rfl (ev_bool rfl) (by decide) ?_
        refine wl_end ?_
        refine wc_cond_t rfl ?_
        refine wc_seq ?_
        refine wc_region ?_
        -- at some 28 := Op.call { callee := Callee.value (Operand.func 8), args := #[], argTypes := #[] }
        refine s_callf (awake_calls _) FnIs.out rfl (by decide) ?_
        rintro e_ w28 ⟨rfl, hb_⟩
        refine ⟨_, rfl, ?_⟩
        replace hh := hh.ext hb_
        refine s_assign (ev_bool rfl) (by decide) ?_
        refine wl_end ?_
        refine wc_ret ?_
        refine k_ret ?_
        -- at ('end', 'ret')
        refine ret1 (by first | exact .inr rfl | exact .inl rfl) rfl rfl ?_
        exact ⟨rfl, hh.below⟩
    · refine calls_vc (N := 109) (l := [.string a, .string b, .string c]) Try.func6 rfl rfl (by simp) ?_
      refine wc_seq ?_
      refine wc_region ?_
      refine s_assign (ev_bool rfl) (by decide) ?_
      refine wl_end ?_
      refine wc_seq ?_
      refine wc_seq ?_
      refine wc_region ?_
      refine s_move (ev_str rfl) (by decide) ?_
      refine s_len_str UIs.out rfl (by decide) ?_
      first | refine s_gtr_t rfl rfl (by omega) (by decide) ?_ | refine s_gtr_f rfl rfl (by omega) (by decide) ?_
      refine s_move (ev_bool rfl) (by decide) ?_
      first | (refine wl_guard_skip (by decide) rfl rfl (by decide) ?_) | (refine wl_guard_take rfl rfl ?_; (refine s_move (ev_str rfl) (by decide) ?_)) | (refine wl_guard_skipV (by decide) rfl rfl ?_)
      first | (refine wl_guard_skip (by decide) rfl rfl (by decide) ?_) | (refine wl_guard_take rfl rfl ?_; (refine s_len_str UIs.out rfl (by decide) ?_)) | (refine wl_guard_skipV (by decide) rfl rfl ?_)
      first | (refine wl_guard_skip (by decide) rfl rfl (by decide) ?_) | (refine wl_guard_take rfl rfl ?_; (first | refine s_gtr_t rfl rfl (by omega) (by decide) ?_ | refine s_gtr_f rfl rfl (by omega) (by decide) ?_)) | (refine wl_guard_skipV (by decide) rfl rfl ?_)
      first | refine s_pick_t rfl (ev_bool rfl) (by decide) ?_ | refine s_pick_f rfl (ev_bool rfl) (by decide) ?_
      refine s_move (ev_bool rfl) (by decide) ?_
      first | (refine wl_guard_skip (by decide) rfl rfl (by decide) ?_) | (refine wl_guard_take rfl rfl ?_; (refine s_move (ev_str rfl) (by decide) ?_)) | (refine wl_guard_skipV (by decide) rfl rfl ?_)
      first | (refine wl_guard_skip (by decide) rfl rfl (by decide) ?_) | (refine wl_guard_take rfl rfl ?_; (refine s_len_str UIs.out rfl (by decide) ?_)) | (refine wl_guard_skipV (by decide) rfl rfl ?_)
      first | (refine wl_guard_skip (by decide) rfl rfl (by decide) ?_) | (refine wl_guard_take rfl rfl ?_; (first | refine s_gtr_t rfl rfl (by omega) (by decide) ?_ | refine s_gtr_f rfl rfl (by omega) (by decide) ?_)) | (refine wl_guard_skipV (by decide) rfl rfl ?_)
      first | refine s_pick_t rfl (ev_bool rfl) (by decide) ?_ | refine s_pick_f rfl (ev_bool rfl) (by decide) ?_
      refine wl_end ?_
      refine wc_cond_t rfl ?_
      refine wc_seq ?_
      refine wc_region ?_
      -- at some 28 := Op.call { callee := Callee.value (Operand.func 8), args := #[], argTypes := #[] }
      refine s_callf (awake_calls _) FnIs.out rfl (by decide) ?_
      rintro e_ w28 ⟨rfl, hb_⟩
      refine ⟨_, rfl, ?_⟩
      replace hh := hh.ext hb_
      refine s_assign (ev_bool rfl) (by decide) ?_
      refine wl_end ?_
      refine wc_ret ?_
      refine k_ret ?_
      -- at ('end', 'ret')
      refine ret1 (by first | exact .inr rfl | exact .inl rfl) rfl rfl ?_
      exact ⟨rfl, hh.below⟩
end Go.Proofs.Ytgljgalcbbjfgaa
