/- The walk through the law HeapBetween. -/
import Derived.Test.YthmmofllajkejaaDoorHeapSorts
namespace Go.Proofs.YthmmofllajkejaaDoor
open Go.RowKit
-- umode
theorem cmp_of_not_ah {a e : Ent Int} (h : ah a e = false) : ¬ 0 < cmpD e.k.d a.k.d := by
  have h1 := of_decide_eq_false h
  rcases d_tri e.k.d a.k.d with h2 | h2 | h2
  · rw [cmpD_of_lt h2]; omega
  · rw [h2, cmpD_self]; omega
  · exact absurd (.inl h2) h1
theorem heapBetween_calls (L : Option Addr) (n c : Nat) (l : List NR) (ab : NR) (w : World) (hT : Tab w) (hS : Sl w L n 3 (recs NR.cells l)) :
    Calls Tryd.prog 5 #[.slice L n c, .agg #[.bool ab.neg, .string ab.mag, .int .i64 ab.e]] w fun r w' => r = .returned (.bool true) ∧ Below w.heap.size w w' := by
  have hh := Hp.start w
  have hln := hS.recLen NR.len (by omega)
  by_cases h5 : 200 < n
  · refine calls_vc (N := 136) (l := [.slice L n c, .agg #[.bool ab.neg, .string ab.mag, .int .i64 ab.e]]) Tryd.func5 rfl rfl (by simp) ?_
    refine sr ?_
    refine bxC hh [_,_,_] ?_
    intro b3 w3 hh
    refine aB (wl_end (wc_seq (sr (mL (lenC ?_)))))
    refine gtrC (mB ?_)
    first | refine gS ?_ | (refine gT ?_; refine lgC hh 0 [_,_,_] ?_) | refine gV ?_
    refine wl_guard_skip (by decide) rfl rfl (by decide) ?_
    first | refine pkT ?_ | refine pkF ?_
    refine wl_end (cT (sr ?_))
    refine s_callf (hawake_calls _ (hT.hp hh)) FnIs.out rfl (by decide) ?_
    rintro e_ w25 ⟨rfl, hb_⟩
    refine ⟨_, rfl, ?_⟩
    replace hh := hh.ext hb_
    refine aB (wl_end (wc_ret (k_ret ?_)))
    refine ret1 (by first | exact .inr rfl | exact .inl rfl) rfl (v_bool rfl) ?_
    exact ⟨rfl, hh.below⟩
  · cases hfa : farH ab with
    | true =>
      refine calls_vc (N := 136) (l := [.slice L n c, .agg #[.bool ab.neg, .string ab.mag, .int .i64 ab.e]]) Tryd.func5 rfl rfl (by simp) ?_
      refine sr ?_
      refine bxC hh [_,_,_] ?_
      intro b3 w3 hh
      refine aB (wl_end (wc_seq (sr (mL (lenC ?_)))))
      refine gtrC (mB ?_)
      first | refine gS ?_ | (refine gT ?_; refine lgC hh 0 [_,_,_] ?_) | refine gV ?_
      refine wl_guard_take rfl rfl ?_
      refine s_callf (hfar_calls ab _) FnIs.out rfl (by decide) ?_
      rintro e_ w23 ⟨rfl, hb_⟩
      refine ⟨_, rfl, ?_⟩
      replace hh := hh.ext hb_
      rw [hfa]
      first | refine pkT ?_ | refine pkF ?_
      refine wl_end (cT (sr ?_))
      refine s_callf (hawake_calls _ (hT.hp hh)) FnIs.out rfl (by decide) ?_
      rintro e_ w25 ⟨rfl, hb_⟩
      refine ⟨_, rfl, ?_⟩
      replace hh := hh.ext hb_
      refine aB (wl_end (wc_ret (k_ret ?_)))
      refine ret1 (by first | exact .inr rfl | exact .inl rfl) rfl (v_bool rfl) ?_
      exact ⟨rfl, hh.below⟩
    | false =>
      have hfb := fine_of hfa
      refine calls_vc (N := 136) (l := [.slice L n c, .agg #[.bool ab.neg, .string ab.mag, .int .i64 ab.e]]) Tryd.func5 rfl rfl (by simp) ?_
      refine sr ?_
      refine bxC hh [_,_,_] ?_
      intro b3 w3 hh
      refine aB (wl_end (wc_seq (sr (mL (lenC ?_)))))
      refine gtrC (mB ?_)
      first | refine gS ?_ | (refine gT ?_; refine lgC hh 0 [_,_,_] ?_) | refine gV ?_
      refine wl_guard_take rfl rfl ?_
      refine s_callf (hfar_calls ab _) FnIs.out rfl (by decide) ?_
      rintro e_ w23 ⟨rfl, hb_⟩
      refine ⟨_, rfl, ?_⟩
      replace hh := hh.ext hb_
      rw [hfa]
      first | refine pkT ?_ | refine pkF ?_
      refine wl_end (cF (wc_skip (k_then (sr ?_))))
      refine s_callf (EInew_calls hh) FnIs.out rfl (by decide) ?_
      rintro e_ w26 ⟨b, rfl, hh⟩
      refine ⟨_, rfl, ?_⟩
      refine aP (wl_end (wc_seq (sr (mP ?_))))
      first | refine s_eqp_f UIs.out rfl rfl (by decide) ?_ | refine s_eqp_t UIs.out rfl rfl (by decide) ?_
      refine wl_end (cF (wc_skip (k_then (sr (aI (wl_end (wc_seq (sr (aI (wl_end (wc_block ?_)))))))))))
      refine wc_loop2 [4, 6, 7, 8, 9, 10, 11, 12, 13, 29, 30, 31, 32, 33, 34, 35, 36, 37, 38, 39, 40, 41, 42, 43, 44, 45, 46, 47, 48, 49, 50, 51, 52, 53, 54, 55, 56, 57, 58, 59, 60, 61, 62, 63, 64, 65, 66, 67, 68, 69, 70, 71, 72, 73, 74, 75, 76, 77, 78, 79, 80, 81, 82, 83] 6 7
        (fun v6 v7 w' => ∃ (i m c : Nat) (A : Option Addr) (Q B : List (Ent Int)), i ≤ n ∧ m ≤ i ∧ v6 = .int .i64 m ∧ v7 = .int .i64 i ∧ QI Q B i ∧ B.length = m ∧ (∀ e ∈ B, e.k.ok ∧ ∃ k : Nat, k < i ∧ e.x = k) ∧ Hp w [.blk b 50 [.slice A m c, .int .i64 i] (0, 0), .row A m c 52 5 (recs EI.cells Q), .blk b3 25 [.bool ab.neg, .string ab.mag, .int .i64 ab.e] (0, 0)] w')
        (fun _ v _ => n - (intOf v).toNat) ?_ ?_
      · exact ⟨0, 0, 0, none, [], [], Nat.zero_le _, Nat.le_refl _, rfl, rfl, QI.nil, rfl, (fun _ h => by cases h), hh⟩
      · clear hh
        rintro ρ' v6 v7 w' ⟨i, m, c', A, Q, B, hi, hmi, rfl, rfl, hq, hBl, hB, hh⟩
        have hQo := hq.ok fun e he => (hB e he).1
        have hQl := (hh.sl_row (i := 1) rfl).recLen EI.len (by decide)
        by_cases hlt : i < n
        · obtain ⟨x, hx⟩ := get_of_lt (l := l) (k := i) (by omega)
          obtain ⟨ad, rfl, hr⟩ := hS.at_ (by omega)
          refine wc_seq (sr (mI (mL (lenC ?_))))
          refine lssC (wl_end (cT (wc_skip (k_then (wc_seq (wc_block (wc_seq (sr (mL (mI ?_))))))))))
          refine s_indexAddr UIs.out TIs.size rfl rfl (by omega) (by omega) (by decide) ?_
          refine s_load (vs := [_, _, _]) TIs.out rfl ((hr.ext hh.below).recAt NR.len hx) rfl (by decide) ?_
          refine s_callf (hfar_calls x _) FnIs.out rfl (by decide) ?_
          rintro e_ w39 ⟨rfl, hb_⟩
          refine ⟨_, rfl, ?_⟩
          replace hh := hh.ext hb_
          cases hf : farH x with
          | true =>
            refine wl_end (cT (sr ?_))
            refine s_callf (hawake_calls _ (hT.hp hh)) FnIs.out rfl (by decide) ?_
            rintro e_ w40 ⟨rfl, hb_⟩
            refine ⟨_, rfl, ?_⟩
            replace hh := hh.ext hb_
            refine aB (wl_end (wc_ret (k_ret (b_ret (k_ret (k_ret (b_ret (k_ret ?_))))))))
            refine ret1 (by first | exact .inr rfl | exact .inl rfl) rfl (v_bool rfl) ?_
            exact ⟨rfl, hh.below⟩
          | false =>
            have hfx := fine_of hf
            refine wl_end (cF (wc_skip (k_then (sr (mP (mL (mI ?_)))))))
            refine s_indexAddr UIs.out TIs.size rfl rfl (by omega) (by omega) (by decide) ?_
            refine s_load (vs := [_, _, _]) TIs.out rfl ((hr.ext hh.below).recAt NR.len hx) rfl (by decide) ?_
            refine mI ?_
            refine s_callf (EIput_calls hh hT x (i : Int) hfx.ok hfx.nr.ok hQo (by omega) (by omega) (by omega) hq.heap) FnIs.out rfl (by decide) ?_
            rintro e_ w47 ⟨rfl, A', c2, Q', hp, hhp, hh⟩
            refine ⟨_, rfl, ?_⟩
            have hq' := hq.put (by omega) rfl hp hhp
            have hB' : ∀ e ∈ B ++ [(⟨nR x.d, i, i⟩ : Ent Int)], e.k.ok ∧ ∃ k : Nat, k < i + 1 ∧ e.x = k := List.forall_mem_append.2 ⟨fun e he => ⟨(hB e he).1, by obtain ⟨k, h1, h2⟩ := (hB e he).2; exact ⟨k, by omega, h2⟩⟩, fun e he => by obtain rfl := List.mem_singleton.1 he; exact ⟨hfx.nr.ok, i, by omega, rfl⟩⟩
            have hBl' : (B ++ [(⟨nR x.d, i, i⟩ : Ent Int)]).length = m + 1 := by simp [hBl]
            generalize B ++ [(⟨nR x.d, i, i⟩ : Ent Int)] = B' at *
            by_cases h3 : (i : Int) % 3 = 2
            · have hQo' := hq'.ok fun e he => (hB' e he).1
              have hQl' := (hh.sl_row (i := 1) rfl).recLen EI.len (by decide)
              obtain ⟨e, he⟩ := get_of_lt (l := Q') (k := 0) (by omega)
              have heB := hq'.perm.mem_iff.1 (List.mem_of_getElem? he)
              obtain ⟨at_, hat⟩ := List.mem_iff_getElem?.1 heB
              have hle := hq'.least he
              refine wl_end (sr (mI ?_))
              refine addC (aI (wl_end (wc_seq (sr (mI ?_)))))
              refine s_remi rfl rfl (by omega) (by omega) (by decide) ?_
              refine neqC (wl_end (cF (wc_skip (k_then (sr (mP ?_))))))
              refine s_callf (EItake_calls (n := m) hh hT hQo' (by omega) hq'.heap he) FnIs.out rfl (by decide) ?_
              rintro e_ w55 ⟨rfl, Q2, hp2, hhp2, hh⟩
              refine ⟨_, rfl, ?_⟩
              have hq2 := hq'.take hat hp2 hhp2
              have hsub : ∀ a ∈ B'.eraseIdx at_, a ∈ B' := fun a ha => (List.eraseIdx_sublist _ _).subset ha
              have hl2 : (B'.eraseIdx at_).length = m := by
                have := hq2.len
                have := hp2.length_eq
                simp only [List.length_cons] at this
                omega
              by_cases hm0 : m = 0
              · refine mT ?_
                refine exC ?_
                refine exC ?_
                refine exC ?_
                refine alC hh ?_
                intro b8 w8 hh
                refine stC hh 0 [_,_,_] ?_
                intro ws hh
                replace hh : Hp _ (.blk _ _ [_, _, _] _ :: _) _ := hh
                refine aI (aB (wl_end (sr (mP ?_))))
                refine s_callf (EIfirst_nil _ (hh.cell_blk (i := 1) rfl rfl) hm0) FnIs.out rfl (by decide) ?_
                rintro e_ w61 ⟨rfl, hb_⟩
                refine ⟨_, rfl, ?_⟩
                replace hh := hh.ext hb_
                refine mT ?_
                refine exC ?_
                refine exC ?_
                refine exC ?_
                refine alC hh ?_
                intro b11 w11 hh
                refine stC hh 0 [_,_,_] ?_
                intro ws hh
                replace hh : Hp _ (.blk _ _ [_, _, _] _ :: _) _ := hh
                refine aI (aB (wl_end (sr (mI ?_))))
                refine subC (aI (wl_end (sr (mB ?_))))
                refine notC ?_
                refine mB ?_
                first | refine gS ?_ | (refine gT ?_; refine mB ?_) | refine gV ?_
                first | refine gS ?_ | (refine gT ?_; refine mB ?_) | refine gV ?_
                first | refine gS ?_ | (refine gT ?_; refine lgC hh 1 [_,_,_] ?_) | refine gV ?_
                first | refine gS ?_ | (refine gT ?_; refine lgC hh 0 [_,_,_] ?_) | refine gV ?_
                refine wl_guard_skip (by decide) rfl rfl (by decide) ?_
                first | refine gS ?_ | (refine gT ?_; refine gtrC ?_) | refine gV ?_
                first | refine gS ?_ | (refine gT ?_; (first | refine pkT ?_ | refine pkF ?_)) | refine gV ?_
                first | refine pkT ?_ | refine pkF ?_
                refine mB ?_
                first | refine gS ?_ | (refine gT ?_; refine mB ?_) | refine gV ?_
                first | refine gS ?_ | (refine gT ?_; refine mI ?_) | refine gV ?_
                first | refine gS ?_ | (refine gT ?_; refine gtrC ?_) | refine gV ?_
                first | refine gS ?_ | (refine gT ?_; (first | refine s_neb_f UIs.out rfl rfl (by first | rfl | assumption) (by decide) ?_ | refine s_neb_t UIs.out rfl rfl (by first | assumption | decide) (by decide) ?_ | refine s_neq_bool UIs.out rfl rfl (by decide) ?_)) | refine gV ?_
                first | refine pkT ?_ | refine pkF ?_
                refine wl_end (cF (wc_skip (b_norm (k_then (wc_region (mI ?_))))))
                refine addC (aI (wl_nil (k_then ?_)))
                replace hh := hh.sub (List.Sublist.cons _ (List.Sublist.cons _ (List.Sublist.cons_cons _ (List.Sublist.cons_cons _ (List.Sublist.cons_cons _ List.Sublist.slnil)))))
                refine ⟨⟨i + 1, m, c2, A', Q2, B'.eraseIdx at_, by omega, by omega, congrArg (Value.int .i64) (show (m : Int) + 1 - 1 = m by omega), rfl, hq2, hl2, fun a ha => hB' a (hsub a ha), hh⟩, by show n - (i + 1) < n - i; omega, ?_⟩
                (repeat (first | exact agree_mask _ _ _ | refine agree_upd rfl ?_ | refine agree_mask2 rfl ?_))
              · have hQ2l := (hh.sl_row (i := 1) rfl).recLen EI.len (by decide)
                obtain ⟨y, hy⟩ := get_of_lt (l := Q2) (k := 0) (by omega)
                have hyB := hsub y (hq2.perm.mem_iff.1 (List.mem_of_getElem? hy))
                have hcm := fun w1 hT1 => dCmp_calls e.k y.k w1 hT1 (hB' e heB).1 (hB' y hyB).1
                have hcn := cmp_of_not_ah (hle y hyB)
                generalize cmpD e.k.d y.k.d = cc at *
                refine mT ?_
                refine exC ?_
                refine exC ?_
                refine exC ?_
                refine alC hh ?_
                intro b8 w8 hh
                refine stC hh 0 [_,_,_] ?_
                intro ws hh
                replace hh : Hp _ (.blk _ _ [_, _, _] _ :: _) _ := hh
                refine aI (aB (wl_end (sr (mP ?_))))
                refine s_callf (EIfirst_calls _ (hh.cell_blk (i := 1) rfl rfl) (hh.sl_row (i := 2) rfl) (by omega) hy) FnIs.out rfl (by decide) ?_
                rintro e_ w61 ⟨rfl, hb_⟩
                refine ⟨_, rfl, ?_⟩
                replace hh := hh.ext hb_
                refine mT ?_
                refine exC ?_
                refine exC ?_
                refine exC ?_
                refine alC hh ?_
                intro b11 w11 hh
                refine stC hh 0 [_,_,_] ?_
                intro ws hh
                replace hh : Hp _ (.blk _ _ [_, _, _] _ :: _) _ := hh
                refine aI (aB (wl_end (sr (mI ?_))))
                refine subC (aI (wl_end (sr (mB ?_))))
                refine notC ?_
                refine mB ?_
                first | refine gS ?_ | (refine gT ?_; refine mB ?_) | refine gV ?_
                first | refine gS ?_ | (refine gT ?_; refine mB ?_) | refine gV ?_
                first | refine gS ?_ | (refine gT ?_; refine lgC hh 1 [_,_,_] ?_) | refine gV ?_
                first | refine gS ?_ | (refine gT ?_; refine lgC hh 0 [_,_,_] ?_) | refine gV ?_
                refine wl_guard_take rfl rfl ?_
                refine s_callf (hcm _ (hT.hp hh)) FnIs.out rfl (by decide) ?_
                rintro e_ w74 ⟨rfl, hb_⟩
                refine ⟨_, rfl, ?_⟩
                replace hh := hh.ext hb_
                first | refine gS ?_ | (refine gT ?_; refine gtrC ?_) | refine gV ?_
                first | refine gS ?_ | (refine gT ?_; (first | refine pkT ?_ | refine pkF ?_)) | refine gV ?_
                first | refine pkT ?_ | refine pkF ?_
                refine mB ?_
                first | refine gS ?_ | (refine gT ?_; refine mB ?_) | refine gV ?_
                first | refine gS ?_ | (refine gT ?_; refine mI ?_) | refine gV ?_
                first | refine gS ?_ | (refine gT ?_; refine gtrC ?_) | refine gV ?_
                first | refine gS ?_ | (refine gT ?_; (first | refine s_neb_f UIs.out rfl rfl (by first | rfl | assumption) (by decide) ?_ | refine s_neb_t UIs.out rfl rfl (by first | assumption | decide) (by decide) ?_ | refine s_neq_bool UIs.out rfl rfl (by decide) ?_)) | refine gV ?_
                first | refine pkT ?_ | refine pkF ?_
                refine wl_end (cF (wc_skip (b_norm (k_then (wc_region (mI ?_))))))
                refine addC (aI (wl_nil (k_then ?_)))
                replace hh := hh.sub (List.Sublist.cons _ (List.Sublist.cons _ (List.Sublist.cons_cons _ (List.Sublist.cons_cons _ (List.Sublist.cons_cons _ List.Sublist.slnil)))))
                refine ⟨⟨i + 1, m, c2, A', Q2, B'.eraseIdx at_, by omega, by omega, congrArg (Value.int .i64) (show (m : Int) + 1 - 1 = m by omega), rfl, hq2, hl2, fun a ha => hB' a (hsub a ha), hh⟩, by show n - (i + 1) < n - i; omega, ?_⟩
                (repeat (first | exact agree_mask _ _ _ | refine agree_upd rfl ?_ | refine agree_mask2 rfl ?_))
            · refine wl_end (sr (mI ?_))
              refine addC (aI (wl_end (wc_seq (sr (mI ?_)))))
              refine s_remi rfl rfl (by omega) (by omega) (by decide) ?_
              refine neqC (wl_end (cT ?_))
              refine wc_exit ?_
              refine k_exit (b_here (k_then (wc_region (mI ?_))))
              refine addC (aI (wl_nil (k_then ?_)))
              refine ⟨⟨i + 1, m + 1, c2, A', Q', B', by omega, by omega, rfl, rfl, hq', hBl', hB', hh⟩, by show n - (i + 1) < n - i; omega, ?_⟩
              (repeat (first | exact agree_mask _ _ _ | refine agree_upd rfl ?_ | refine agree_mask2 rfl ?_))
        · obtain rfl : i = n := by omega
          have hdl := hq.droplen (EIkeep ab)
          have hfl : (B.filter (EIkeep ab)).length ≤ B.length := List.length_filter_le _ _
          refine wc_seq (sr (mI (mL (lenC ?_))))
          refine lssC (wl_end (cF ?_))
          refine wc_exit ?_
          refine k_exit (k_exit (b_here (k_then (sr (mP ?_)))))
          refine lgC hh 2 [_,_,_] ?_
          refine s_callf (EIdrop_calls hh hT ab hfb.ok hQo (by omega)) FnIs.out rfl (by decide) ?_
          rintro e_ w86 ⟨rfl, A', c2, Q', hp, hhp, hh⟩
          refine ⟨_, rfl, ?_⟩
          rw [hdl] at hh ⊢
          have hq' := hq.drop hp hhp
          have hB' : ∀ e ∈ B.filter (EIkeep ab), (e.k.ok ∧ ∃ k : Nat, k < i ∧ e.x = k) ∧ EIkeep ab e = true := fun e he => ⟨hB e (List.mem_filter.1 he).1, (List.mem_filter.1 he).2⟩
          generalize hB2 : B.filter (EIkeep ab) = B2 at *
          refine aI (wl_end (wc_seq (sr (mI ?_))))
          refine lssC (mB ?_)
          first | refine gS ?_ | (refine gT ?_; refine mP ?_) | refine gV ?_
          refine wl_guard_take rfl rfl ?_
          refine s_callf (EIlen_calls _ (hh.cell_blk (i := 0) rfl rfl)) FnIs.out rfl (by decide) ?_
          rintro e_ w91 ⟨rfl, hb_⟩
          refine ⟨_, rfl, ?_⟩
          replace hh := hh.ext hb_
          first | refine gS ?_ | (refine gT ?_; refine mI ?_) | refine gV ?_
          first | refine gS ?_ | (refine gT ?_; refine mI ?_) | refine gV ?_
          first | refine gS ?_ | (refine gT ?_; refine subC ?_) | refine gV ?_
          first | refine gS ?_ | (refine gT ?_; refine neqC ?_) | refine gV ?_
          first | refine pkT ?_ | refine pkF ?_
          refine wl_end (cF (wc_skip (k_then (wc_seq (wc_block ?_)))))
          refine wc_loop1 [4, 6, 15, 16, 17, 97, 98, 99, 100, 101, 102, 103, 104, 105, 106, 107, 108, 109, 110, 111, 112, 113, 114, 115, 116, 117, 118, 119, 120, 121, 122, 123, 124, 125, 126, 127, 128, 129] 6
            (fun v6 w' => ∃ (m2 c : Nat) (A : Option Addr) (Q B : List (Ent Int)), m2 ≤ i ∧ v6 = .int .i64 ((m : Int) - B2.length + m2) ∧ QI Q B i ∧ B.length = m2 ∧ (∀ e ∈ B, (e.k.ok ∧ ∃ k : Nat, k < i ∧ e.x = k) ∧ EIkeep ab e = true) ∧ Hp w [.blk b 50 [.slice A m2 c, .int .i64 i] (0, 0), .row A m2 c 52 5 (recs EI.cells Q), .blk b3 25 [.bool ab.neg, .string ab.mag, .int .i64 ab.e] (0, 0)] w')
            (fun v _ => (intOf v - (m : Int) + B2.length).toNat) ?_ ?_
          · exact ⟨B2.length, c2, A', Q', B2, by omega, congrArg (Value.int .i64) (show (m : Int) = (m : Int) - B2.length + B2.length by omega), hq', rfl, hB', hh⟩
          · clear hh hq hq' hB'
            rintro ρ'' v6 w'' ⟨m2, c3, A2, Q3, B3, hm2, rfl, hq, hBl3, hB3, hh⟩
            have hQo := hq.ok fun e he => (hB3 e he).1.1
            have hQl := (hh.sl_row (i := 1) rfl).recLen EI.len (by decide)
            by_cases hm0 : 0 < m2
            · obtain ⟨m2, rfl⟩ : ∃ r, m2 = r + 1 := ⟨m2 - 1, by omega⟩
              obtain ⟨e, he⟩ := get_of_lt (l := Q3) (k := 0) (by omega)
              have heB := hq.perm.mem_iff.1 (List.mem_of_getElem? he)
              obtain ⟨at_, hat⟩ := List.mem_iff_getElem?.1 heB
              obtain ⟨⟨heo, k, hk, hex⟩, hkp⟩ := hB3 e heB
              have hcm := fun w1 hT1 => dCmp_calls e.k ab w1 hT1 heo hfb.ok
              have hcn : ¬ 0 < cmpD e.k.d ab.d := by
                unfold EIkeep at hkp
                have h1 : ¬ ab.d < e.k.d := by simpa using hkp
                rcases d_tri e.k.d ab.d with h2 | h2 | h2
                · rw [cmpD_of_lt h2]; omega
                · rw [h2, cmpD_self]; omega
                · exact absurd h2 h1
              generalize cmpD e.k.d ab.d = cc at *
              refine wc_seq (sr (mP ?_))
              refine s_callf (EIlen_calls _ (hh.cell_blk (i := 0) rfl rfl)) FnIs.out rfl (by decide) ?_
              rintro e_ w98 ⟨rfl, hb_⟩
              refine ⟨_, rfl, ?_⟩
              replace hh := hh.ext hb_
              refine gtrC (wl_end (cT (wc_skip (k_then (wc_block (sr (mP ?_)))))))
              have htk := EItake_calls (n := m2) hh hT hQo (by omega) hq.heap he
              rw [hex] at htk
              refine s_callf (htk) FnIs.out rfl (by decide) ?_
              rintro e_ w102 ⟨rfl, Q4, hp1, hhp, hh⟩
              refine ⟨_, rfl, ?_⟩
              have hq' := hq.take hat hp1 hhp
              have hl2 : (B3.eraseIdx at_).length = m2 := by
                have := hq'.len
                have := hq.len
                have := hp1.length_eq
                simp only [List.length_cons] at this
                omega
              refine mT ?_
              refine exC ?_
              refine exC ?_
              refine exC ?_
              refine alC hh ?_
              intro b15 w15 hh
              refine stC hh 0 [_,_,_] ?_
              intro ws hh
              replace hh : Hp _ (.blk _ _ [_, _, _] _ :: _) _ := hh
              refine aI (aB (wl_end (sr (mI ?_))))
              refine subC (aI (wl_end (sr (mB ?_))))
              refine notC ?_
              refine mB ?_
              first | refine gS ?_ | (refine gT ?_; refine mI ?_) | refine gV ?_
              first | refine gS ?_ | (refine gT ?_; refine lssC ?_) | refine gV ?_
              first | refine pkT ?_ | refine pkF ?_
              refine mB ?_
              first | refine gS ?_ | (refine gT ?_; refine mI ?_) | refine gV ?_
              first | refine gS ?_ | (refine gT ?_; refine mL ?_) | refine gV ?_
              first | refine gS ?_ | (refine gT ?_; refine lenC ?_) | refine gV ?_
              first | refine gS ?_ | (refine gT ?_; refine geqC ?_) | refine gV ?_
              first | refine pkT ?_ | refine pkF ?_
              refine mB ?_
              first | refine gS ?_ | (refine gT ?_; refine lgC hh 0 [_,_,_] ?_) | refine gV ?_
              first | refine gS ?_ | (refine gT ?_; refine lgC hh 3 [_,_,_] ?_) | refine gV ?_
              refine wl_guard_take rfl rfl ?_
              refine s_callf (hcm _ (hT.hp hh)) FnIs.out rfl (by decide) ?_
              rintro e_ w123 ⟨rfl, hb_⟩
              refine ⟨_, rfl, ?_⟩
              replace hh := hh.ext hb_
              first | refine gS ?_ | (refine gT ?_; refine gtrC ?_) | refine gV ?_
              first | refine pkT ?_ | refine pkF ?_
              refine mB ?_
              first | refine gS ?_ | (refine gT ?_; refine mI ?_) | refine gV ?_
              first | refine gS ?_ | (refine gT ?_; refine lssC ?_) | refine gV ?_
              first | refine pkT ?_ | refine pkF ?_
              refine wl_end (cF (wc_skip (b_norm (k_then ?_))))
              replace hh := hh.sub (List.Sublist.cons _ (List.Sublist.cons_cons _ (List.Sublist.cons_cons _ (List.Sublist.cons_cons _ List.Sublist.slnil))))
              refine ⟨⟨m2, c3, A2, Q4, B3.eraseIdx at_, by omega, congrArg (Value.int .i64) (show (m : Int) - B2.length + ((m2 + 1 : Nat) : Int) - 1 = (m : Int) - B2.length + m2 by omega), hq', hl2, fun a ha => hB3 a ((List.eraseIdx_sublist _ _).subset ha), hh⟩, ?_, ?_⟩
              · show ((m : Int) - B2.length + ((m2 + 1 : Nat) : Int) - 1 - (m : Int) + B2.length).toNat < ((m : Int) - B2.length + ((m2 + 1 : Nat) : Int) - (m : Int) + B2.length).toNat
                omega
              · (repeat (first | exact agree_mask _ _ _ | refine agree_upd rfl ?_ | refine agree_mask2 rfl ?_))
            · obtain rfl : m2 = 0 := by omega
              refine wc_seq (sr (mP ?_))
              refine s_callf (EIlen_calls _ (hh.cell_blk (i := 0) rfl rfl)) FnIs.out rfl (by decide) ?_
              rintro e_ w98 ⟨rfl, hb_⟩
              refine ⟨_, rfl, ?_⟩
              replace hh := hh.ext hb_
              refine gtrC (wl_end (cF ?_))
              refine wc_exit ?_
              refine k_exit (k_exit (b_here (k_then (sr (mI (mI ?_))))))
              refine eqlC (mB ?_)
              refine wl_guard_take rfl rfl ?_
              refine s_callf (hawake_calls _ (hT.hp hh)) FnIs.out rfl (by decide) ?_
              rintro e_ w134 ⟨rfl, hb_⟩
              refine ⟨_, rfl, ?_⟩
              replace hh := hh.ext hb_
              first | refine pkT ?_ | refine pkF ?_
              refine aB (wl_end (wc_ret ?_))
              refine ret1 (by first | exact .inr rfl | exact .inl rfl) rfl (v_bool rfl) ?_
              exact ⟨rfl, hh.below⟩
end Go.Proofs.YthmmofllajkejaaDoor
