/- The walk through ogeelaw19's step: an act on both queues. -/
import Derived.Test.YthmmofllajkejaaGreatDoorShD
import Derived.Test.YthmmofllajkejaaGreatDoorLawH
import Derived.Test.YthmmofllajkejaaGreatDoorHeapR
import Derived.Test.YthmmofllajkejaaGreatDoorDraws
namespace Go.Proofs.YthmmofllajkejaaGreatDoor
open Go.RowKit
-- umode
-- skipu
/-- A number that is within. -/
structure Fine (a : NR) : Prop where
  ok : a.ok
  sz : Sz 620 a.d
theorem Fine.nr {a : NR} (h : Fine a) : Fine (nR a.d) := ⟨h.sz.ok (by omega), by rw [nR_d]; exact h.sz⟩
theorem fine_of {a : NR} (h : farH a = false) : Fine a := by
  have h' := of_decide_eq_false h
  have h1 : (a.mag.size : Int) ≤ 40 := by omega
  have h2 : -300 ≤ a.e := by omega
  have h3 : a.e ≤ 300 := by omega
  exact ⟨⟨by omega, by omega, by omega⟩, Sz.raw (m := 320) (E := 300) (by omega) h2 h3⟩
/-- Both queues, side by side. -/
def Both (w0 : World) (Hr : List HE) (b1 b2 : Nat) (top : Int) (w : World) : Prop := ∃ (n c c2 : Nat) (A A2 : Option Addr) (nx : Int) (L B : List (Ent Int)), (n : Int) ≤ nx ∧ 0 ≤ nx ∧ nx ≤ top ∧ QI L B nx ∧ (∀ e ∈ B, Fine e.k) ∧
  Hp w0 (.blk b1 46 [.slice A n c, .int .i64 nx] (0, 0) :: .row A n c 142 5 (recs EI.cells L) :: .blk b2 43 [.slice A2 n c2, .int .i64 nx] (0, 0) :: .row A2 n c2 104 5 (recs RE.cells B) :: Hr) w
theorem hstep_calls {w0 w : World} {Hr : List HE} {b1 b2 : Nat} {top : Int} (hh : Both w0 Hr b1 b2 top w) (hT : Tab w0) (htop : top ≤ 1000) (kind x : Int) (key : NR) (hk : Fine key) :
    Calls Tryz.prog 25 #[.pointer (some ⟨b1, 0, none⟩), .pointer (some ⟨b2, 0, none⟩), .agg #[.int .i64 kind, .bool key.neg, .string key.mag, .int .i64 key.e, .int .i64 x]] w fun r w' => r = .returned (.bool true) ∧ Both w0 Hr b1 b2 (top + 1) w' := by
  obtain ⟨n, c, c2, A, A2, nx, L, B, hn, hx0, hx1, hq, hB, hh⟩ := hh
  have hBo : ∀ e ∈ B, e.k.ok := fun e he => (hB e he).ok
  have hLo := hq.ok hBo
  have hln := (hh.sl_row (i := 1) rfl).recLen EI.len (by decide)
  have hbn := (hh.sl_row (i := 3) rfl).recLen RE.len (by decide)
  by_cases h0 : kind % 4 = 0
  · refine calls_vc (N := 111) (l := [.pointer (some ⟨b1, 0, none⟩), .pointer (some ⟨b2, 0, none⟩), .agg #[.int .i64 kind, .bool key.neg, .string key.mag, .int .i64 key.e, .int .i64 x]]) Tryz.func25 rfl rfl (by simp) ?_
    refine sr ?_
    refine bxC hh [_,_,_,_,_] ?_
    intro b5 w5 hh
    refine aB (wl_end (wc_seq (sr (faC ?_))))
    refine l1C hh 0 ?_
    refine s_and3 rfl rfl (by decide) ?_
    rw [h0]
    refine wl_end (wc_block (sr ?_))
    refine eqlC (aB (wl_end (cT (sr (mP (faC ?_))))))
    refine lgC hh 0 [_,_,_] (faC ?_)
    refine l1C hh 0 ?_
    replace hh := hh.perm (List.perm_middle (l₁ := [_, _]))
    simp only [List.cons_append, List.nil_append] at hh
    replace hh := hh.perm (List.perm_middle (l₁ := [_, _]))
    simp only [List.cons_append, List.nil_append] at hh
    refine s_callf (EIput_calls hh hT key x hk.ok hk.nr.ok hLo (by omega) hx0 (by omega) hq.heap) FnIs.out rfl (by decide) ?_
    rintro e_ w85 ⟨rfl, A', c', L', hp, hhp, hh⟩
    refine ⟨_, rfl, ?_⟩
    refine wl_end (wc_region (mP (faC ?_)))
    refine lgC hh 2 [_,_,_] (faC ?_)
    refine l1C hh 2 ?_
    replace hh := hh.perm (List.perm_middle (l₁ := [_, _, _, _]))
    simp only [List.cons_append, List.nil_append] at hh
    replace hh := hh.perm (List.perm_middle (l₁ := [_, _, _, _]))
    simp only [List.cons_append, List.nil_append] at hh
    refine s_callf (qput_calls hh key x hk.ok (by omega) hx0 (by omega)) FnIs.out rfl (by decide) ?_
    rintro e_ w91 ⟨rfl, A3, c3, hh⟩
    refine ⟨_, rfl, ?_⟩
    have hq' := hq.put hx0 rfl hp hhp
    replace hh := hh.perm (List.perm_middle (l₁ := [_]))
    simp only [List.cons_append, List.nil_append] at hh
    replace hh := hh.perm (List.perm_middle (l₁ := [_]))
    simp only [List.cons_append, List.nil_append] at hh
    replace hh := hh.perm (List.perm_middle (l₁ := [_, _, _]))
    simp only [List.cons_append, List.nil_append] at hh
    replace hh := hh.perm (List.perm_middle (l₁ := [_, _, _]))
    simp only [List.cons_append, List.nil_append] at hh
    refine wl_nil (b_norm (k_then (wc_seq ?_)))
    refine wc_drawn 7 [[(0, none)], [(103, some 0)], [(1, none)], [(105, some 2)], [(106, some 3)], [(107, some 4)], [(108, some 5)]] [(6, 109), (5, 108), (4, 107), (3, 106), (2, 105), (1, 104), (0, 103)] hh mixed (by kernel_rfl) ?_
    refine dmP ?_
    refine dC (fun _ hj => EIlen_calls _ (hj.hp.cell_blk (i := 0) rfl rfl)) ?_
    refine dmP ?_
    refine dnc ?_
    refine dfa ?_
    refine dl1 2 ?_
    refine dlen ?_
    refine dx_nil ?_
    intro f W hJ hV
    have hb_18 := hJ.bl
    obtain ⟨v109, v108, v107, v106, v105, v104, v103, _⟩ := hV
    replace hh := hJ.hp
    refine wl_cast (updL_K (eql_cons v109 (eql_cons v108 (eql_cons v107 (eql_cons v106 (eql_cons v105 (eql_cons v104 (eql_cons v103 eql_nil)))))))) ?_
    dsimp only [updK]
    clear hJ
    refine eqlC (aB (wl_end (wc_ret ?_)))
    refine ret1 (by first | exact .inr rfl | exact .inl rfl) rfl (v_bool rfl) ?_
    replace hh := hh.sub (List.Sublist.cons_cons _ (List.Sublist.cons_cons _ (List.Sublist.cons_cons _ (List.Sublist.cons_cons _ (List.Sublist.cons _ (List.Sublist.refl _))))))
    exact ⟨rfl, n + 1, _, _, _, _, nx + 1, L', _, by omega, by omega, by omega, hq', List.forall_mem_append.2 ⟨hB, fun e he => by obtain rfl := List.mem_singleton.1 he; exact hk.nr⟩, hh⟩
  · by_cases h3 : kind % 4 = 3
    · have hdl := hq.droplen (EIkeep key)
      have hfl : (B.filter (EIkeep key)).length ≤ B.length := List.length_filter_le _ _
      refine calls_vc (N := 111) (l := [.pointer (some ⟨b1, 0, none⟩), .pointer (some ⟨b2, 0, none⟩), .agg #[.int .i64 kind, .bool key.neg, .string key.mag, .int .i64 key.e, .int .i64 x]]) Tryz.func25 rfl rfl (by simp) ?_
      refine sr ?_
      refine bxC hh [_,_,_,_,_] ?_
      intro b5 w5 hh
      refine aB (wl_end (wc_seq (sr (faC ?_))))
      refine l1C hh 0 ?_
      refine s_and3 rfl rfl (by decide) ?_
      rw [h3]
      refine wl_end (wc_block (sr ?_))
      refine eqlC (aB (wl_end (cF (sr ?_))))
      refine eqlC (aB (wl_end (cT (wc_seq ?_))))
      replace hh := hh.perm (List.perm_middle (l₁ := [_, _, _, _]))
      simp only [List.cons_append, List.nil_append] at hh
      replace hh := hh.perm (List.perm_middle (l₁ := [_, _, _, _]))
      simp only [List.cons_append, List.nil_append] at hh
      replace hh := hh.perm (List.perm_middle (l₁ := [_, _, _, _]))
      simp only [List.cons_append, List.nil_append] at hh
      replace hh := hh.perm (List.perm_middle (l₁ := [_, _, _, _]))
      simp only [List.cons_append, List.nil_append] at hh
      refine wc_drawn6 [0, 0, 2, 7, 0, 0, 32, 127, 255] 7 3 [[(0, none)], [(5, none)], [(95, some 1)], [(94, some 0), (96, some 2)], [(1, none)], [(5, none)], [(99, some 5)]] [(6, 100), (5, 99), (4, 98), (3, 97), (2, 96), (1, 95), (0, 94)] hh (fun W => ∃ A' c' L', L'.Perm (L.filter (EIkeep key)) ∧ Heap ah 0 L' ∧ Hp w0 (.blk b1 46 [.slice A' (L.filter (EIkeep key)).length c', .int .i64 nx] (0, 0) :: .row A' (L.filter (EIkeep key)).length c' 142 5 (recs EI.cells L') :: .blk b2 43 [.slice A2 n c2, .int .i64 nx] (0, 0) :: .row A2 n c2 104 5 (recs RE.cells B) :: .blk b5 38 [.int .i64 kind, .bool key.neg, .string key.mag, .int .i64 key.e, .int .i64 x] (0, 0) :: Hr) W) (List.Sublist.cons _ (List.Sublist.cons _ (List.Sublist.refl _))) mixed (by kernel_rfl) (by decide) ?_ ?_ ?_
      · rintro w_ w2_ ⟨A', c', L', hp, hhp, hh⟩ hb_
        exact ⟨A', c', L', hp, hhp, hh.ext hb_⟩
      · rintro w_ ⟨A', c', L', hp, hhp, hh⟩
        exact hh.sub (List.Sublist.cons _ (List.Sublist.cons _ (List.Sublist.refl _)))
      refine dmP ?_
      refine dfa ?_
      refine dLF [_,_,_] (fun _ hj => hj.hp.rd_blk_at (i := 2) (n := 3) rfl rfl) ?_
      refine dx_nil ?_
      refine ⟨_, _, Is (.int .i64 ((n : Int) - ((L.filter (EIkeep key)).length : Nat))), rfl, rfl, Is.ext, ?_, ?_⟩
      · intro ρ1 w1 hh hR
        exact og_enter rfl (run_callf FnIs.out (evs_cons (show ρ1 94 = Value.pointer _ from hR.1) (evs_cons (show ρ1 96 = Value.agg (List.toArray _) from hR.2.1) evs_nil))) (EIdrop_calls hh hT key hk.ok hLo (by omega)) (fun _ _ hq => ⟨_, hq.1, hq.2, rfl⟩)
      refine dmP ?_
      refine dfa ?_
      refine dLF [_,_,_] (fun _ hj => hj.hp.rd_blk_at (i := 2) (n := 3) rfl rfl) ?_
      refine dx_nil ?_
      refine ⟨by repeat (first | exact trivial | refine ⟨fun _ _ _ h_ => h_, ?_⟩), ?_⟩
      rintro f W ⟨A', c', L', hp, hhp, hh⟩ hV
      obtain ⟨v100, v99, v98, v97, v96, v95, v94, _⟩ := hV
      simp only [updL]
      have e94 : f 0 = _ := v94
      rw [e94]
      have e95 : f 1 = _ := v95
      rw [e95]
      have e96 : f 2 = _ := v96
      rw [e96]
      have e97 : f 3 = _ := v97
      rw [e97]
      have e98 : f 4 = _ := v98
      rw [e98]
      have e99 : f 5 = _ := v99
      rw [e99]
      have e100 : f 6 = _ := v100
      rw [e100]
      clear e94 e95 e96 e97 e98 e99 e100
      rw [hdl] at hh ⊢
      replace hh := hh.perm (List.perm_middle (l₁ := [_, _, _]))
      simp only [List.cons_append, List.nil_append] at hh
      replace hh := hh.perm (List.perm_middle (l₁ := [_, _, _]))
      simp only [List.cons_append, List.nil_append] at hh
      refine s_callf (qdrop_calls hh key hk.ok hBo (by omega) 620 (fun e he => (hB e he).sz) hk.sz (by omega)) FnIs.out rfl (by decide) ?_
      rintro e_ w101 ⟨rfl, A3, c3, hh⟩
      refine ⟨_, rfl, ?_⟩
      have hq' := hq.drop hp hhp
      replace hh := hh.perm (List.perm_middle (l₁ := [_]))
      simp only [List.cons_append, List.nil_append] at hh
      replace hh := hh.perm (List.perm_middle (l₁ := [_]))
      simp only [List.cons_append, List.nil_append] at hh
      replace hh := hh.perm (List.perm_middle (l₁ := [_, _, _]))
      simp only [List.cons_append, List.nil_append] at hh
      replace hh := hh.perm (List.perm_middle (l₁ := [_, _, _]))
      simp only [List.cons_append, List.nil_append] at hh
      refine neqC (wl_end (cF (wc_skip (b_norm (k_then (wc_seq ?_))))))
      refine wc_drawn 7 [[(0, none)], [(103, some 0)], [(1, none)], [(105, some 2)], [(106, some 3)], [(107, some 4)], [(108, some 5)]] [(6, 109), (5, 108), (4, 107), (3, 106), (2, 105), (1, 104), (0, 103)] hh mixed (by kernel_rfl) ?_
      refine dmP ?_
      refine dC (fun _ hj => EIlen_calls _ (hj.hp.cell_blk (i := 0) rfl rfl)) ?_
      refine dmP ?_
      refine dnc ?_
      refine dfa ?_
      refine dl1 2 ?_
      refine dlen ?_
      refine dx_nil ?_
      intro f W hJ hV
      have hb_18 := hJ.bl
      obtain ⟨v109, v108, v107, v106, v105, v104, v103, _⟩ := hV
      replace hh := hJ.hp
      refine wl_cast (updL_K (eql_cons v109 (eql_cons v108 (eql_cons v107 (eql_cons v106 (eql_cons v105 (eql_cons v104 (eql_cons v103 eql_nil)))))))) ?_
      dsimp only [updK]
      clear hJ
      refine eqlC (aB (wl_end (wc_ret ?_)))
      refine ret1 (by first | exact .inr rfl | exact .inl rfl) rfl (v_bool rfl) ?_
      replace hh := hh.sub (List.Sublist.cons_cons _ (List.Sublist.cons_cons _ (List.Sublist.cons_cons _ (List.Sublist.cons_cons _ (List.Sublist.cons _ (List.Sublist.refl _))))))
      exact ⟨rfl, _, _, _, _, _, nx, L', _, by omega, by omega, by omega, hq', fun e he => hB e (List.mem_filter.1 he).1, hh⟩
    · by_cases hn0 : n = 0
      · subst hn0
        have hB0 : B = [] := List.eq_nil_of_length_eq_zero hbn
        subst hB0
        refine calls_vc (N := 111) (l := [.pointer (some ⟨b1, 0, none⟩), .pointer (some ⟨b2, 0, none⟩), .agg #[.int .i64 kind, .bool key.neg, .string key.mag, .int .i64 key.e, .int .i64 x]]) Tryz.func25 rfl rfl (by simp) ?_
        refine sr ?_
        refine bxC hh [_,_,_,_,_] ?_
        intro b5 w5 hh
        refine aB (wl_end (wc_seq (sr (faC ?_))))
        refine l1C hh 0 ?_
        refine s_and3 rfl rfl (by decide) ?_
        refine wl_end (wc_block (sr ?_))
        refine eqlC (aB (wl_end (cF (sr ?_))))
        refine eqlC (aB (wl_end (cF (sr (mP ?_)))))
        refine s_callf (EIfirst_nil _ (hh.cell_blk (i := 1) rfl rfl) rfl) FnIs.out rfl (by decide) ?_
        rintro e_ w16 ⟨rfl, hb_⟩
        refine ⟨_, rfl, ?_⟩
        replace hh := hh.ext hb_
        refine mT ?_
        refine exC ?_
        refine exC ?_
        refine exC ?_
        refine alC hh ?_
        intro b7 w7 hh
        refine stC hh 0 [_,_,_] ?_
        intro ws hh
        replace hh : Hp _ (.blk _ _ [_, _, _] _ :: _) _ := hh
        refine aI (aB (wl_end (wc_seq (sr (faC ?_)))))
        refine l1C hh 1 ?_
        refine s_and3 rfl rfl (by decide) ?_
        by_cases h1 : kind % 4 = 1
        · rw [h1]
          refine eqlC (wl_end (cT (wc_region (mP ?_))))
          refine s_callf (EItake_nil _ (hh.cell_blk (i := 2) rfl rfl) rfl) FnIs.out rfl (by decide) ?_
          rintro e_ w26 ⟨rfl, hb_⟩
          refine ⟨_, rfl, ?_⟩
          replace hh := hh.ext hb_
          refine mT ?_
          refine exC ?_
          refine exC ?_
          refine exC ?_
          refine stC hh 0 [_,_,_] ?_
          intro ws hh
          replace hh : Hp _ (.blk _ _ [_, _, _] _ :: _) _ := hh
          refine aI (aB (wl_end (sr (mP ?_))))
          refine s_callf (qfirst_calls _ (hh.cell_blk (i := 4) rfl rfl) (hh.sl_row (i := 5) rfl) (by omega) hBo 620 (fun e he => (hB e he).sz) (by omega)) FnIs.out rfl (by decide) ?_
          rintro e_ w31 ⟨v, rfl, hv, hb_⟩
          refine ⟨_, rfl, ?_⟩
          replace hh := hh.ext hb_
          obtain ⟨_, rfl⟩ | ⟨m, _, hm, _⟩ := hv
          · refine aI (wl_end (wc_seq (sr (mI ?_))))
            refine lssC (wl_end (cT (sr (mB ?_))))
            refine notC ?_
            refine mB ?_
            first | refine gS ?_ | (refine gT ?_; refine mI ?_) | refine gV ?_
            first | refine gS ?_ | (refine gT ?_; refine eqlC ?_) | refine gV ?_
            first | refine pkT ?_ | refine pkF ?_
            refine mB ?_
            first | refine gS ?_ | (refine gT ?_; refine lgC hh 0 [_,_,_] ?_) | refine gV ?_
            first | refine gS ?_ | (refine gT ?_; refine bdC [_,_,_] ?_) | refine gV ?_
            first | refine gS ?_ | (refine gT ?_; (first | refine s_eqN_t rfl rfl (by first | assumption | rfl) (by decide) ?_ | refine s_eqN_f rfl rfl (by assumption) (by decide) ?_)) | refine gV ?_
            first | refine pkT ?_ | refine pkF ?_
            refine aB (wl_end (wc_ret (k_ret (b_ret (k_ret ?_)))))
            refine ret1 (by first | exact .inr rfl | exact .inl rfl) rfl (v_bool rfl) ?_
            replace hh := hh.sub (List.Sublist.cons _ (List.Sublist.cons _ (List.Sublist.cons_cons _ (List.Sublist.cons_cons _ (List.Sublist.cons_cons _ (List.Sublist.cons_cons _ (List.Sublist.refl _)))))))
            exact ⟨rfl, 0, _, _, _, _, nx, L, [], by omega, by omega, by omega, hq, hB, hh⟩
          · omega
        · refine eqlC (wl_end (cF (wc_skip (k_then (sr (mP ?_))))))
          refine s_callf (qfirst_calls _ (hh.cell_blk (i := 4) rfl rfl) (hh.sl_row (i := 5) rfl) (by omega) hBo 620 (fun e he => (hB e he).sz) (by omega)) FnIs.out rfl (by decide) ?_
          rintro e_ w31 ⟨v, rfl, hv, hb_⟩
          refine ⟨_, rfl, ?_⟩
          replace hh := hh.ext hb_
          obtain ⟨_, rfl⟩ | ⟨m, _, hm, _⟩ := hv
          · refine aI (wl_end (wc_seq (sr (mI ?_))))
            refine lssC (wl_end (cT (sr (mB ?_))))
            refine notC ?_
            refine mB ?_
            first | refine gS ?_ | (refine gT ?_; refine mI ?_) | refine gV ?_
            first | refine gS ?_ | (refine gT ?_; refine eqlC ?_) | refine gV ?_
            first | refine pkT ?_ | refine pkF ?_
            refine mB ?_
            first | refine gS ?_ | (refine gT ?_; refine lgC hh 0 [_,_,_] ?_) | refine gV ?_
            first | refine gS ?_ | (refine gT ?_; refine bdC [_,_,_] ?_) | refine gV ?_
            first | refine gS ?_ | (refine gT ?_; (first | refine s_eqN_t rfl rfl (by first | assumption | rfl) (by decide) ?_ | refine s_eqN_f rfl rfl (by assumption) (by decide) ?_)) | refine gV ?_
            first | refine pkT ?_ | refine pkF ?_
            refine aB (wl_end (wc_ret (k_ret (b_ret (k_ret ?_)))))
            refine ret1 (by first | exact .inr rfl | exact .inl rfl) rfl (v_bool rfl) ?_
            replace hh := hh.sub (List.Sublist.cons _ (List.Sublist.cons _ (List.Sublist.cons_cons _ (List.Sublist.cons_cons _ (List.Sublist.cons_cons _ (List.Sublist.cons_cons _ (List.Sublist.refl _)))))))
            exact ⟨rfl, 0, _, _, _, _, nx, L, [], by omega, by omega, by omega, hq, hB, hh⟩
          · omega
      · obtain ⟨n, rfl⟩ : ∃ r, n = r + 1 := ⟨n - 1, by omega⟩
        obtain ⟨e, he⟩ := get_of_lt (l := L) (k := 0) (by omega)
        refine calls_vc (N := 111) (l := [.pointer (some ⟨b1, 0, none⟩), .pointer (some ⟨b2, 0, none⟩), .agg #[.int .i64 kind, .bool key.neg, .string key.mag, .int .i64 key.e, .int .i64 x]]) Tryz.func25 rfl rfl (by simp) ?_
        refine sr ?_
        refine bxC hh [_,_,_,_,_] ?_
        intro b5 w5 hh
        refine aB (wl_end (wc_seq (sr (faC ?_))))
        refine l1C hh 0 ?_
        refine s_and3 rfl rfl (by decide) ?_
        refine wl_end (wc_block (sr ?_))
        refine eqlC (aB (wl_end (cF (sr ?_))))
        refine eqlC (aB (wl_end (cF (sr (mP ?_)))))
        refine s_callf (EIfirst_calls _ (hh.cell_blk (i := 1) rfl rfl) (hh.sl_row (i := 2) rfl) (by omega) he) FnIs.out rfl (by decide) ?_
        rintro e_ w16 ⟨rfl, hb_⟩
        refine ⟨_, rfl, ?_⟩
        replace hh := hh.ext hb_
        refine mT ?_
        refine exC ?_
        refine exC ?_
        refine exC ?_
        refine alC hh ?_
        intro b7 w7 hh
        refine stC hh 0 [_,_,_] ?_
        intro ws hh
        replace hh : Hp _ (.blk _ _ [_, _, _] _ :: _) _ := hh
        refine aI (aB (wl_end (wc_seq (sr (faC ?_)))))
        refine l1C hh 1 ?_
        refine s_and3 rfl rfl (by decide) ?_
        by_cases h1 : kind % 4 = 1
        · refine eqlC (wl_end (cT (wc_region (mP ?_))))
          replace hh := hh.perm (List.perm_middle (l₁ := [_, _, _]))
          simp only [List.cons_append, List.nil_append] at hh
          replace hh := hh.perm (List.perm_middle (l₁ := [_, _, _]))
          simp only [List.cons_append, List.nil_append] at hh
          refine s_callf (EItake_calls (n := n) hh hT hLo (by omega) hq.heap he) FnIs.out rfl (by decide) ?_
          rintro e_ w26 ⟨rfl, L', hp, hhp, hh⟩
          refine ⟨_, rfl, ?_⟩
          refine mT ?_
          refine exC ?_
          refine exC ?_
          refine exC ?_
          refine stC hh 2 [_,_,_] ?_
          intro ws hh
          replace hh : Hp _ (_ :: _ :: .blk _ _ [_, _, _] _ :: _) _ := hh
          refine aI (aB (wl_end (sr (mP ?_))))
          refine s_callf (qfirst_calls _ (hh.cell_blk (i := 4) rfl rfl) (hh.sl_row (i := 5) rfl) (by omega) hBo 620 (fun e he => (hB e he).sz) (by omega)) FnIs.out rfl (by decide) ?_
          rintro e_ w31 ⟨v, rfl, hv, hb_⟩
          refine ⟨_, rfl, ?_⟩
          replace hh := hh.ext hb_
          obtain ⟨m, rfl, hm, hmin⟩ := hv.resolve_left fun h => by omega
          obtain ⟨y, hy⟩ := get_of_lt (l := B) (k := m) (by omega)
          obtain rfl := hq.first he hy fun k a ha => hmin k a y ha hy
          refine aI (wl_end (wc_seq (sr (mI ?_))))
          refine lssC (wl_end (cF (wc_skip (k_then (wc_seq (wc_seq ?_))))))
          replace hh := hh.perm (List.perm_middle (l₁ := [_, _, _, _, _]))
          simp only [List.cons_append, List.nil_append] at hh
          replace hh := hh.perm (List.perm_middle (l₁ := [_, _, _, _, _]))
          simp only [List.cons_append, List.nil_append] at hh
          replace hh := hh.perm (List.perm_middle (l₁ := [_, _, _]))
          simp only [List.cons_append, List.nil_append] at hh
          replace hh := hh.perm (List.perm_middle (l₁ := [_, _, _]))
          simp only [List.cons_append, List.nil_append] at hh
          obtain ⟨g, rfl⟩ := hh.row_some (i := 3) rfl (by omega)
          refine wc_drawn 24 [[(9, none)], [(45, some 0)], [(46, some 1)], [(7, none), (47, some 2)], [(1, none), (47, some 2)], [(49, some 4), (47, some 2)], [(50, some 5), (47, some 2)], [(51, some 6), (47, some 2)], [(10, none), (47, some 2)], [(52, some 7), (53, some 8), (47, some 2)], [(54, some 9), (47, some 2)], [(55, some 10), (47, some 2)], [(48, some 3), (56, some 11), (47, some 2)], [(47, some 2), (57, some 12)], [(58, some 13)], [(8, none), (59, some 14)], [(1, none), (59, some 14)], [(61, some 16), (59, some 14)], [(62, some 17), (59, some 14)], [(63, some 18), (59, some 14)], [(10, none), (59, some 14)], [(64, some 19), (65, some 20), (59, some 14)], [(66, some 21), (59, some 14)], [(67, some 22), (59, some 14)]] [(23, 68), (22, 67), (21, 66), (20, 65), (19, 64), (18, 63), (17, 62), (16, 61), (15, 60), (14, 59), (13, 58), (12, 57), (11, 56), (10, 55), (9, 54), (8, 53), (7, 52), (6, 51), (5, 50), (4, 49), (3, 48), (2, 47), (1, 46), (0, 45)] hh mixed (by kernel_rfl) ?_
          refine dmB ?_
          refine dnot ?_
          refine dmB ?_
          first | refine dS ?_ | refine dU ?_ | refine dG (dlg 4 [_,_,_] ?_)
          first | refine dS ?_ | refine dU ?_ | refine dG (dmP ?_)
          first | refine dS ?_ | refine dU ?_ | refine dG (dnc ?_)
          first | refine dS ?_ | refine dU ?_ | refine dG (dfa ?_)
          first | refine dS ?_ | refine dU ?_ | refine dG (dl1 2 ?_)
          first | refine dS ?_ | refine dU ?_ | refine dG (dmI ?_)
          first | refine dS ?_ | refine dU ?_ | refine dG (dix (m) ?_)
          first | refine dS ?_ | refine dU ?_ | refine dG (dfa ?_)
          first | refine dS ?_ | refine dU ?_ | refine dG (dLF [_,_,_] (fun _ hj => (hj.hp.recRow (f := RE.cells) (x := e) (l := B) (i := 3) rfl RE.len (by decide) hy).take 3) ?_)
          first | refine dx_skip (i := 12) rfl (fun ρ1 w1 hj hR => (show ρ1 47 = Value.bool _ from hR.2.2.1)) (by decide) ?_ | refine dx_skipU (i := 12) rfl (fun ρ1 w1 hj hR => (show ρ1 47 = undef from hR.2.2.1)) ?_ | refine dx_take (i := 12) rfl (fun ρ1 w1 hj hR => (show ρ1 47 = Value.bool _ from hR.2.2.1)) (fun ρ1 w1 hj hR => x_neN_f (show ρ1 48 = Value.agg (List.toArray _) from hR.1) (show ρ1 56 = Value.agg (List.toArray _) from hR.2.1) (by first | assumption | rfl)) ?_ | refine dx_take (i := 12) rfl (fun ρ1 w1 hj hR => (show ρ1 47 = Value.bool _ from hR.2.2.1)) (fun ρ1 w1 hj hR => x_neN_t (show ρ1 48 = Value.agg (List.toArray _) from hR.1) (show ρ1 56 = Value.agg (List.toArray _) from hR.2.1) (by assumption)) ?_
          first | refine dpT ?_ | refine dpF ?_
          refine dmB ?_
          first | refine dS ?_ | refine dU ?_ | refine dG (dmI ?_)
          first | refine dS ?_ | refine dU ?_ | refine dG (dmP ?_)
          first | refine dS ?_ | refine dU ?_ | refine dG (dnc ?_)
          first | refine dS ?_ | refine dU ?_ | refine dG (dfa ?_)
          first | refine dS ?_ | refine dU ?_ | refine dG (dl1 2 ?_)
          first | refine dS ?_ | refine dU ?_ | refine dG (dmI ?_)
          first | refine dS ?_ | refine dU ?_ | refine dG (dix (m) ?_)
          first | refine dS ?_ | refine dU ?_ | refine dG (dfa ?_)
          first | refine dS ?_ | refine dU ?_ | refine dG (dlF (fun _ hj => (hj.hp.recRow (f := RE.cells) (x := e) (l := B) (i := 3) rfl RE.len (by decide) hy) 3 _ rfl) ?_)
          refine dx_nil ?_
          intro f W hJ hV
          have hb_8 := hJ.bl
          obtain ⟨v68, v67, v66, v65, v64, v63, v62, v61, v60, v59, v58, v57, v56, v55, v54, v53, v52, v51, v50, v49, v48, v47, v46, v45, _⟩ := hV
          replace hh := hJ.hp
          refine wl_cast (updL_K (eql_cons v68 (eql_cons v67 (eql_cons v66 (eql_cons v65 (eql_cons v64 (eql_cons v63 (eql_cons v62 (eql_cons v61 (eql_cons v60 (eql_cons v59 (eql_cons v58 (eql_cons v57 (eql_cons v56 (eql_cons v55 (eql_cons v54 (eql_cons v53 (eql_cons v52 (eql_cons v51 (eql_cons v50 (eql_cons v49 (eql_cons v48 (eql_cons v47 (eql_cons v46 (eql_cons v45 eql_nil))))))))))))))))))))))))) ?_
          dsimp only [updK]
          clear hJ
          first | refine gS ?_ | (refine gT ?_; refine neqC ?_) | refine gV ?_
          first | refine pkT ?_ | refine pkF ?_
          refine wl_end (cF (wc_skip (k_then (sr (faC ?_)))))
          refine l1C hh 5 ?_
          refine s_and3 rfl rfl (by decide) ?_
          refine eqlC (wl_end (cT (wc_region (mP (mI ?_)))))
          replace hh := hh.perm (List.perm_middle (l₁ := [_, _, _]))
          simp only [List.cons_append, List.nil_append] at hh
          replace hh := hh.perm (List.perm_middle (l₁ := [_, _, _]))
          simp only [List.cons_append, List.nil_append] at hh
          refine s_callf (qout_calls hh (by omega) hm) FnIs.out rfl (by decide) ?_
          rintro e_ w77 ⟨rfl, A3, c3, hh⟩
          refine ⟨_, rfl, ?_⟩
          have hq' := hq.take hy hp hhp
          rw [Nat.add_sub_cancel] at hh
          replace hh := hh.perm (List.perm_middle (l₁ := [_]))
          simp only [List.cons_append, List.nil_append] at hh
          replace hh := hh.perm (List.perm_middle (l₁ := [_]))
          simp only [List.cons_append, List.nil_append] at hh
          replace hh := hh.perm (List.perm_middle (l₁ := [_, _, _]))
          simp only [List.cons_append, List.nil_append] at hh
          replace hh := hh.perm (List.perm_middle (l₁ := [_, _, _]))
          simp only [List.cons_append, List.nil_append] at hh
          refine wl_nil (b_norm (k_then (wc_seq ?_)))
          refine wc_drawn 7 [[(0, none)], [(103, some 0)], [(1, none)], [(105, some 2)], [(106, some 3)], [(107, some 4)], [(108, some 5)]] [(6, 109), (5, 108), (4, 107), (3, 106), (2, 105), (1, 104), (0, 103)] hh mixed (by kernel_rfl) ?_
          refine dmP ?_
          refine dC (fun _ hj => EIlen_calls _ (hj.hp.cell_blk (i := 0) rfl rfl)) ?_
          refine dmP ?_
          refine dnc ?_
          refine dfa ?_
          refine dl1 2 ?_
          refine dlen ?_
          refine dx_nil ?_
          intro f W hJ hV
          have hb_18 := hJ.bl
          obtain ⟨v109, v108, v107, v106, v105, v104, v103, _⟩ := hV
          replace hh := hJ.hp
          refine wl_cast (updL_K (eql_cons v109 (eql_cons v108 (eql_cons v107 (eql_cons v106 (eql_cons v105 (eql_cons v104 (eql_cons v103 eql_nil)))))))) ?_
          dsimp only [updK]
          clear hJ
          refine eqlC (aB (wl_end (wc_ret ?_)))
          refine ret1 (by first | exact .inr rfl | exact .inl rfl) rfl (v_bool rfl) ?_
          replace hh := hh.sub (List.Sublist.cons_cons _ (List.Sublist.cons_cons _ (List.Sublist.cons_cons _ (List.Sublist.cons_cons _ (List.Sublist.cons _ (List.Sublist.cons _ (List.Sublist.refl _)))))))
          exact ⟨rfl, n, _, _, _, _, nx, L', _, by omega, by omega, by omega, hq', fun e he => hB e ((List.eraseIdx_sublist _ _).subset he), hh⟩
        · refine eqlC (wl_end (cF (wc_skip (k_then (sr (mP ?_))))))
          refine s_callf (qfirst_calls _ (hh.cell_blk (i := 4) rfl rfl) (hh.sl_row (i := 5) rfl) (by omega) hBo 620 (fun e he => (hB e he).sz) (by omega)) FnIs.out rfl (by decide) ?_
          rintro e_ w31 ⟨v, rfl, hv, hb_⟩
          refine ⟨_, rfl, ?_⟩
          replace hh := hh.ext hb_
          obtain ⟨m, rfl, hm, hmin⟩ := hv.resolve_left fun h => by omega
          obtain ⟨y, hy⟩ := get_of_lt (l := B) (k := m) (by omega)
          obtain rfl := hq.first he hy fun k a ha => hmin k a y ha hy
          refine aI (wl_end (wc_seq (sr (mI ?_))))
          refine lssC (wl_end (cF (wc_skip (k_then (wc_seq (wc_seq ?_))))))
          replace hh := hh.perm (List.perm_middle (l₁ := [_, _, _, _, _]))
          simp only [List.cons_append, List.nil_append] at hh
          replace hh := hh.perm (List.perm_middle (l₁ := [_, _, _, _, _]))
          simp only [List.cons_append, List.nil_append] at hh
          replace hh := hh.perm (List.perm_middle (l₁ := [_, _, _, _, _]))
          simp only [List.cons_append, List.nil_append] at hh
          replace hh := hh.perm (List.perm_middle (l₁ := [_, _, _, _, _]))
          simp only [List.cons_append, List.nil_append] at hh
          obtain ⟨g, rfl⟩ := hh.row_some (i := 3) rfl (by omega)
          refine wc_drawn 24 [[(9, none)], [(45, some 0)], [(46, some 1)], [(7, none), (47, some 2)], [(1, none), (47, some 2)], [(49, some 4), (47, some 2)], [(50, some 5), (47, some 2)], [(51, some 6), (47, some 2)], [(10, none), (47, some 2)], [(52, some 7), (53, some 8), (47, some 2)], [(54, some 9), (47, some 2)], [(55, some 10), (47, some 2)], [(48, some 3), (56, some 11), (47, some 2)], [(47, some 2), (57, some 12)], [(58, some 13)], [(8, none), (59, some 14)], [(1, none), (59, some 14)], [(61, some 16), (59, some 14)], [(62, some 17), (59, some 14)], [(63, some 18), (59, some 14)], [(10, none), (59, some 14)], [(64, some 19), (65, some 20), (59, some 14)], [(66, some 21), (59, some 14)], [(67, some 22), (59, some 14)]] [(23, 68), (22, 67), (21, 66), (20, 65), (19, 64), (18, 63), (17, 62), (16, 61), (15, 60), (14, 59), (13, 58), (12, 57), (11, 56), (10, 55), (9, 54), (8, 53), (7, 52), (6, 51), (5, 50), (4, 49), (3, 48), (2, 47), (1, 46), (0, 45)] hh mixed (by kernel_rfl) ?_
          refine dmB ?_
          refine dnot ?_
          refine dmB ?_
          first | refine dS ?_ | refine dU ?_ | refine dG (dlg 4 [_,_,_] ?_)
          first | refine dS ?_ | refine dU ?_ | refine dG (dmP ?_)
          first | refine dS ?_ | refine dU ?_ | refine dG (dnc ?_)
          first | refine dS ?_ | refine dU ?_ | refine dG (dfa ?_)
          first | refine dS ?_ | refine dU ?_ | refine dG (dl1 2 ?_)
          first | refine dS ?_ | refine dU ?_ | refine dG (dmI ?_)
          first | refine dS ?_ | refine dU ?_ | refine dG (dix (m) ?_)
          first | refine dS ?_ | refine dU ?_ | refine dG (dfa ?_)
          first | refine dS ?_ | refine dU ?_ | refine dG (dLF [_,_,_] (fun _ hj => (hj.hp.recRow (f := RE.cells) (x := e) (l := B) (i := 3) rfl RE.len (by decide) hy).take 3) ?_)
          first | refine dx_skip (i := 12) rfl (fun ρ1 w1 hj hR => (show ρ1 47 = Value.bool _ from hR.2.2.1)) (by decide) ?_ | refine dx_skipU (i := 12) rfl (fun ρ1 w1 hj hR => (show ρ1 47 = undef from hR.2.2.1)) ?_ | refine dx_take (i := 12) rfl (fun ρ1 w1 hj hR => (show ρ1 47 = Value.bool _ from hR.2.2.1)) (fun ρ1 w1 hj hR => x_neN_f (show ρ1 48 = Value.agg (List.toArray _) from hR.1) (show ρ1 56 = Value.agg (List.toArray _) from hR.2.1) (by first | assumption | rfl)) ?_ | refine dx_take (i := 12) rfl (fun ρ1 w1 hj hR => (show ρ1 47 = Value.bool _ from hR.2.2.1)) (fun ρ1 w1 hj hR => x_neN_t (show ρ1 48 = Value.agg (List.toArray _) from hR.1) (show ρ1 56 = Value.agg (List.toArray _) from hR.2.1) (by assumption)) ?_
          first | refine dpT ?_ | refine dpF ?_
          refine dmB ?_
          first | refine dS ?_ | refine dU ?_ | refine dG (dmI ?_)
          first | refine dS ?_ | refine dU ?_ | refine dG (dmP ?_)
          first | refine dS ?_ | refine dU ?_ | refine dG (dnc ?_)
          first | refine dS ?_ | refine dU ?_ | refine dG (dfa ?_)
          first | refine dS ?_ | refine dU ?_ | refine dG (dl1 2 ?_)
          first | refine dS ?_ | refine dU ?_ | refine dG (dmI ?_)
          first | refine dS ?_ | refine dU ?_ | refine dG (dix (m) ?_)
          first | refine dS ?_ | refine dU ?_ | refine dG (dfa ?_)
          first | refine dS ?_ | refine dU ?_ | refine dG (dlF (fun _ hj => (hj.hp.recRow (f := RE.cells) (x := e) (l := B) (i := 3) rfl RE.len (by decide) hy) 3 _ rfl) ?_)
          refine dx_nil ?_
          intro f W hJ hV
          have hb_8 := hJ.bl
          obtain ⟨v68, v67, v66, v65, v64, v63, v62, v61, v60, v59, v58, v57, v56, v55, v54, v53, v52, v51, v50, v49, v48, v47, v46, v45, _⟩ := hV
          replace hh := hJ.hp
          refine wl_cast (updL_K (eql_cons v68 (eql_cons v67 (eql_cons v66 (eql_cons v65 (eql_cons v64 (eql_cons v63 (eql_cons v62 (eql_cons v61 (eql_cons v60 (eql_cons v59 (eql_cons v58 (eql_cons v57 (eql_cons v56 (eql_cons v55 (eql_cons v54 (eql_cons v53 (eql_cons v52 (eql_cons v51 (eql_cons v50 (eql_cons v49 (eql_cons v48 (eql_cons v47 (eql_cons v46 (eql_cons v45 eql_nil))))))))))))))))))))))))) ?_
          dsimp only [updK]
          clear hJ
          first | refine gS ?_ | (refine gT ?_; refine neqC ?_) | refine gV ?_
          first | refine pkT ?_ | refine pkF ?_
          refine wl_end (cF (wc_skip (k_then (sr (faC ?_)))))
          refine l1C hh 5 ?_
          refine s_and3 rfl rfl (by decide) ?_
          refine eqlC (wl_end (cF (wc_skip (b_norm (k_then (wc_seq ?_))))))
          refine wc_drawn 7 [[(0, none)], [(103, some 0)], [(1, none)], [(105, some 2)], [(106, some 3)], [(107, some 4)], [(108, some 5)]] [(6, 109), (5, 108), (4, 107), (3, 106), (2, 105), (1, 104), (0, 103)] hh mixed (by kernel_rfl) ?_
          refine dmP ?_
          refine dC (fun _ hj => EIlen_calls _ (hj.hp.cell_blk (i := 0) rfl rfl)) ?_
          refine dmP ?_
          refine dnc ?_
          refine dfa ?_
          refine dl1 2 ?_
          refine dlen ?_
          refine dx_nil ?_
          intro f W hJ hV
          have hb_18 := hJ.bl
          obtain ⟨v109, v108, v107, v106, v105, v104, v103, _⟩ := hV
          replace hh := hJ.hp
          refine wl_cast (updL_K (eql_cons v109 (eql_cons v108 (eql_cons v107 (eql_cons v106 (eql_cons v105 (eql_cons v104 (eql_cons v103 eql_nil)))))))) ?_
          dsimp only [updK]
          clear hJ
          refine eqlC (aB (wl_end (wc_ret ?_)))
          refine ret1 (by first | exact .inr rfl | exact .inl rfl) rfl (v_bool rfl) ?_
          replace hh := hh.sub (List.Sublist.cons_cons _ (List.Sublist.cons_cons _ (List.Sublist.cons_cons _ (List.Sublist.cons_cons _ (List.Sublist.cons _ (List.Sublist.cons _ (List.Sublist.refl _)))))))
          exact ⟨rfl, n + 1, _, _, _, _, nx, L, B, by omega, by omega, by omega, hq, hB, hh⟩
end Go.Proofs.YthmmofllajkejaaGreatDoor
