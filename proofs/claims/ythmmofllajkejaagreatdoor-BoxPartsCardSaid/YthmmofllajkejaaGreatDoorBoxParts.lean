/- The walk through the law BoxParts. -/
import Derived.Test.YthmmofllajkejaaGreatDoorLawBA
namespace Go.Proofs.YthmmofllajkejaaGreatDoor
open Go.RowKit
-- umode
-- skipu
theorem boxParts_calls (L : Option Addr) (n c : Nat) (b : List SR) (ax : Int) (K : Option Addr) (q c3 : Nat) (l : List Int) (w : World) (hT : Tab w) (hS : Sl w L n 6 (recs SR.cells b)) (hS3 : Sl w K q 1 (i64s l)) (hI : ∀ z ∈ l, -9223372036854775808 ≤ z ∧ z ≤ 9223372036854775807) :
    Calls Tryz.prog 7 #[.slice L n c, .int .i64 ax, .slice K q c3] w fun r w' => r = .returned (.bool true) ∧ Below w.heap.size w w' := by
  have hh := Hp.start w
  have hln := hS.recLen SR.len (by decide)
  have hlq : l.length = q := by have := hS3.1; simpa [i64s] using this
  cases g1 : vastB b [] with
  | true =>
    refine calls_vc (N := 107) (l := [.slice L n c, .int .i64 ax, .slice K q c3]) Tryz.func7 rfl rfl (by simp) ?_
    refine sr (aB (wl_end (wc_seq (sr (mL ?_)))))
    refine s_callf (bvast_calls L n c b none 0 0 [] _ (hS.ext hh.below) (Sl.nil _ _ _)) FnIs.out rfl (by decide) ?_
    rintro e_ w16 ⟨rfl, hb_⟩
    refine ⟨_, rfl, ?_⟩
    replace hh := hh.ext hb_
    rw [g1]
    refine mB ?_
    first | refine gS ?_ | (refine gT ?_; refine mL ?_) | refine gV ?_
    first | refine gS ?_ | (refine gT ?_; refine lenC ?_) | refine gV ?_
    first | refine gS ?_ | (refine gT ?_; refine gtrC ?_) | refine gV ?_
    first | refine pkT ?_ | refine pkF ?_
    refine wl_end (cT (sr ?_))
    refine s_callf (bawake_calls _ (hT.hp hh)) FnIs.out rfl (by decide) ?_
    rintro e_ w22 ⟨rfl, hb_⟩
    refine ⟨_, rfl, ?_⟩
    replace hh := hh.ext hb_
    refine aB (wl_end (wc_ret (k_ret ?_)))
    refine ret1 (by first | exact .inr rfl | exact .inl rfl) rfl (v_bool rfl) ?_
    exact ⟨rfl, hh.below⟩
  | false =>
    by_cases h40 : 40 < q
    · refine calls_vc (N := 107) (l := [.slice L n c, .int .i64 ax, .slice K q c3]) Tryz.func7 rfl rfl (by simp) ?_
      refine sr (aB (wl_end (wc_seq (sr (mL ?_)))))
      refine s_callf (bvast_calls L n c b none 0 0 [] _ (hS.ext hh.below) (Sl.nil _ _ _)) FnIs.out rfl (by decide) ?_
      rintro e_ w16 ⟨rfl, hb_⟩
      refine ⟨_, rfl, ?_⟩
      replace hh := hh.ext hb_
      rw [g1]
      refine mB ?_
      first | refine gS ?_ | (refine gT ?_; refine mL ?_) | refine gV ?_
      first | refine gS ?_ | (refine gT ?_; refine lenC ?_) | refine gV ?_
      first | refine gS ?_ | (refine gT ?_; refine gtrC ?_) | refine gV ?_
      first | refine pkT ?_ | refine pkF ?_
      refine wl_end (cT (sr ?_))
      refine s_callf (bawake_calls _ (hT.hp hh)) FnIs.out rfl (by decide) ?_
      rintro e_ w22 ⟨rfl, hb_⟩
      refine ⟨_, rfl, ?_⟩
      replace hh := hh.ext hb_
      refine aB (wl_end (wc_ret (k_ret ?_)))
      refine ret1 (by first | exact .inr rfl | exact .inl rfl) rfl (v_bool rfl) ?_
      exact ⟨rfl, hh.below⟩
    · obtain ⟨v1, -, v3, -⟩ := vast_no g1
      have hone : ((recs SR.cells b).all Value.oneCell') = true := recs_oneCells SR.one _
      have hp1 := fun A c0 w1 hT1 hS1 hS2 => bPart_calls A n c0 b K q c3 l 440 w1 hT1 hS1 v3 hS2 (by omega) (by omega) hlq
      have hp2 := fun A c0 w1 hS1 hS2 => rbPart_calls A n c0 b K q c3 l 440 w1 hS1 v3 hS2 (by omega) (by omega) hlq (fun z hz => (hI z hz).2)
      by_cases hbad : ax < 0 ∨ (n : Int) ≤ ax
      · refine calls_vc (N := 107) (l := [.slice L n c, .int .i64 ax, .slice K q c3]) Tryz.func7 rfl rfl (by simp) ?_
        refine sr (aB (wl_end (wc_seq (sr (mL ?_)))))
        refine s_callf (bvast_calls L n c b none 0 0 [] _ (hS.ext hh.below) (Sl.nil _ _ _)) FnIs.out rfl (by decide) ?_
        rintro e_ w16 ⟨rfl, hb_⟩
        refine ⟨_, rfl, ?_⟩
        replace hh := hh.ext hb_
        rw [g1]
        refine mB ?_
        first | refine gS ?_ | (refine gT ?_; refine mL ?_) | refine gV ?_
        first | refine gS ?_ | (refine gT ?_; refine lenC ?_) | refine gV ?_
        first | refine gS ?_ | (refine gT ?_; refine gtrC ?_) | refine gV ?_
        first | refine pkT ?_ | refine pkF ?_
        refine wl_end (cF (wc_skip (k_then (sr ?_))))
        refine wl_buildSlice0 hh UIs.out TIs.out (by decide) ?_
        intro b23 w23 hh
        refine mL ?_
        refine wl_append hh (i := 0) rfl rfl rfl (hS.ext hh.below) UIs.out TIs.out rfl (by decide) ?one2 (by omega) (by omega) (by decide) ?kk2
        case one2 => first | rfl | assumption | exact oneCells_i64s _ | exact oneCells_u8s _
        intro A25 c25 w25 hh
        simp only [List.set_cons_zero] at hh
        rw [Nat.zero_add] at hh ⊢
        rw [List.nil_append] at hh
        refine aL (wl_end (sr (mL (mI ?_))))
        refine s_callf (bHalve_bad _ n _ ax _ hbad) FnIs.out rfl (by decide) ?_
        rintro e_ w29 ⟨rfl, hb_⟩
        refine ⟨_, rfl, ?_⟩
        replace hh := hh.ext hb_
        by_cases h0 : ax < 0
        · refine mT ?_
          refine exC ?_
          refine exC ?_
          refine exC ?_
          refine aL (aL (aI (wl_end (wc_seq (sr (mI ?_))))))
          refine lssC (mB ?_)
          first | refine gS ?_ | (refine gT ?_; refine mI ?_) | refine gV ?_
          first | refine gS ?_ | (refine gT ?_; refine mL ?_) | refine gV ?_
          first | refine gS ?_ | (refine gT ?_; refine lenC ?_) | refine gV ?_
          first | refine gS ?_ | (refine gT ?_; refine geqC ?_) | refine gV ?_
          first | refine pkT ?_ | refine pkF ?_
          refine wl_end (cT (sr (mI ?_)))
          refine neqC (mB ?_)
          first | refine gS ?_ | (refine gT ?_; refine mL ?_) | refine gV ?_
          first | refine gS ?_ | (refine gT ?_; refine lenC ?_) | refine gV ?_
          first | refine gS ?_ | (refine gT ?_; refine mL ?_) | refine gV ?_
          first | refine gS ?_ | (refine gT ?_; refine lenC ?_) | refine gV ?_
          first | refine gS ?_ | (refine gT ?_; refine addC ?_) | refine gV ?_
          first | refine gS ?_ | (refine gT ?_; refine gtrC ?_) | refine gV ?_
          first | refine pkT ?_ | refine pkF ?_
          refine wl_end (cF (wc_skip (k_then (sr (mL ?_)))))
          replace hh := hh.nil_row 80 6
          refine wl_clear hh (i := 0) rfl rfl UIs.out TIs.out rfl rfl ?_
          intro wc hh
          simp only [List.set_cons_zero] at hh
          replace hh := hh.sub (List.sublist_cons_self _ _)
          refine wl_end (sr (mL (mL ?_)))
          rcases hps : partS (b.map SR.f) l with _ | b'
          · rw [hps] at hp1 hp2
            refine s_callf (hp1 _ _ _ (hT.hp hh) (hh.sl_row (i := 0) rfl) (hS3.ext hh.below)) FnIs.out rfl (by decide) ?_
            rintro e_ w73 ⟨rfl, hb_⟩
            refine ⟨_, rfl, ?_⟩
            replace hh := hh.ext hb_
            refine mT ?_
            refine exC ?_
            refine exC ?_
            refine aL (aI (wl_end (sr (mL (mL ?_)))))
            refine s_callf (hp2 _ _ _ (hS.ext hh.below) (hS3.ext hh.below)) FnIs.out rfl (by decide) ?_
            rintro e_ w79 ⟨rfl, hb_⟩
            refine ⟨_, rfl, ?_⟩
            replace hh := hh.ext hb_
            refine mT ?_
            refine exC ?_
            refine exC ?_
            refine aL (aB (wl_end (wc_seq (sr (mL (mL ?_))))))
            refine s_callf (rbSame_calls none 0 0 [] none 0 _ (Sl.nil _ _ _) (Sl.nil _ _ _) (by omega)) FnIs.out rfl (by decide) ?_
            rintro e_ w84 ⟨rfl, hb_⟩
            refine ⟨_, rfl, ?_⟩
            replace hh := hh.ext hb_
            refine notC ?_
            refine mB ?_
            first | refine gS ?_ | (refine gT ?_; refine mI ?_) | refine gV ?_
            first | refine gS ?_ | (refine gT ?_; refine eqlC ?_) | refine gV ?_
            first | refine gS ?_ | (refine gT ?_; refine mB ?_) | refine gV ?_
            first | refine gS ?_ | (refine gT ?_; (first | refine s_neb_f UIs.out rfl rfl (by first | rfl | assumption) (by decide) ?_ | refine s_neb_t UIs.out rfl rfl (by first | assumption | decide) (by decide) ?_ | refine s_neq_bool UIs.out rfl rfl (by decide) ?_)) | refine gV ?_
            first | refine pkT ?_ | refine pkF ?_
            refine mB ?_
            first | refine gS ?_ | (refine gT ?_; refine mB ?_) | refine gV ?_
            first | refine gS ?_ | (refine gT ?_; refine notC ?_) | refine gV ?_
            first | refine gS ?_ | (refine gT ?_; refine mB ?_) | refine gV ?_
            first | refine gS ?_ | (refine gT ?_; refine mI ?_) | refine gV ?_
            first | refine gS ?_ | (refine gT ?_; refine neqC ?_) | refine gV ?_
            first | refine gS ?_ | (refine gT ?_; (first | refine pkT ?_ | refine pkF ?_)) | refine gV ?_
            first | refine pkT ?_ | refine pkF ?_
            refine wl_end (cF (wc_skip (k_then (sr (mL ?_)))))
            replace hh := hh.nil_row 80 6
            refine wl_clear hh (i := 0) rfl rfl UIs.out TIs.out rfl rfl ?_
            intro wc hh
            simp only [List.set_cons_zero] at hh
            replace hh := hh.sub (List.sublist_cons_self _ _)
            refine wl_end (sr (mL (mL ?_)))
            refine s_callf (rbSame_calls _ n _ b _ _ _ (hh.sl_row (i := 0) rfl) (hS.ext hh.below) (by omega)) FnIs.out rfl (by decide) ?_
            rintro e_ w103 ⟨rfl, hb_⟩
            refine ⟨_, rfl, ?_⟩
            replace hh := hh.ext hb_
            refine mB ?_
            refine wl_guard_take rfl rfl ?_
            refine s_callf (bawake_calls _ (hT.hp hh)) FnIs.out rfl (by decide) ?_
            rintro e_ w105 ⟨rfl, hb_⟩
            refine ⟨_, rfl, ?_⟩
            replace hh := hh.ext hb_
            first | refine pkT ?_ | refine pkF ?_
            refine aB (wl_end (wc_ret ?_))
            refine ret1 (by first | exact .inr rfl | exact .inl rfl) rfl (v_bool rfl) ?_
            exact ⟨rfl, hh.below⟩
          · rw [hps] at hp1 hp2
            refine s_callf (hp1 _ _ _ (hT.hp hh) (hh.sl_row (i := 0) rfl) (hS3.ext hh.below)) FnIs.out rfl (by decide) ?_
            rintro e_ w73 ⟨⟨Ap, cp, rfl, ho_⟩, hb_⟩
            refine ⟨_, rfl, ?_⟩
            replace hh := hh.push_new (x := .row _ _ _ _ _ _) hb_ ho_
            refine mT ?_
            refine exC ?_
            refine exC ?_
            refine aL (aI (wl_end (sr (mL (mL ?_)))))
            refine s_callf (hp2 _ _ _ (hS.ext hh.below) (hS3.ext hh.below)) FnIs.out rfl (by decide) ?_
            rintro e_ w79 ⟨⟨Aq, cq, rfl, hq_⟩, hb_⟩
            refine ⟨_, rfl, ?_⟩
            replace hh := hh.ext hb_
            refine mT ?_
            refine exC ?_
            refine exC ?_
            refine aL (aB (wl_end (wc_seq (sr (mL (mL ?_))))))
            refine s_callf (rbSame_calls _ n _ b' _ _ _ (hh.sl_row (i := 0) rfl) hq_ (by omega)) FnIs.out rfl (by decide) ?_
            rintro e_ w84 ⟨rfl, hb_⟩
            refine ⟨_, rfl, ?_⟩
            replace hh := hh.ext hb_
            refine notC ?_
            refine mB ?_
            first | refine gS ?_ | (refine gT ?_; refine mI ?_) | refine gV ?_
            first | refine gS ?_ | (refine gT ?_; refine eqlC ?_) | refine gV ?_
            first | refine gS ?_ | (refine gT ?_; refine mB ?_) | refine gV ?_
            first | refine gS ?_ | (refine gT ?_; (first | refine s_neb_f UIs.out rfl rfl (by first | rfl | assumption) (by decide) ?_ | refine s_neb_t UIs.out rfl rfl (by first | assumption | decide) (by decide) ?_ | refine s_neq_bool UIs.out rfl rfl (by decide) ?_)) | refine gV ?_
            first | refine pkT ?_ | refine pkF ?_
            refine mB ?_
            first | refine gS ?_ | (refine gT ?_; refine mB ?_) | refine gV ?_
            first | refine gS ?_ | (refine gT ?_; refine notC ?_) | refine gV ?_
            first | refine gS ?_ | (refine gT ?_; refine mB ?_) | refine gV ?_
            first | refine gS ?_ | (refine gT ?_; refine mI ?_) | refine gV ?_
            first | refine gS ?_ | (refine gT ?_; refine neqC ?_) | refine gV ?_
            first | refine gS ?_ | (refine gT ?_; (first | refine pkT ?_ | refine pkF ?_)) | refine gV ?_
            first | refine pkT ?_ | refine pkF ?_
            refine wl_end (cF (wc_skip (k_then (sr (mL ?_)))))
            refine wl_clear hh (i := 0) rfl rfl UIs.out TIs.out rfl rfl ?_
            intro wc hh
            simp only [List.set_cons_zero] at hh
            replace hh := hh.sub (List.Sublist.cons _ (List.Sublist.cons_cons _ List.Sublist.slnil))
            refine wl_end (sr (mL (mL ?_)))
            refine s_callf (rbSame_calls _ n _ b _ _ _ (hh.sl_row (i := 0) rfl) (hS.ext hh.below) (by omega)) FnIs.out rfl (by decide) ?_
            rintro e_ w103 ⟨rfl, hb_⟩
            refine ⟨_, rfl, ?_⟩
            replace hh := hh.ext hb_
            refine mB ?_
            refine wl_guard_take rfl rfl ?_
            refine s_callf (bawake_calls _ (hT.hp hh)) FnIs.out rfl (by decide) ?_
            rintro e_ w105 ⟨rfl, hb_⟩
            refine ⟨_, rfl, ?_⟩
            replace hh := hh.ext hb_
            first | refine pkT ?_ | refine pkF ?_
            refine aB (wl_end (wc_ret ?_))
            refine ret1 (by first | exact .inr rfl | exact .inl rfl) rfl (v_bool rfl) ?_
            exact ⟨rfl, hh.below⟩
        · refine mT ?_
          refine exC ?_
          refine exC ?_
          refine exC ?_
          refine aL (aL (aI (wl_end (wc_seq (sr (mI ?_))))))
          refine lssC (mB ?_)
          first | refine gS ?_ | (refine gT ?_; refine mI ?_) | refine gV ?_
          first | refine gS ?_ | (refine gT ?_; refine mL ?_) | refine gV ?_
          first | refine gS ?_ | (refine gT ?_; refine lenC ?_) | refine gV ?_
          first | refine gS ?_ | (refine gT ?_; refine geqC ?_) | refine gV ?_
          first | refine pkT ?_ | refine pkF ?_
          refine wl_end (cT (sr (mI ?_)))
          refine neqC (mB ?_)
          first | refine gS ?_ | (refine gT ?_; refine mL ?_) | refine gV ?_
          first | refine gS ?_ | (refine gT ?_; refine lenC ?_) | refine gV ?_
          first | refine gS ?_ | (refine gT ?_; refine mL ?_) | refine gV ?_
          first | refine gS ?_ | (refine gT ?_; refine lenC ?_) | refine gV ?_
          first | refine gS ?_ | (refine gT ?_; refine addC ?_) | refine gV ?_
          first | refine gS ?_ | (refine gT ?_; refine gtrC ?_) | refine gV ?_
          first | refine pkT ?_ | refine pkF ?_
          refine wl_end (cF (wc_skip (k_then (sr (mL ?_)))))
          replace hh := hh.nil_row 80 6
          refine wl_clear hh (i := 0) rfl rfl UIs.out TIs.out rfl rfl ?_
          intro wc hh
          simp only [List.set_cons_zero] at hh
          replace hh := hh.sub (List.sublist_cons_self _ _)
          refine wl_end (sr (mL (mL ?_)))
          rcases hps : partS (b.map SR.f) l with _ | b'
          · rw [hps] at hp1 hp2
            refine s_callf (hp1 _ _ _ (hT.hp hh) (hh.sl_row (i := 0) rfl) (hS3.ext hh.below)) FnIs.out rfl (by decide) ?_
            rintro e_ w73 ⟨rfl, hb_⟩
            refine ⟨_, rfl, ?_⟩
            replace hh := hh.ext hb_
            refine mT ?_
            refine exC ?_
            refine exC ?_
            refine aL (aI (wl_end (sr (mL (mL ?_)))))
            refine s_callf (hp2 _ _ _ (hS.ext hh.below) (hS3.ext hh.below)) FnIs.out rfl (by decide) ?_
            rintro e_ w79 ⟨rfl, hb_⟩
            refine ⟨_, rfl, ?_⟩
            replace hh := hh.ext hb_
            refine mT ?_
            refine exC ?_
            refine exC ?_
            refine aL (aB (wl_end (wc_seq (sr (mL (mL ?_))))))
            refine s_callf (rbSame_calls none 0 0 [] none 0 _ (Sl.nil _ _ _) (Sl.nil _ _ _) (by omega)) FnIs.out rfl (by decide) ?_
            rintro e_ w84 ⟨rfl, hb_⟩
            refine ⟨_, rfl, ?_⟩
            replace hh := hh.ext hb_
            refine notC ?_
            refine mB ?_
            first | refine gS ?_ | (refine gT ?_; refine mI ?_) | refine gV ?_
            first | refine gS ?_ | (refine gT ?_; refine eqlC ?_) | refine gV ?_
            first | refine gS ?_ | (refine gT ?_; refine mB ?_) | refine gV ?_
            first | refine gS ?_ | (refine gT ?_; (first | refine s_neb_f UIs.out rfl rfl (by first | rfl | assumption) (by decide) ?_ | refine s_neb_t UIs.out rfl rfl (by first | assumption | decide) (by decide) ?_ | refine s_neq_bool UIs.out rfl rfl (by decide) ?_)) | refine gV ?_
            first | refine pkT ?_ | refine pkF ?_
            refine mB ?_
            first | refine gS ?_ | (refine gT ?_; refine mB ?_) | refine gV ?_
            first | refine gS ?_ | (refine gT ?_; refine notC ?_) | refine gV ?_
            first | refine gS ?_ | (refine gT ?_; refine mB ?_) | refine gV ?_
            first | refine gS ?_ | (refine gT ?_; refine mI ?_) | refine gV ?_
            first | refine gS ?_ | (refine gT ?_; refine neqC ?_) | refine gV ?_
            first | refine gS ?_ | (refine gT ?_; (first | refine pkT ?_ | refine pkF ?_)) | refine gV ?_
            first | refine pkT ?_ | refine pkF ?_
            refine wl_end (cF (wc_skip (k_then (sr (mL ?_)))))
            replace hh := hh.nil_row 80 6
            refine wl_clear hh (i := 0) rfl rfl UIs.out TIs.out rfl rfl ?_
            intro wc hh
            simp only [List.set_cons_zero] at hh
            replace hh := hh.sub (List.sublist_cons_self _ _)
            refine wl_end (sr (mL (mL ?_)))
            refine s_callf (rbSame_calls _ n _ b _ _ _ (hh.sl_row (i := 0) rfl) (hS.ext hh.below) (by omega)) FnIs.out rfl (by decide) ?_
            rintro e_ w103 ⟨rfl, hb_⟩
            refine ⟨_, rfl, ?_⟩
            replace hh := hh.ext hb_
            refine mB ?_
            refine wl_guard_take rfl rfl ?_
            refine s_callf (bawake_calls _ (hT.hp hh)) FnIs.out rfl (by decide) ?_
            rintro e_ w105 ⟨rfl, hb_⟩
            refine ⟨_, rfl, ?_⟩
            replace hh := hh.ext hb_
            first | refine pkT ?_ | refine pkF ?_
            refine aB (wl_end (wc_ret ?_))
            refine ret1 (by first | exact .inr rfl | exact .inl rfl) rfl (v_bool rfl) ?_
            exact ⟨rfl, hh.below⟩
          · rw [hps] at hp1 hp2
            refine s_callf (hp1 _ _ _ (hT.hp hh) (hh.sl_row (i := 0) rfl) (hS3.ext hh.below)) FnIs.out rfl (by decide) ?_
            rintro e_ w73 ⟨⟨Ap, cp, rfl, ho_⟩, hb_⟩
            refine ⟨_, rfl, ?_⟩
            replace hh := hh.push_new (x := .row _ _ _ _ _ _) hb_ ho_
            refine mT ?_
            refine exC ?_
            refine exC ?_
            refine aL (aI (wl_end (sr (mL (mL ?_)))))
            refine s_callf (hp2 _ _ _ (hS.ext hh.below) (hS3.ext hh.below)) FnIs.out rfl (by decide) ?_
            rintro e_ w79 ⟨⟨Aq, cq, rfl, hq_⟩, hb_⟩
            refine ⟨_, rfl, ?_⟩
            replace hh := hh.ext hb_
            refine mT ?_
            refine exC ?_
            refine exC ?_
            refine aL (aB (wl_end (wc_seq (sr (mL (mL ?_))))))
            refine s_callf (rbSame_calls _ n _ b' _ _ _ (hh.sl_row (i := 0) rfl) hq_ (by omega)) FnIs.out rfl (by decide) ?_
            rintro e_ w84 ⟨rfl, hb_⟩
            refine ⟨_, rfl, ?_⟩
            replace hh := hh.ext hb_
            refine notC ?_
            refine mB ?_
            first | refine gS ?_ | (refine gT ?_; refine mI ?_) | refine gV ?_
            first | refine gS ?_ | (refine gT ?_; refine eqlC ?_) | refine gV ?_
            first | refine gS ?_ | (refine gT ?_; refine mB ?_) | refine gV ?_
            first | refine gS ?_ | (refine gT ?_; (first | refine s_neb_f UIs.out rfl rfl (by first | rfl | assumption) (by decide) ?_ | refine s_neb_t UIs.out rfl rfl (by first | assumption | decide) (by decide) ?_ | refine s_neq_bool UIs.out rfl rfl (by decide) ?_)) | refine gV ?_
            first | refine pkT ?_ | refine pkF ?_
            refine mB ?_
            first | refine gS ?_ | (refine gT ?_; refine mB ?_) | refine gV ?_
            first | refine gS ?_ | (refine gT ?_; refine notC ?_) | refine gV ?_
            first | refine gS ?_ | (refine gT ?_; refine mB ?_) | refine gV ?_
            first | refine gS ?_ | (refine gT ?_; refine mI ?_) | refine gV ?_
            first | refine gS ?_ | (refine gT ?_; refine neqC ?_) | refine gV ?_
            first | refine gS ?_ | (refine gT ?_; (first | refine pkT ?_ | refine pkF ?_)) | refine gV ?_
            first | refine pkT ?_ | refine pkF ?_
            refine wl_end (cF (wc_skip (k_then (sr (mL ?_)))))
            refine wl_clear hh (i := 0) rfl rfl UIs.out TIs.out rfl rfl ?_
            intro wc hh
            simp only [List.set_cons_zero] at hh
            replace hh := hh.sub (List.Sublist.cons _ (List.Sublist.cons_cons _ List.Sublist.slnil))
            refine wl_end (sr (mL (mL ?_)))
            refine s_callf (rbSame_calls _ n _ b _ _ _ (hh.sl_row (i := 0) rfl) (hS.ext hh.below) (by omega)) FnIs.out rfl (by decide) ?_
            rintro e_ w103 ⟨rfl, hb_⟩
            refine ⟨_, rfl, ?_⟩
            replace hh := hh.ext hb_
            refine mB ?_
            refine wl_guard_take rfl rfl ?_
            refine s_callf (bawake_calls _ (hT.hp hh)) FnIs.out rfl (by decide) ?_
            rintro e_ w105 ⟨rfl, hb_⟩
            refine ⟨_, rfl, ?_⟩
            replace hh := hh.ext hb_
            first | refine pkT ?_ | refine pkF ?_
            refine aB (wl_end (wc_ret ?_))
            refine ret1 (by first | exact .inr rfl | exact .inl rfl) rfl (v_bool rfl) ?_
            exact ⟨rfl, hh.below⟩
      · obtain ⟨a, hax⟩ : ∃ a : Nat, (a : Int) = ax := ⟨ax.toNat, by omega⟩
        obtain ⟨s, hs⟩ := get_of_lt (l := b) (k := a) (by omega)
        have hx1 := fun A c0 w1 hT1 hS1 => bHalve_calls A n c0 b a s 440 w1 hT1 hS1 v3 (by omega) (by omega) hs
        have hx2 := fun u A c0 w1 hS1 => rbHalf_calls A n c0 b a u s 440 w1 hS1 v3 (by omega) (by omega) hs
        rw [hax] at hx1 hx2
        refine calls_vc (N := 107) (l := [.slice L n c, .int .i64 ax, .slice K q c3]) Tryz.func7 rfl rfl (by simp) ?_
        refine sr (aB (wl_end (wc_seq (sr (mL ?_)))))
        refine s_callf (bvast_calls L n c b none 0 0 [] _ (hS.ext hh.below) (Sl.nil _ _ _)) FnIs.out rfl (by decide) ?_
        rintro e_ w16 ⟨rfl, hb_⟩
        refine ⟨_, rfl, ?_⟩
        replace hh := hh.ext hb_
        rw [g1]
        refine mB ?_
        first | refine gS ?_ | (refine gT ?_; refine mL ?_) | refine gV ?_
        first | refine gS ?_ | (refine gT ?_; refine lenC ?_) | refine gV ?_
        first | refine gS ?_ | (refine gT ?_; refine gtrC ?_) | refine gV ?_
        first | refine pkT ?_ | refine pkF ?_
        refine wl_end (cF (wc_skip (k_then (sr ?_))))
        refine wl_buildSlice0 hh UIs.out TIs.out (by decide) ?_
        intro b23 w23 hh
        refine mL ?_
        refine wl_append hh (i := 0) rfl rfl rfl (hS.ext hh.below) UIs.out TIs.out rfl (by decide) ?one3 (by omega) (by omega) (by decide) ?kk3
        case one3 => first | rfl | assumption | exact oneCells_i64s _ | exact oneCells_u8s _
        intro A25 c25 w25 hh
        simp only [List.set_cons_zero] at hh
        rw [Nat.zero_add] at hh ⊢
        rw [List.nil_append] at hh
        refine aL (wl_end (sr (mL (mI ?_))))
        refine s_callf (hx1 _ _ _ (hT.hp hh) (hh.sl_row (i := 0) rfl)) FnIs.out rfl (by decide) ?_
        rintro e_ w29 ⟨Ax, cx, Ay, cy, rfl, h2⟩
        refine ⟨_, rfl, ?_⟩
        replace hh := hh.join h2
        clear h2
        refine mT ?_
        refine exC ?_
        refine exC ?_
        refine exC ?_
        refine aL (aL (aI (wl_end (wc_seq (sr (mI ?_))))))
        refine lssC (mB ?_)
        first | refine gS ?_ | (refine gT ?_; refine mI ?_) | refine gV ?_
        first | refine gS ?_ | (refine gT ?_; refine mL ?_) | refine gV ?_
        first | refine gS ?_ | (refine gT ?_; refine lenC ?_) | refine gV ?_
        first | refine gS ?_ | (refine gT ?_; refine geqC ?_) | refine gV ?_
        first | refine pkT ?_ | refine pkF ?_
        refine wl_end (cF (sr (mI ?_)))
        refine neqC (mB ?_)
        first | refine gS ?_ | (refine gT ?_; refine mL ?_) | refine gV ?_
        first | refine gS ?_ | (refine gT ?_; refine mL ?_) | refine gV ?_
        first | refine gS ?_ | (refine gT ?_; refine mI ?_) | refine gV ?_
        refine wl_guard_take rfl rfl ?_
        refine s_callf (hx2 false _ _ _ (hS.ext hh.below)) FnIs.out rfl (by decide) ?_
        rintro e_ w57 ⟨A57, c57, rfl, hown_, hb_⟩
        refine ⟨_, rfl, ?_⟩
        replace hh := hh.push_new (x := .row _ _ _ _ _ _) hb_ hown_
        refine wl_guard_take rfl rfl ?_
        refine s_callf (rbSame_calls _ n _ ((b.map SR.f).set a (s.f.half (nR s.f.mid) false)) _ _ _ (hh.sl_row (i := 2) rfl) (hh.sl_row (i := 0) rfl) (by omega)) FnIs.out rfl (by decide) ?_
        rintro e_ w58 ⟨rfl, hb_⟩
        refine ⟨_, rfl, ?_⟩
        replace hh := hh.ext hb_
        replace hh := hh.sub (List.Sublist.cons _ (List.Sublist.cons_cons _ (List.Sublist.cons_cons _ (List.Sublist.cons_cons _ List.Sublist.slnil))))
        first | refine gS ?_ | (refine gT ?_; refine notC ?_) | refine gV ?_
        first | refine pkT ?_ | refine pkF ?_
        refine mB ?_
        first | refine gS ?_ | (refine gT ?_; refine mL ?_) | refine gV ?_
        first | refine gS ?_ | (refine gT ?_; refine mL ?_) | refine gV ?_
        first | refine gS ?_ | (refine gT ?_; refine mI ?_) | refine gV ?_
        refine wl_guard_take rfl rfl ?_
        refine s_callf (hx2 true _ _ _ (hS.ext hh.below)) FnIs.out rfl (by decide) ?_
        rintro e_ w65 ⟨A65, c65, rfl, hown_, hb_⟩
        refine ⟨_, rfl, ?_⟩
        replace hh := hh.push_new (x := .row _ _ _ _ _ _) hb_ hown_
        refine wl_guard_take rfl rfl ?_
        refine s_callf (rbSame_calls _ n _ ((b.map SR.f).set a (s.f.half (nR s.f.mid) true)) _ _ _ (hh.sl_row (i := 1) rfl) (hh.sl_row (i := 0) rfl) (by omega)) FnIs.out rfl (by decide) ?_
        rintro e_ w66 ⟨rfl, hb_⟩
        refine ⟨_, rfl, ?_⟩
        replace hh := hh.ext hb_
        replace hh := hh.sub (List.Sublist.cons _ (List.Sublist.cons _ (List.Sublist.cons_cons _ (List.Sublist.cons_cons _ List.Sublist.slnil))))
        first | refine gS ?_ | (refine gT ?_; refine notC ?_) | refine gV ?_
        first | refine pkT ?_ | refine pkF ?_
        refine wl_end (cF (wc_skip (k_then (sr (mL ?_)))))
        refine wl_clear hh (i := 0) rfl rfl UIs.out TIs.out rfl rfl ?_
        intro wc hh
        simp only [List.set_cons_zero] at hh
        replace hh := hh.sub (List.Sublist.cons _ (List.Sublist.cons_cons _ List.Sublist.slnil))
        refine wl_end (sr (mL (mL ?_)))
        rcases hps : partS (b.map SR.f) l with _ | b'
        · rw [hps] at hp1 hp2
          refine s_callf (hp1 _ _ _ (hT.hp hh) (hh.sl_row (i := 0) rfl) (hS3.ext hh.below)) FnIs.out rfl (by decide) ?_
          rintro e_ w73 ⟨rfl, hb_⟩
          refine ⟨_, rfl, ?_⟩
          replace hh := hh.ext hb_
          refine mT ?_
          refine exC ?_
          refine exC ?_
          refine aL (aI (wl_end (sr (mL (mL ?_)))))
          refine s_callf (hp2 _ _ _ (hS.ext hh.below) (hS3.ext hh.below)) FnIs.out rfl (by decide) ?_
          rintro e_ w79 ⟨rfl, hb_⟩
          refine ⟨_, rfl, ?_⟩
          replace hh := hh.ext hb_
          refine mT ?_
          refine exC ?_
          refine exC ?_
          refine aL (aB (wl_end (wc_seq (sr (mL (mL ?_))))))
          refine s_callf (rbSame_calls none 0 0 [] none 0 _ (Sl.nil _ _ _) (Sl.nil _ _ _) (by omega)) FnIs.out rfl (by decide) ?_
          rintro e_ w84 ⟨rfl, hb_⟩
          refine ⟨_, rfl, ?_⟩
          replace hh := hh.ext hb_
          refine notC ?_
          refine mB ?_
          first | refine gS ?_ | (refine gT ?_; refine mI ?_) | refine gV ?_
          first | refine gS ?_ | (refine gT ?_; refine eqlC ?_) | refine gV ?_
          first | refine gS ?_ | (refine gT ?_; refine mB ?_) | refine gV ?_
          first | refine gS ?_ | (refine gT ?_; (first | refine s_neb_f UIs.out rfl rfl (by first | rfl | assumption) (by decide) ?_ | refine s_neb_t UIs.out rfl rfl (by first | assumption | decide) (by decide) ?_ | refine s_neq_bool UIs.out rfl rfl (by decide) ?_)) | refine gV ?_
          first | refine pkT ?_ | refine pkF ?_
          refine mB ?_
          first | refine gS ?_ | (refine gT ?_; refine mB ?_) | refine gV ?_
          first | refine gS ?_ | (refine gT ?_; refine notC ?_) | refine gV ?_
          first | refine gS ?_ | (refine gT ?_; refine mB ?_) | refine gV ?_
          first | refine gS ?_ | (refine gT ?_; refine mI ?_) | refine gV ?_
          first | refine gS ?_ | (refine gT ?_; refine neqC ?_) | refine gV ?_
          first | refine gS ?_ | (refine gT ?_; (first | refine pkT ?_ | refine pkF ?_)) | refine gV ?_
          first | refine pkT ?_ | refine pkF ?_
          refine wl_end (cF (wc_skip (k_then (sr (mL ?_)))))
          replace hh := hh.nil_row 80 6
          refine wl_clear hh (i := 0) rfl rfl UIs.out TIs.out rfl rfl ?_
          intro wc hh
          simp only [List.set_cons_zero] at hh
          replace hh := hh.sub (List.sublist_cons_self _ _)
          refine wl_end (sr (mL (mL ?_)))
          refine s_callf (rbSame_calls _ n _ b _ _ _ (hh.sl_row (i := 0) rfl) (hS.ext hh.below) (by omega)) FnIs.out rfl (by decide) ?_
          rintro e_ w103 ⟨rfl, hb_⟩
          refine ⟨_, rfl, ?_⟩
          replace hh := hh.ext hb_
          refine mB ?_
          refine wl_guard_take rfl rfl ?_
          refine s_callf (bawake_calls _ (hT.hp hh)) FnIs.out rfl (by decide) ?_
          rintro e_ w105 ⟨rfl, hb_⟩
          refine ⟨_, rfl, ?_⟩
          replace hh := hh.ext hb_
          first | refine pkT ?_ | refine pkF ?_
          refine aB (wl_end (wc_ret ?_))
          refine ret1 (by first | exact .inr rfl | exact .inl rfl) rfl (v_bool rfl) ?_
          exact ⟨rfl, hh.below⟩
        · rw [hps] at hp1 hp2
          refine s_callf (hp1 _ _ _ (hT.hp hh) (hh.sl_row (i := 0) rfl) (hS3.ext hh.below)) FnIs.out rfl (by decide) ?_
          rintro e_ w73 ⟨⟨Ap, cp, rfl, ho_⟩, hb_⟩
          refine ⟨_, rfl, ?_⟩
          replace hh := hh.push_new (x := .row _ _ _ _ _ _) hb_ ho_
          refine mT ?_
          refine exC ?_
          refine exC ?_
          refine aL (aI (wl_end (sr (mL (mL ?_)))))
          refine s_callf (hp2 _ _ _ (hS.ext hh.below) (hS3.ext hh.below)) FnIs.out rfl (by decide) ?_
          rintro e_ w79 ⟨⟨Aq, cq, rfl, hq_⟩, hb_⟩
          refine ⟨_, rfl, ?_⟩
          replace hh := hh.ext hb_
          refine mT ?_
          refine exC ?_
          refine exC ?_
          refine aL (aB (wl_end (wc_seq (sr (mL (mL ?_))))))
          refine s_callf (rbSame_calls _ n _ b' _ _ _ (hh.sl_row (i := 0) rfl) hq_ (by omega)) FnIs.out rfl (by decide) ?_
          rintro e_ w84 ⟨rfl, hb_⟩
          refine ⟨_, rfl, ?_⟩
          replace hh := hh.ext hb_
          refine notC ?_
          refine mB ?_
          first | refine gS ?_ | (refine gT ?_; refine mI ?_) | refine gV ?_
          first | refine gS ?_ | (refine gT ?_; refine eqlC ?_) | refine gV ?_
          first | refine gS ?_ | (refine gT ?_; refine mB ?_) | refine gV ?_
          first | refine gS ?_ | (refine gT ?_; (first | refine s_neb_f UIs.out rfl rfl (by first | rfl | assumption) (by decide) ?_ | refine s_neb_t UIs.out rfl rfl (by first | assumption | decide) (by decide) ?_ | refine s_neq_bool UIs.out rfl rfl (by decide) ?_)) | refine gV ?_
          first | refine pkT ?_ | refine pkF ?_
          refine mB ?_
          first | refine gS ?_ | (refine gT ?_; refine mB ?_) | refine gV ?_
          first | refine gS ?_ | (refine gT ?_; refine notC ?_) | refine gV ?_
          first | refine gS ?_ | (refine gT ?_; refine mB ?_) | refine gV ?_
          first | refine gS ?_ | (refine gT ?_; refine mI ?_) | refine gV ?_
          first | refine gS ?_ | (refine gT ?_; refine neqC ?_) | refine gV ?_
          first | refine gS ?_ | (refine gT ?_; (first | refine pkT ?_ | refine pkF ?_)) | refine gV ?_
          first | refine pkT ?_ | refine pkF ?_
          refine wl_end (cF (wc_skip (k_then (sr (mL ?_)))))
          refine wl_clear hh (i := 0) rfl rfl UIs.out TIs.out rfl rfl ?_
          intro wc hh
          simp only [List.set_cons_zero] at hh
          replace hh := hh.sub (List.Sublist.cons _ (List.Sublist.cons_cons _ List.Sublist.slnil))
          refine wl_end (sr (mL (mL ?_)))
          refine s_callf (rbSame_calls _ n _ b _ _ _ (hh.sl_row (i := 0) rfl) (hS.ext hh.below) (by omega)) FnIs.out rfl (by decide) ?_
          rintro e_ w103 ⟨rfl, hb_⟩
          refine ⟨_, rfl, ?_⟩
          replace hh := hh.ext hb_
          refine mB ?_
          refine wl_guard_take rfl rfl ?_
          refine s_callf (bawake_calls _ (hT.hp hh)) FnIs.out rfl (by decide) ?_
          rintro e_ w105 ⟨rfl, hb_⟩
          refine ⟨_, rfl, ?_⟩
          replace hh := hh.ext hb_
          first | refine pkT ?_ | refine pkF ?_
          refine aB (wl_end (wc_ret ?_))
          refine ret1 (by first | exact .inr rfl | exact .inl rfl) rfl (v_bool rfl) ?_
          exact ⟨rfl, hh.below⟩
end Go.Proofs.YthmmofllajkejaaGreatDoor
