/- The walk through the law BoxChecks. -/
import Derived.Test.YthmmofllajkejaaGreatDoorLawBA
namespace Go.Proofs.YthmmofllajkejaaGreatDoor
open Go.RowKit
-- umode
-- skipu
theorem wide_uniq {b : List SR} {v v' : Int} (h : WideB b v) (h2 : (b = [] ∧ v' = -1) ∨ ∃ (m : Nat) (s : SR), b[m]? = some s ∧ v' = m ∧ (∀ u ∈ b, ¬ s.wid < u.wid) ∧ ∀ (j : Nat) (t : SR), j < m → b[j]? = some t → ∃ u ∈ b, t.wid < u.wid) : v' = v := by
  rcases h with ⟨rfl, rfl⟩ | ⟨m, s, hs, rfl, h3, h4⟩
  · rcases h2 with ⟨_, rfl⟩ | ⟨m, s, hs, _⟩
    · rfl
    · cases hs
  · rcases h2 with ⟨rfl, _⟩ | ⟨m2, s2, hs2, rfl, h5, h6⟩
    · cases hs
    · rcases Nat.lt_trichotomy m m2 with g | g | g
      · obtain ⟨u, hu, hlt⟩ := h6 m s g hs
        obtain ⟨j, hj⟩ := List.mem_iff_getElem?.1 hu
        exact absurd hlt (h3 j u hj)
      · rw [g]
      · exact absurd (h4 m2 s2 g hs2) (h5 s (List.mem_of_getElem? hs))
theorem boxChecks_calls (L : Option Addr) (n c : Nat) (a : List SR) (M : Option Addr) (m c2 : Nat) (b : List SR) (K : Option Addr) (q c3 : Nat) (p : List NR) (w : World) (hT : Tab w) (hS : Sl w L n 6 (recs SR.cells a)) (hS2 : Sl w M m 6 (recs SR.cells b)) (hS3 : Sl w K q 3 (recs NR.cells p)) :
    Calls Tryz.prog 5 #[.slice L n c, .slice M m c2, .slice K q c3] w fun r w' => r = .returned (.bool true) ∧ Below w.heap.size w w' := by
  have hh := Hp.start w
  have hln := hS.recLen SR.len (by decide)
  have hlm := hS2.recLen SR.len (by decide)
  have hlq := hS3.recLen NR.len (by decide)
  cases g1 : vastB a p with
  | true =>
    refine calls_vc (N := 73) (l := [.slice L n c, .slice M m c2, .slice K q c3]) Tryz.func5 rfl rfl (by simp) ?_
    refine sr (aB (wl_end (wc_seq (sr (mL (mL ?_))))))
    refine s_callf (bvast_calls L n c a K q c3 p _ (hS.ext hh.below) (hS3.ext hh.below)) FnIs.out rfl (by decide) ?_
    rintro e_ w11 ⟨rfl, hb_⟩
    refine ⟨_, rfl, ?_⟩
    replace hh := hh.ext hb_
    rw [g1]
    refine mB ?_
    first | refine gS ?_ | (refine gT ?_; refine mL ?_) | refine gV ?_
    refine wl_guard_skip (by decide) rfl rfl (by decide) ?_
    first | refine pkT ?_ | refine pkF ?_
    refine wl_end (cT (sr ?_))
    refine s_callf (bawake_calls _ (hT.hp hh)) FnIs.out rfl (by decide) ?_
    rintro e_ w16 ⟨rfl, hb_⟩
    refine ⟨_, rfl, ?_⟩
    replace hh := hh.ext hb_
    refine aB (wl_end (wc_ret (k_ret ?_)))
    refine ret1 (by first | exact .inr rfl | exact .inl rfl) rfl (v_bool rfl) ?_
    exact ⟨rfl, hh.below⟩
  | false =>
    cases g2 : vastB b [] with
    | true =>
      refine calls_vc (N := 73) (l := [.slice L n c, .slice M m c2, .slice K q c3]) Tryz.func5 rfl rfl (by simp) ?_
      refine sr (aB (wl_end (wc_seq (sr (mL (mL ?_))))))
      refine s_callf (bvast_calls L n c a K q c3 p _ (hS.ext hh.below) (hS3.ext hh.below)) FnIs.out rfl (by decide) ?_
      rintro e_ w11 ⟨rfl, hb_⟩
      refine ⟨_, rfl, ?_⟩
      replace hh := hh.ext hb_
      rw [g1]
      refine mB ?_
      first | refine gS ?_ | (refine gT ?_; refine mL ?_) | refine gV ?_
      refine wl_guard_take rfl rfl ?_
      refine s_callf (bvast_calls M m c2 b none 0 0 [] _ (hS2.ext hh.below) (Sl.nil _ _ _)) FnIs.out rfl (by decide) ?_
      rintro e_ w14 ⟨rfl, hb_⟩
      refine ⟨_, rfl, ?_⟩
      replace hh := hh.ext hb_
      rw [g2]
      first | refine pkT ?_ | refine pkF ?_
      refine wl_end (cT (sr ?_))
      refine s_callf (bawake_calls _ (hT.hp hh)) FnIs.out rfl (by decide) ?_
      rintro e_ w16 ⟨rfl, hb_⟩
      refine ⟨_, rfl, ?_⟩
      replace hh := hh.ext hb_
      refine aB (wl_end (wc_ret (k_ret ?_)))
      refine ret1 (by first | exact .inr rfl | exact .inl rfl) rfl (v_bool rfl) ?_
      exact ⟨rfl, hh.below⟩
    | false =>
      obtain ⟨v1, v2, v3, v4⟩ := vast_no g1
      obtain ⟨v5, -, v6, -⟩ := vast_no g2
      have ok : ∀ s ∈ a, s.ok := fun s hs => ⟨(v3 s hs).1.ok, (v3 s hs).2.ok⟩
      have hone : ((recs SR.cells a).all Value.oneCell') = true := recs_oneCells SR.one _
      have hkn : (440 + 1) * n ≤ 441 * 8 := Nat.mul_le_mul_left _ (by omega)
      refine calls_vc (N := 73) (l := [.slice L n c, .slice M m c2, .slice K q c3]) Tryz.func5 rfl rfl (by simp) ?_
      refine sr (aB (wl_end (wc_seq (sr (mL (mL ?_))))))
      refine s_callf (bvast_calls L n c a K q c3 p _ (hS.ext hh.below) (hS3.ext hh.below)) FnIs.out rfl (by decide) ?_
      rintro e_ w11 ⟨rfl, hb_⟩
      refine ⟨_, rfl, ?_⟩
      replace hh := hh.ext hb_
      rw [g1]
      refine mB ?_
      first | refine gS ?_ | (refine gT ?_; refine mL ?_) | refine gV ?_
      refine wl_guard_take rfl rfl ?_
      refine s_callf (bvast_calls M m c2 b none 0 0 [] _ (hS2.ext hh.below) (Sl.nil _ _ _)) FnIs.out rfl (by decide) ?_
      rintro e_ w14 ⟨rfl, hb_⟩
      refine ⟨_, rfl, ?_⟩
      replace hh := hh.ext hb_
      rw [g2]
      first | refine pkT ?_ | refine pkF ?_
      refine wl_end (cF (wc_skip (k_then (sr ?_))))
      refine wl_buildSlice0 hh UIs.out TIs.out (by decide) ?_
      intro b17 w17 hh
      refine mL ?_
      refine wl_append hh (i := 0) rfl rfl rfl (hS.ext hh.below) UIs.out TIs.out rfl (by decide) ?one (by omega) (by omega) (by decide) ?kk
      case one => first | rfl | assumption | exact oneCells_i64s _ | exact oneCells_u8s _
      intro A19 c19 w19 hh
      simp only [List.set_cons_zero] at hh
      rw [Nat.zero_add] at hh ⊢
      rw [List.nil_append] at hh
      refine aL (wl_end (sr (mL ?_)))
      refine s_callf (bForm_calls _ n _ a _ (hT.hp hh) (hh.sl_row (i := 0) rfl) ok (by omega)) FnIs.out rfl (by decide) ?_
      rintro e_ w21 ⟨A21, c21, rfl, hown_, hb_⟩
      refine ⟨_, rfl, ?_⟩
      replace hh := hh.push_new (x := .row _ _ _ _ _ _) hb_ hown_
      refine aL (wl_end (wc_seq (sr (mL ?_))))
      refine s_callf (bCheck_calls _ n _ a _ (hT.hp hh) (hh.sl_row (i := 1) rfl) ok (by omega)) FnIs.out rfl (by decide) ?_
      rintro e_ w23 ⟨rfl, hb_⟩
      refine ⟨_, rfl, ?_⟩
      replace hh := hh.ext hb_
      refine mL ?_
      refine s_callf (rbCheck_calls _ n _ a 440 _ (hS.ext hh.below) v3 (by omega) (by omega)) FnIs.out rfl (by decide) ?_
      rintro e_ w25 ⟨rfl, hb_⟩
      refine ⟨_, rfl, ?_⟩
      replace hh := hh.ext hb_
      refine neqC (mB ?_)
      first | refine gS ?_ | (refine gT ?_; refine mL ?_) | refine gV ?_
      first | refine gS ?_ | (refine gT ?_; refine mL ?_) | refine gV ?_
      refine wl_guard_take rfl rfl ?_
      refine s_callf (rbForm_calls _ n _ a 440 _ (hS.ext hh.below) v3 (by omega) (by omega)) FnIs.out rfl (by decide) ?_
      rintro e_ w30 ⟨A30, c30, rfl, hown_, hb_⟩
      refine ⟨_, rfl, ?_⟩
      replace hh := hh.push_new (x := .row _ _ _ _ _ _) hb_ hown_
      refine wl_guard_take rfl rfl ?_
      refine s_callf (rbSame_calls _ n _ (a.map SR.f) _ _ _ (hh.sl_row (i := 1) rfl) (hh.sl_row (i := 0) rfl) (by omega)) FnIs.out rfl (by decide) ?_
      rintro e_ w31 ⟨rfl, hb_⟩
      refine ⟨_, rfl, ?_⟩
      replace hh := hh.ext hb_
      replace hh := hh.sub (List.Sublist.cons _ (List.Sublist.cons_cons _ (List.Sublist.cons_cons _ List.Sublist.slnil)))
      first | refine gS ?_ | (refine gT ?_; refine notC ?_) | refine gV ?_
      first | refine pkT ?_ | refine pkF ?_
      refine mB ?_
      first | refine gS ?_ | (refine gT ?_; refine mL ?_) | refine gV ?_
      first | refine gS ?_ | (refine gT ?_; refine mL ?_) | refine gV ?_
      refine wl_guard_take rfl rfl ?_
      refine s_callf (bHas_calls _ n _ a _ q _ p 440 _ (hT.hp hh) (hh.sl_row (i := 1) rfl) (hS3.ext hh.below) v3 (fun x hx => (v4 x hx).ok) (by omega) (by omega) (by omega)) FnIs.out rfl (by decide) ?_
      rintro e_ w37 ⟨rfl, hb_⟩
      refine ⟨_, rfl, ?_⟩
      replace hh := hh.ext hb_
      first | refine gS ?_ | (refine gT ?_; refine mL ?_) | refine gV ?_
      first | refine gS ?_ | (refine gT ?_; refine mL ?_) | refine gV ?_
      refine wl_guard_take rfl rfl ?_
      refine s_callf (rbHas_calls _ n _ a _ q _ p 440 _ (hS.ext hh.below) (hS3.ext hh.below) v3 v4 (by omega) (by omega) (by omega)) FnIs.out rfl (by decide) ?_
      rintro e_ w40 ⟨rfl, hb_⟩
      refine ⟨_, rfl, ?_⟩
      replace hh := hh.ext hb_
      first | refine gS ?_ | (refine gT ?_; (first | refine s_neb_f UIs.out rfl rfl (by first | rfl | assumption) (by decide) ?_ | refine s_neb_t UIs.out rfl rfl (by first | assumption | decide) (by decide) ?_ | refine s_neq_bool UIs.out rfl rfl (by decide) ?_)) | refine gV ?_
      first | refine pkT ?_ | refine pkF ?_
      refine mB ?_
      first | refine gS ?_ | (refine gT ?_; refine mL ?_) | refine gV ?_
      first | refine gS ?_ | (refine gT ?_; refine mL ?_) | refine gV ?_
      refine wl_guard_take rfl rfl ?_
      refine s_callf (bWithin_calls _ n _ a _ m _ b 440 _ (hT.hp hh) (hh.sl_row (i := 1) rfl) (hS2.ext hh.below) ok v6 (by omega) (by omega) (by omega)) FnIs.out rfl (by decide) ?_
      rintro e_ w46 ⟨rfl, hb_⟩
      refine ⟨_, rfl, ?_⟩
      replace hh := hh.ext hb_
      first | refine gS ?_ | (refine gT ?_; refine mL ?_) | refine gV ?_
      first | refine gS ?_ | (refine gT ?_; refine mL ?_) | refine gV ?_
      refine wl_guard_take rfl rfl ?_
      refine s_callf (rbWithin_calls _ n _ a _ m _ b 440 _ (hS.ext hh.below) (hS2.ext hh.below) v3 v6 (by omega) (by omega) (by omega)) FnIs.out rfl (by decide) ?_
      rintro e_ w49 ⟨rfl, hb_⟩
      refine ⟨_, rfl, ?_⟩
      replace hh := hh.ext hb_
      first | refine gS ?_ | (refine gT ?_; (first | refine s_neb_f UIs.out rfl rfl (by first | rfl | assumption) (by decide) ?_ | refine s_neb_t UIs.out rfl rfl (by first | assumption | decide) (by decide) ?_ | refine s_neq_bool UIs.out rfl rfl (by decide) ?_)) | refine gV ?_
      first | refine pkT ?_ | refine pkF ?_
      refine wl_end (cF (wc_skip (k_then (sr (mL ?_)))))
      refine wl_clear hh (i := 0) rfl rfl UIs.out TIs.out rfl rfl ?_
      intro wc hh
      simp only [List.set_cons_zero] at hh
      replace hh := hh.sub (List.Sublist.cons _ (List.Sublist.cons_cons _ List.Sublist.slnil))
      refine wl_end (sr (mL ?_))
      refine s_callf (bWidest_calls _ n _ a 440 _ (hT.hp hh) (hh.sl_row (i := 0) rfl) v3 (by omega) (by omega)) FnIs.out rfl (by decide) ?_
      rintro e_ w54 ⟨⟨v_, rfl, hv_⟩, hb_⟩
      refine ⟨_, rfl, ?_⟩
      replace hh := hh.ext hb_
      refine mL ?_
      refine s_callf (rbWidest_calls _ n _ a 440 _ (hS.ext hh.below) v3 (by omega) (by omega)) FnIs.out rfl (by decide) ?_
      rintro e_ w56 ⟨⟨u_, rfl, hu_⟩, hb_⟩
      refine ⟨_, rfl, ?_⟩
      replace hh := hh.ext hb_
      obtain rfl := wide_uniq hv_ hu_
      refine eqlC (mB ?_)
      first | refine gS ?_ | (refine gT ?_; refine mL ?_) | refine gV ?_
      refine wl_guard_take rfl rfl ?_
      refine s_callf (bVolume_calls _ n _ a 440 _ (hT.hp hh) (hh.sl_row (i := 0) rfl) v3 (by omega) (by omega) (by omega)) FnIs.out rfl (by decide) ?_
      rintro e_ w60 ⟨rfl, hb_⟩
      refine ⟨_, rfl, ?_⟩
      replace hh := hh.ext hb_
      first | refine gS ?_ | (refine gT ?_; refine mL ?_) | refine gV ?_
      refine wl_guard_take rfl rfl ?_
      refine s_callf (rbVolume_calls _ n _ a 440 _ (hS.ext hh.below) v3 (by omega) (by omega) (by omega)) FnIs.out rfl (by decide) ?_
      rintro e_ w62 ⟨rfl, hb_⟩
      refine ⟨_, rfl, ?_⟩
      replace hh := hh.ext hb_
      first | refine gS ?_ | (refine gT ?_; (first | refine s_eqN_t rfl rfl (by first | assumption | rfl) (by decide) ?_ | refine s_eqN_f rfl rfl (by assumption) (by decide) ?_)) | refine gV ?_
      first | refine pkT ?_ | refine pkF ?_
      refine mB ?_
      first | refine gS ?_ | (refine gT ?_; refine mL ?_) | refine gV ?_
      first | refine gS ?_ | (refine gT ?_; refine mL ?_) | refine gV ?_
      refine wl_guard_take rfl rfl ?_
      refine s_callf (rbSame_calls _ n _ a _ _ _ (hh.sl_row (i := 0) rfl) (hS.ext hh.below) (by omega)) FnIs.out rfl (by decide) ?_
      rintro e_ w68 ⟨rfl, hb_⟩
      refine ⟨_, rfl, ?_⟩
      replace hh := hh.ext hb_
      first | refine pkT ?_ | refine pkF ?_
      refine mB ?_
      refine wl_guard_take rfl rfl ?_
      refine s_callf (bawake_calls _ (hT.hp hh)) FnIs.out rfl (by decide) ?_
      rintro e_ w71 ⟨rfl, hb_⟩
      refine ⟨_, rfl, ?_⟩
      replace hh := hh.ext hb_
      first | refine pkT ?_ | refine pkF ?_
      refine aB (wl_end (wc_ret ?_))
      refine ret1 (by first | exact .inr rfl | exact .inl rfl) rfl (v_bool rfl) ?_
      exact ⟨rfl, hh.below⟩
end Go.Proofs.YthmmofllajkejaaGreatDoor
