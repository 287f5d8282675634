/- The walk through the law BoxPoints. -/
import Derived.Test.YthmmofllajkejaaGreatDoorLawBA
namespace Go.Proofs.YthmmofllajkejaaGreatDoor
open Go.RowKit
-- umode
-- skipu
theorem map_idx {b : List SR} : (b.mapIdx fun _ s => nR s.f.mid) = b.map fun s => nR s.mid := by
  simp only [SR.mid_f]
  exact List.mapIdx_eq_iff.2 fun i => by rw [List.getElem?_map]
theorem boxPoints_calls (L : Option Addr) (n c : Nat) (b : List SR) (k : Int) (K : Option Addr) (q c3 : Nat) (t : List NR) (w : World) (hT : Tab w) (hS : Sl w L n 6 (recs SR.cells b)) (hk1 : -9223372036854775808 ≤ k) (hk2 : k ≤ 9223372036854775807) (hS3 : Sl w K q 3 (recs NR.cells t)) :
    Calls Tryz.prog 6 #[.slice L n c, .int .i64 k, .slice K q c3] w fun r w' => r = .returned (.bool true) ∧ Below w.heap.size w w' := by
  have hh := Hp.start w
  have hln := hS.recLen SR.len (by decide)
  have hlq := hS3.recLen NR.len (by decide)
  cases g1 : vastB b t with
  | true =>
    refine calls_vc (N := 46) (l := [.slice L n c, .int .i64 k, .slice K q c3]) Tryz.func6 rfl rfl (by simp) ?_
    refine sr (aB (wl_end (wc_seq (sr (mL (mL ?_))))))
    refine s_callf (bvast_calls L n c b K q c3 t _ (hS.ext hh.below) (hS3.ext hh.below)) FnIs.out rfl (by decide) ?_
    rintro e_ w10 ⟨rfl, hb_⟩
    refine ⟨_, rfl, ?_⟩
    replace hh := hh.ext hb_
    rw [g1]
    refine wl_end (cT (sr ?_))
    refine s_callf (bawake_calls _ (hT.hp hh)) FnIs.out rfl (by decide) ?_
    rintro e_ w11 ⟨rfl, hb_⟩
    refine ⟨_, rfl, ?_⟩
    replace hh := hh.ext hb_
    refine aB (wl_end (wc_ret (k_ret ?_)))
    refine ret1 (by first | exact .inr rfl | exact .inl rfl) rfl (v_bool rfl) ?_
    exact ⟨rfl, hh.below⟩
  | false =>
    obtain ⟨v1, v2, v3, v4⟩ := vast_no g1
    have ok : ∀ s ∈ b, s.ok := fun s hs => ⟨(v3 s hs).1.ok, (v3 s hs).2.ok⟩
    have ht : ∀ x ∈ t, x.ok ∧ Sz 440 x.d := fun x hx => ⟨(v4 x hx).ok, (v4 x hx).sz⟩
    have hone : ((recs SR.cells b).all Value.oneCell') = true := recs_oneCells SR.one _
    have hmid := fun A c0 w1 hT1 hS1 => bMid_calls A n c0 b 440 w1 hT1 hS1 v3 (by omega) (by omega)
    simp only [map_idx] at hmid
    refine calls_vc (N := 46) (l := [.slice L n c, .int .i64 k, .slice K q c3]) Tryz.func6 rfl rfl (by simp) ?_
    refine sr (aB (wl_end (wc_seq (sr (mL (mL ?_))))))
    refine s_callf (bvast_calls L n c b K q c3 t _ (hS.ext hh.below) (hS3.ext hh.below)) FnIs.out rfl (by decide) ?_
    rintro e_ w10 ⟨rfl, hb_⟩
    refine ⟨_, rfl, ?_⟩
    replace hh := hh.ext hb_
    rw [g1]
    refine wl_end (cF (wc_skip (k_then (sr ?_))))
    refine wl_buildSlice0 hh UIs.out TIs.out (by decide) ?_
    intro b12 w12 hh
    refine mL ?_
    refine wl_append hh (i := 0) rfl rfl rfl (hS.ext hh.below) UIs.out TIs.out rfl (by decide) ?one4 (by omega) (by omega) (by decide) ?kk4
    case one4 => first | rfl | assumption | exact oneCells_i64s _ | exact oneCells_u8s _
    intro A14 c14 w14 hh
    simp only [List.set_cons_zero] at hh
    rw [Nat.zero_add] at hh ⊢
    rw [List.nil_append] at hh
    refine aL (wl_end (sr (mL ?_)))
    refine s_callf (hmid _ _ _ (hT.hp hh) (hh.sl_row (i := 0) rfl)) FnIs.out rfl (by decide) ?_
    rintro e_ w16 ⟨A16, c16, rfl, hown_, hb_⟩
    refine ⟨_, rfl, ?_⟩
    replace hh := hh.push_new (x := .row _ _ _ _ _ _) hb_ hown_
    refine mL ?_
    refine s_callf (rbMid_calls _ n _ b 440 _ (hS.ext hh.below) v3 (by omega) (by omega)) FnIs.out rfl (by decide) ?_
    rintro e_ w18 ⟨A18, c18, rfl, hown_, hb_⟩
    refine ⟨_, rfl, ?_⟩
    replace hh := hh.push_new (x := .row _ _ _ _ _ _) hb_ hown_
    refine s_callf (rbSamePoint_calls _ n _ (b.map fun s => nR s.mid) _ _ _ (hh.sl_row (i := 1) rfl) (hh.sl_row (i := 0) rfl) (by omega)) FnIs.out rfl (by decide) ?_
    rintro e_ w19 ⟨rfl, hb_⟩
    refine ⟨_, rfl, ?_⟩
    replace hh := hh.ext hb_
    replace hh := hh.sub (List.Sublist.cons _ (List.Sublist.cons _ (List.Sublist.cons_cons _ List.Sublist.slnil)))
    refine mB ?_
    first | refine gS ?_ | (refine gT ?_; refine mL ?_) | refine gV ?_
    first | refine gS ?_ | (refine gT ?_; refine mI ?_) | refine gV ?_
    refine wl_guard_take rfl rfl ?_
    refine s_callf (bCorner_calls _ n _ b k _ (hT.hp hh) (hh.sl_row (i := 0) rfl) ok (by omega)) FnIs.out rfl (by decide) ?_
    rintro e_ w23 ⟨A23, c23, rfl, hown_, hb_⟩
    refine ⟨_, rfl, ?_⟩
    replace hh := hh.push_new (x := .row _ _ _ _ _ _) hb_ hown_
    first | refine gS ?_ | (refine gT ?_; refine mL ?_) | refine gV ?_
    first | refine gS ?_ | (refine gT ?_; refine mI ?_) | refine gV ?_
    refine wl_guard_take rfl rfl ?_
    refine s_callf (rbCorner_calls _ n _ b k 440 _ (hS.ext hh.below) v3 (by omega) (by omega) hk1 hk2) FnIs.out rfl (by decide) ?_
    rintro e_ w26 ⟨A26, c26, rfl, hown_, hb_⟩
    refine ⟨_, rfl, ?_⟩
    replace hh := hh.push_new (x := .row _ _ _ _ _ _) hb_ hown_
    refine wl_guard_take rfl rfl ?_
    refine s_callf (rbSamePoint_calls _ n _ (b.mapIdx fun i s => cond (cornU k i) s.f.hi s.f.lo) _ _ _ (hh.sl_row (i := 1) rfl) (hh.sl_row (i := 0) rfl) (by omega)) FnIs.out rfl (by decide) ?_
    rintro e_ w27 ⟨rfl, hb_⟩
    refine ⟨_, rfl, ?_⟩
    replace hh := hh.ext hb_
    replace hh := hh.sub (List.Sublist.cons _ (List.Sublist.cons _ (List.Sublist.cons_cons _ List.Sublist.slnil)))
    first | refine pkT ?_ | refine pkF ?_
    refine mB ?_
    first | refine gS ?_ | (refine gT ?_; refine mL ?_) | refine gV ?_
    first | refine gS ?_ | (refine gT ?_; refine mL ?_) | refine gV ?_
    refine wl_guard_take rfl rfl ?_
    refine s_callf (bPlace_calls _ n _ b _ q _ t 440 _ (hT.hp hh) (hh.sl_row (i := 0) rfl) v3 (hS3.ext hh.below) ht (by omega) (by omega) (by omega)) FnIs.out rfl (by decide) ?_
    rintro e_ w32 ⟨A32, c32, rfl, hown_, hb_⟩
    refine ⟨_, rfl, ?_⟩
    replace hh := hh.push_new (x := .row _ _ _ _ _ _) hb_ hown_
    first | refine gS ?_ | (refine gT ?_; refine mL ?_) | refine gV ?_
    first | refine gS ?_ | (refine gT ?_; refine mL ?_) | refine gV ?_
    refine wl_guard_take rfl rfl ?_
    refine s_callf (rbPlace_calls _ n _ b _ q _ t 440 _ (hS.ext hh.below) v3 (hS3.ext hh.below) ht (by omega) (by omega) (by omega)) FnIs.out rfl (by decide) ?_
    rintro e_ w35 ⟨A35, c35, rfl, hown_, hb_⟩
    refine ⟨_, rfl, ?_⟩
    replace hh := hh.push_new (x := .row _ _ _ _ _ _) hb_ hown_
    refine wl_guard_take rfl rfl ?_
    refine s_callf (rbSamePoint_calls _ n _ (b.mapIdx fun i s => placeG t i s.f) _ _ _ (hh.sl_row (i := 1) rfl) (hh.sl_row (i := 0) rfl) (by omega)) FnIs.out rfl (by decide) ?_
    rintro e_ w36 ⟨rfl, hb_⟩
    refine ⟨_, rfl, ?_⟩
    replace hh := hh.ext hb_
    replace hh := hh.sub (List.Sublist.cons _ (List.Sublist.cons _ (List.Sublist.cons_cons _ List.Sublist.slnil)))
    first | refine pkT ?_ | refine pkF ?_
    refine mB ?_
    first | refine gS ?_ | (refine gT ?_; refine mL ?_) | refine gV ?_
    first | refine gS ?_ | (refine gT ?_; refine mL ?_) | refine gV ?_
    refine wl_guard_take rfl rfl ?_
    refine s_callf (rbSame_calls _ n _ b _ _ _ (hh.sl_row (i := 0) rfl) (hS.ext hh.below) (by omega)) FnIs.out rfl (by decide) ?_
    rintro e_ w41 ⟨rfl, hb_⟩
    refine ⟨_, rfl, ?_⟩
    replace hh := hh.ext hb_
    first | refine pkT ?_ | refine pkF ?_
    refine mB ?_
    refine wl_guard_take rfl rfl ?_
    refine s_callf (bawake_calls _ (hT.hp hh)) FnIs.out rfl (by decide) ?_
    rintro e_ w44 ⟨rfl, hb_⟩
    refine ⟨_, rfl, ?_⟩
    replace hh := hh.ext hb_
    first | refine pkT ?_ | refine pkF ?_
    refine aB (wl_end (wc_ret ?_))
    refine ret1 (by first | exact .inr rfl | exact .inl rfl) rfl (v_bool rfl) ?_
    exact ⟨rfl, hh.below⟩
end Go.Proofs.YthmmofllajkejaaGreatDoor
