/- The walk through ogeelaw11's examples. -/
import Derived.Test.YthmmofllajkejaaGreatDoorLawB
namespace Go.Proofs.YthmmofllajkejaaGreatDoor
open Go.RowKit
-- umode
-- skipu
theorem sp_lo (p : Int × Int) : (sp p).lo.d = D p.1 0 := nR_d _
theorem sp_hi (p : Int × Int) : (sp p).hi.d = D p.2 0 := nR_d _
theorem sp_f {p : Int × Int} (h : D p.1 0 < D p.2 0) : (sp p).f = sp p := by
  unfold SR.f SR.L SR.H loD hiD
  rw [sp_lo, sp_hi, if_neg (by grind), if_pos h]
  rfl
theorem sp_mid (p : Int × Int) : (sp p).mid = (D p.1 0 + D p.2 0) * twoD (-1) := by unfold SR.mid; rw [sp_lo, sp_hi]
theorem sp_L {p : Int × Int} (h : D p.1 0 < D p.2 0) : (sp p).L = D p.1 0 := by unfold SR.L loD; rw [sp_lo, sp_hi, if_neg (by grind)]
theorem sp_H {p : Int × Int} (h : D p.1 0 < D p.2 0) : (sp p).H = D p.2 0 := by unfold SR.H hiD; rw [sp_lo, sp_hi, if_pos h]
theorem sp_fin {p : Int × Int} (h : p.1.natAbs < 256 ∧ p.2.natAbs < 256) : (sp p).fin 24 := by
  have h1 := D_sz (e := 0) h.1 (by omega) (by omega)
  have h2 := D_sz (e := 0) h.2 (by omega) (by omega)
  exact ⟨Fin_.of h1 (by omega), Fin_.of h2 (by omega)⟩
def exB : List SR := [sp (0, 4), sp (0, 2)]
theorem exB_lt : D 0 0 < D 4 0 ∧ D 0 0 < D 2 0 := by decide +kernel
theorem exB_f : exB.map SR.f = exB := by
  unfold exB
  rw [List.map_cons, List.map_cons, List.map_nil, sp_f exB_lt.1, sp_f exB_lt.2]
theorem exB_fin : ∀ s ∈ exB, s.fin 24 := by
  unfold exB
  intro s hs
  simp only [List.mem_cons, List.not_mem_nil, or_false] at hs
  rcases hs with rfl | rfl
  · exact sp_fin (by decide)
  · exact sp_fin (by decide)
theorem exB_mid0 : nR (sp (0, 4)).mid = nR (D 2 0) := by rw [sp_mid, show (D 0 0 + D 4 0) * twoD (-1) = D 2 0 by decide +kernel]
theorem exB_mid1 : nR (sp (0, 2)).mid = nR (D 1 0) := by rw [sp_mid, show (D 0 0 + D 2 0) * twoD (-1) = D 1 0 by decide +kernel]
theorem exB_half (u : Bool) : (exB.map SR.f).set 0 ((sp (0, 4)).f.half (nR (sp (0, 4)).f.mid) u) = [cond u (sp (2, 4)) (sp (0, 2)), sp (0, 2)] := by
  rw [exB_f, SR.mid_f, sp_f exB_lt.1, exB_mid0]
  cases u <;> rfl
theorem exB_part : partS (exB.map SR.f) [1, 2] = some [sp (2, 4), sp (0, 1)] := by
  have h1 : halveS (exB.map SR.f) 1 = some [sp (2, 4), sp (0, 2)] := by
    rw [exB_f]
    show some ((exB.map SR.f).set 0 ((sp (0, 4)).f.half (nR (sp (0, 4)).f.mid) true)) = _
    rw [exB_half]
    rfl
  have h2 : halveS [sp (2, 4), sp (0, 2)] 2 = some [sp (2, 4), sp (0, 1)] := by
    show some (([sp (2, 4), sp (0, 2)].map SR.f).set 1 ((sp (0, 2)).f.half (nR (sp (0, 2)).f.mid) false)) = _
    rw [SR.mid_f, sp_f exB_lt.2, exB_mid1, List.map_cons, List.map_cons, List.map_nil, sp_f exB_lt.2, sp_f (show D 2 0 < D 4 0 by decide +kernel)]
    rfl
  show ((some (exB.map SR.f)).bind (halveS · 1)).bind (halveS · 2) = _
  rw [Option.bind_some, h1, Option.bind_some, h2]
theorem exB_part4 : partS (exB.map SR.f) [4] = none := by rw [exB_f]; rfl
theorem exB_chk : chkB exB = 0 := by
  unfold chkB exB
  simp only [List.any_cons, List.any_nil, sp_lo, sp_hi]
  decide +kernel
theorem a0_chk : chkB [sp (0, 0)] = 5 := by
  unfold chkB
  simp only [List.any_cons, List.any_nil, sp_lo, sp_hi]
  decide +kernel
theorem sp_wid {p : Int × Int} (h : D p.1 0 < D p.2 0) : (sp p).wid = D p.2 0 - D p.1 0 := by unfold SR.wid; rw [sp_H h, sp_L h]
theorem exB_vol : volB exB = D 8 0 := by
  unfold volB exB
  rw [List.map_cons, List.map_cons, List.map_nil, sp_wid exB_lt.1, sp_wid exB_lt.2]
  decide +kernel
theorem exB_wide {v : Int} (h : WideB exB v) : v = 0 := by
  rcases h with ⟨h, _⟩ | ⟨m, s, hs, rfl, hmax, _⟩
  · cases h
  · match m, hs with
    | 0, _ => rfl
    | 1, hs =>
      obtain rfl : sp (0, 2) = s := Option.some.inj hs
      have := hmax 0 (sp (0, 4)) rfl
      rw [sp_wid exB_lt.1, sp_wid exB_lt.2] at this
      exact absurd (by decide +kernel) this
    | m + 2, hs => cases hs
theorem exB_mid : (exB.mapIdx fun _ s => nR s.f.mid) = [(2 : Int), 1].map fun m => nR (D m 0) := by
  show [nR (sp (0, 4)).f.mid, nR (sp (0, 2)).f.mid] = _
  rw [SR.mid_f, SR.mid_f, exB_mid0, exB_mid1]
  rfl
theorem exB_corn1 : (exB.mapIdx fun i s => cond (cornU 1 i) s.f.hi s.f.lo) = [(4 : Int), 0].map fun m => nR (D m 0) := by
  show [cond (cornU 1 0) (sp (0, 4)).f.hi (sp (0, 4)).f.lo, cond (cornU 1 1) (sp (0, 2)).f.hi (sp (0, 2)).f.lo] = _
  rw [show cornU 1 0 = true by decide, show cornU 1 1 = false by decide, sp_f exB_lt.1, sp_f exB_lt.2]
  rfl
theorem exB_corn2 : (exB.mapIdx fun i s => cond (cornU 2 i) s.f.hi s.f.lo) = [(0 : Int), 2].map fun m => nR (D m 0) := by
  show [cond (cornU 2 0) (sp (0, 4)).f.hi (sp (0, 4)).f.lo, cond (cornU 2 1) (sp (0, 2)).f.hi (sp (0, 2)).f.lo] = _
  rw [show cornU 2 0 = false by decide, show cornU 2 1 = true by decide, sp_f exB_lt.1, sp_f exB_lt.2]
  rfl
theorem exB_place : (exB.mapIdx fun i s => placeG [nR (D 1 (-1))] i s.f) = [(2 : Int), 0].map fun m => nR (D m 0) := by
  show [nR ((sp (0, 4)).f.at_ (nR (D 1 (-1))).d), (sp (0, 2)).f.lo] = _
  rw [sp_f exB_lt.1, sp_f exB_lt.2, nR_d]
  unfold SR.at_
  rw [sp_lo, sp_wid exB_lt.1, show D 0 0 + D 1 (-1) * (D 4 0 - D 0 0) = D 2 0 by decide +kernel]
  rfl
theorem exB_has : hasB exB ([(2 : Int), 1].map fun m => nR (D m 0)) = true := by
  show (decide (2 = 2) && ((sp (0, 4)).has (nR (D 2 0)).d && ((sp (0, 2)).has (nR (D 1 0)).d && true))) = true
  unfold SR.has
  rw [nR_d, nR_d, sp_L exB_lt.1, sp_L exB_lt.2, sp_H exB_lt.1, sp_H exB_lt.2]
  decide +kernel
theorem exB_within : withinB [sp (0, 2), sp (0, 2)] exB = true := by
  show (decide (2 = 2) && (((sp (0, 4)).has (sp (0, 2)).lo.d && (sp (0, 4)).has (sp (0, 2)).hi.d) && (((sp (0, 2)).has (sp (0, 2)).lo.d && (sp (0, 2)).has (sp (0, 2)).hi.d) && true))) = true
  unfold SR.has
  rw [sp_lo, sp_hi, sp_L exB_lt.1, sp_L exB_lt.2, sp_H exB_lt.1, sp_H exB_lt.2]
  decide +kernel
theorem i64_lt {l : List Int} (h : (l.all fun m => m.natAbs < 256) = true) : ∀ p ∈ l, p.natAbs < 256 := fun p hp => by simpa using List.all_eq_true.1 h p hp
theorem bawake_calls (w : World) (hT : Tab w) :
    Calls Tryz.prog 27 #[] w fun r w' => r = .returned (.bool true) ∧ Below w.heap.size w w' := by
  have hh := Hp.start w
  have ok := fun s hs => (show SR.ok s from ⟨(exB_fin s hs).1.ok, (exB_fin s hs).2.ok⟩)
  have hpart1 := fun L c M c2 w1 hT1 hS1 hS2 => bPart_calls L 2 c exB M 2 c2 [1, 2] 24 w1 hT1 hS1 exB_fin hS2 (by omega) (by omega) rfl
  have hpart2 := fun L c M c2 w1 hT1 hS1 hS2 => bPart_calls L 2 c exB M 1 c2 [4] 24 w1 hT1 hS1 exB_fin hS2 (by omega) (by omega) rfl
  have hchk := fun L c w1 hT1 hS1 => bCheck_calls L 2 c exB w1 hT1 hS1 ok (by omega)
  have hvol := fun L c w1 hT1 hS1 => bVolume_calls L 2 c exB 24 w1 hT1 hS1 exB_fin (by omega) (by omega) (by omega)
  have hmid := fun L c w1 hT1 hS1 => bMid_calls L 2 c exB 24 w1 hT1 hS1 exB_fin (by omega) (by omega)
  have hcor1 := fun L c w1 hT1 hS1 => bCorner_calls L 2 c exB 1 w1 hT1 hS1 ok (by omega)
  have hcor2 := fun L c w1 hT1 hS1 => bCorner_calls L 2 c exB 2 w1 hT1 hS1 ok (by omega)
  simp only [exB_part, exB_part4, exB_chk, exB_vol, exB_mid, exB_corn1, exB_corn2] at hpart1 hpart2 hchk hvol hmid hcor1 hcor2
  have hhalf := fun L c w1 hT1 hS1 => bHalve_calls L 2 c exB 0 (sp (0, 4)) 24 w1 hT1 hS1 exB_fin (by omega) (by omega) rfl
  simp only [exB_half, cond_true, cond_false] at hhalf
  have htp : ∀ x ∈ [nR (D 1 (-1))], x.ok ∧ Sz 24 x.d := fun x hx => by
    rw [List.mem_singleton] at hx
    subst hx
    have := D_sz (m := 1) (e := -1) (by decide) (by omega) (by omega)
    exact ⟨this.ok (by omega), by rw [nR_d]; exact this⟩
  have hpl := fun L c M c2 w1 hT1 hS1 hS2 => bPlace_calls L 2 c exB M 1 c2 [nR (D 1 (-1))] 24 w1 hT1 hS1 exB_fin hS2 htp (by omega) (by omega) (by omega)
  simp only [exB_place] at hpl
  have hchk0 := fun L c w1 hT1 hS1 => bCheck_calls L 1 c [sp (0, 0)] w1 hT1 hS1 (fun s hs => by rw [List.mem_singleton] at hs; subst hs; exact ⟨(sp_fin (by decide)).1.ok, (sp_fin (by decide)).2.ok⟩) (by omega)
  have hchkn := fun w1 hT1 => bCheck_calls none 0 0 [] w1 hT1 (Sl.nil _ _ _) (fun _ h => (nomatch h)) (by omega)
  have hhas := fun L c M c2 w1 hT1 hS1 hS2 => bHas_calls L 2 c exB M 2 c2 ([(2 : Int), 1].map fun m => nR (D m 0)) 24 w1 hT1 hS1 hS2 exB_fin (fun a ha => by
    simp only [List.map_cons, List.map_nil, List.mem_cons, List.not_mem_nil, or_false] at ha
    rcases ha with rfl | rfl
    · exact (D_sz (by decide) (by omega) (by omega)).ok (by omega)
    · exact (D_sz (by decide) (by omega) (by omega)).ok (by omega)) (by omega) (by omega) (by omega)
  have hwi := fun L c M c2 w1 hT1 hS1 hS2 => bWithin_calls L 2 c [sp (0, 2), sp (0, 2)] M 2 c2 exB 24 w1 hT1 hS1 hS2 (fun s hs => by
    have : s.fin 24 := by
      simp only [List.mem_cons, List.not_mem_nil, or_false, or_self] at hs
      subst hs
      exact sp_fin (by decide)
    exact ⟨this.1.ok, this.2.ok⟩) exB_fin (by omega) (by omega) (by omega)
  simp only [a0_chk, exB_has, exB_within, show chkB [] = 1 from rfl] at hchk0 hchkn hhas hwi
  refine calls_vc (N := 133) (l := []) Tryz.func27 rfl rfl (by simp) ?_
  refine sr (aB (wl_end (sr ?_)))
  refine wl_buildSlice hh (cs := [_, _, _, _]) UIs.out TIs.out (evp_cons rfl (evp_cons rfl (evp_cons rfl (evp_cons rfl evp_nil)))) rfl rfl (by decide) (by decide) (by decide) rfl (by decide) ?_
  intro b12 w12 hh
  refine s_callf (bof_calls _ 2 _ [(0, 4), (0, 2)] _ (hh.sl_row (i := 0) rfl) (by omega) (by decide)) FnIs.out rfl (by decide) ?_
  rintro e_ w13 ⟨A13, c13, rfl, hown_, hb_⟩
  refine ⟨_, rfl, ?_⟩
  replace hh := hh.push_new (x := .row _ _ _ _ _ _) hb_ hown_
  replace hh := hh.sub (List.Sublist.cons_cons _ (List.Sublist.cons _ List.Sublist.slnil))
  replace hh : Hp w [.row A13 2 c13 80 6 (recs SR.cells exB)] _ := hh
  refine aL (wl_end (sr (mL ?_)))
  refine s_callf (hhalf _ _ _ (hT.hp hh) (hh.sl_row (i := 0) rfl)) FnIs.out rfl (by decide) ?_
  rintro e_ w_ ⟨Ax, cx, Ay, cy, rfl, h2⟩
  refine ⟨_, rfl, ?_⟩
  replace hh := hh.join h2
  clear h2
  refine mT ?_
  refine exC ?_
  refine exC ?_
  refine exC ?_
  refine aL (aL (aI (wl_end (sr (mL ?_)))))
  refine s_callf (bHalve_bad _ 2 _ 2 _ (.inr (by omega))) FnIs.out rfl (by decide) ?_
  rintro e_ w22 ⟨rfl, hb_⟩
  refine ⟨_, rfl, ?_⟩
  replace hh := hh.ext hb_
  refine mT ?_
  refine exC ?_
  refine exC ?_
  refine exC ?_
  refine aL (aL (aI (wl_end (sr (mL ?_)))))
  refine wl_buildSlice hh (cs := [_, _]) UIs.out TIs.out (evp_cons rfl (evp_cons rfl evp_nil)) rfl rfl (by decide) (by decide) (by decide) rfl (by decide) ?_
  intro b28 w28 hh
  refine s_callf (hpart1 _ _ _ _ _ (hT.hp hh) (hh.sl_row (i := 3) rfl) (hh.sl_row (i := 0) rfl)) FnIs.out rfl (by decide) ?_
  rintro e_ w_ ⟨⟨Ap, cp, rfl, ho_⟩, hb_⟩
  refine ⟨_, rfl, ?_⟩
  replace hh := hh.push_new (x := .row _ _ _ _ _ _) hb_ ho_
  replace hh := hh.sub (List.Sublist.cons_cons _ (List.Sublist.cons _ (List.Sublist.cons_cons _ (List.Sublist.cons_cons _ (List.Sublist.cons_cons _ List.Sublist.slnil)))))
  refine mT ?_
  refine exC ?_
  refine exC ?_
  refine aL (aI (wl_end (sr (mL ?_))))
  refine wl_buildSlice hh (cs := [_]) UIs.out TIs.out (evp_cons rfl evp_nil) rfl rfl (by decide) (by decide) (by decide) rfl (by decide) ?_
  intro b34 w34 hh
  refine s_callf (hpart2 _ _ _ _ _ (hT.hp hh) (hh.sl_row (i := 4) rfl) (hh.sl_row (i := 0) rfl)) FnIs.out rfl (by decide) ?_
  rintro e_ w35 ⟨rfl, hb_⟩
  refine ⟨_, rfl, ?_⟩
  replace hh := hh.ext hb_
  replace hh := hh.sub (List.Sublist.cons _ (List.Sublist.cons_cons _ (List.Sublist.cons_cons _ (List.Sublist.cons_cons _ (List.Sublist.cons_cons _ List.Sublist.slnil)))))
  refine mT ?_
  refine exC ?_
  refine exC ?_
  refine aL (aI (wl_end (sr (mL ?_))))
  refine s_callf (hchk _ _ _ (hT.hp hh) (hh.sl_row (i := 3) rfl)) FnIs.out rfl (by decide) ?_
  rintro e_ w39 ⟨rfl, hb_⟩
  refine ⟨_, rfl, ?_⟩
  replace hh := hh.ext hb_
  refine eqlC (mB ?_)
  first | (refine wl_guard_skip (by decide) rfl rfl (by decide) ?_) | (refine wl_guard_take rfl rfl ?_; (refine wl_buildSlice hh (cs := [_, _]) UIs.out TIs.out (evp_cons rfl (evp_cons rfl evp_nil)) rfl rfl (by decide) (by decide) (by decide) rfl (by decide) ?_); (intro b42 w42 hh)) | (refine wl_guard_skipV (by decide) rfl rfl ?_)
  refine wl_guard_take rfl rfl ?_
  refine s_callf (bof_calls _ 1 _ [(0, 0)] _ (hh.sl_row (i := 0) rfl) (by omega) (by decide)) FnIs.out rfl (by decide) ?_
  rintro e_ w43 ⟨A43, c43, rfl, hown_, hb_⟩
  refine ⟨_, rfl, ?_⟩
  replace hh := hh.push_new (x := .row _ _ _ _ _ _) hb_ hown_
  refine wl_guard_take rfl rfl ?_
  refine s_callf (hchk0 _ _ _ (hT.hp hh) (hh.sl_row (i := 0) rfl)) FnIs.out rfl (by decide) ?_
  rintro e_ w44 ⟨rfl, hb_⟩
  refine ⟨_, rfl, ?_⟩
  replace hh := hh.ext hb_
  replace hh := hh.sub (List.Sublist.cons _ (List.Sublist.cons _ (List.Sublist.cons_cons _ (List.Sublist.cons_cons _ (List.Sublist.cons_cons _ (List.Sublist.cons_cons _ List.Sublist.slnil))))))
  first | refine gS ?_ | (refine gT ?_; refine eqlC ?_) | refine gV ?_
  first | refine pkT ?_ | refine pkF ?_
  refine mB ?_
  refine wl_guard_take rfl rfl ?_
  refine s_callf (hchkn _ (hT.hp hh)) FnIs.out rfl (by decide) ?_
  rintro e_ w48 ⟨rfl, hb_⟩
  refine ⟨_, rfl, ?_⟩
  replace hh := hh.ext hb_
  first | refine gS ?_ | (refine gT ?_; refine eqlC ?_) | refine gV ?_
  first | refine pkT ?_ | refine pkF ?_
  refine mB ?_
  first | refine gS ?_ | (refine gT ?_; refine mL ?_) | refine gV ?_
  refine wl_guard_take rfl rfl ?_
  refine s_callf (bWidest_calls _ 2 _ exB 24 _ (hT.hp hh) (hh.sl_row (i := 3) rfl) exB_fin (by omega) (by omega)) FnIs.out rfl (by decide) ?_
  rintro e_ w53 ⟨⟨v_, rfl, hv_⟩, hb_⟩
  refine ⟨_, rfl, ?_⟩
  obtain rfl := exB_wide hv_
  replace hh := hh.ext hb_
  first | refine gS ?_ | (refine gT ?_; refine eqlC ?_) | refine gV ?_
  first | refine pkT ?_ | refine pkF ?_
  refine mB ?_
  first | refine gS ?_ | (refine gT ?_; refine mL ?_) | refine gV ?_
  refine wl_guard_take rfl rfl ?_
  refine s_callf (hvol _ _ _ (hT.hp hh) (hh.sl_row (i := 3) rfl)) FnIs.out rfl (by decide) ?_
  rintro e_ w58 ⟨rfl, hb_⟩
  refine ⟨_, rfl, ?_⟩
  replace hh := hh.ext hb_
  refine wl_guard_take rfl rfl ?_
  refine s_callf (bnum_calls 8 0 _ (by omega) (by omega) (by omega) (by omega)) FnIs.out rfl (by decide) ?_
  rintro e_ w59 ⟨rfl, hb_⟩
  refine ⟨_, rfl, ?_⟩
  replace hh := hh.ext hb_
  first | refine gS ?_ | (refine gT ?_; (first | refine s_eqN_t rfl rfl (by first | assumption | rfl) (by decide) ?_ | refine s_eqN_f rfl rfl (by assumption) (by decide) ?_)) | refine gV ?_
  first | refine pkT ?_ | refine pkF ?_
  refine mB ?_
  first | refine gS ?_ | (refine gT ?_; refine mL ?_) | refine gV ?_
  refine wl_guard_take rfl rfl ?_
  refine s_callf (hmid _ _ _ (hT.hp hh) (hh.sl_row (i := 3) rfl)) FnIs.out rfl (by decide) ?_
  rintro e_ w64 ⟨A64, c64, rfl, hown_, hb_⟩
  refine ⟨_, rfl, ?_⟩
  replace hh := hh.push_new (x := .row _ _ _ _ _ _) hb_ hown_
  first | (refine wl_guard_skip (by decide) rfl rfl (by decide) ?_) | (refine wl_guard_take rfl rfl ?_; (refine wl_buildSlice hh (cs := [_, _]) UIs.out TIs.out (evp_cons rfl (evp_cons rfl evp_nil)) rfl rfl (by decide) (by decide) (by decide) rfl (by decide) ?_); (intro b65 w65 hh)) | (refine wl_guard_skipV (by decide) rfl rfl ?_)
  refine wl_guard_take rfl rfl ?_
  refine s_callf (bis_calls _ 2 _ _ _ [2, 1] _ (hh.sl_row (i := 1) rfl) (hh.sl_row (i := 0) rfl) (by omega) (i64_lt rfl)) FnIs.out rfl (by decide) ?_
  rintro e_ w66 ⟨rfl, hb_⟩
  refine ⟨_, rfl, ?_⟩
  replace hh := hh.ext hb_
  replace hh := hh.sub (List.Sublist.cons _ (List.Sublist.cons _ (List.Sublist.cons_cons _ (List.Sublist.cons_cons _ (List.Sublist.cons_cons _ (List.Sublist.cons_cons _ List.Sublist.slnil))))))
  first | refine pkT ?_ | refine pkF ?_
  refine mB ?_
  first | refine gS ?_ | (refine gT ?_; refine mL ?_) | refine gV ?_
  refine wl_guard_take rfl rfl ?_
  refine s_callf (hcor1 _ _ _ (hT.hp hh) (hh.sl_row (i := 3) rfl)) FnIs.out rfl (by decide) ?_
  rintro e_ w70 ⟨A70, c70, rfl, hown_, hb_⟩
  refine ⟨_, rfl, ?_⟩
  replace hh := hh.push_new (x := .row _ _ _ _ _ _) hb_ hown_
  first | (refine wl_guard_skip (by decide) rfl rfl (by decide) ?_) | (refine wl_guard_take rfl rfl ?_; (refine wl_buildSlice hh (cs := [_, _]) UIs.out TIs.out (evp_cons rfl (evp_cons rfl evp_nil)) rfl rfl (by decide) (by decide) (by decide) rfl (by decide) ?_); (intro b71 w71 hh)) | (refine wl_guard_skipV (by decide) rfl rfl ?_)
  refine wl_guard_take rfl rfl ?_
  refine s_callf (bis_calls _ 2 _ _ _ [4, 0] _ (hh.sl_row (i := 1) rfl) (hh.sl_row (i := 0) rfl) (by omega) (i64_lt rfl)) FnIs.out rfl (by decide) ?_
  rintro e_ w72 ⟨rfl, hb_⟩
  refine ⟨_, rfl, ?_⟩
  replace hh := hh.ext hb_
  replace hh := hh.sub (List.Sublist.cons _ (List.Sublist.cons _ (List.Sublist.cons_cons _ (List.Sublist.cons_cons _ (List.Sublist.cons_cons _ (List.Sublist.cons_cons _ List.Sublist.slnil))))))
  first | refine pkT ?_ | refine pkF ?_
  refine mB ?_
  first | refine gS ?_ | (refine gT ?_; refine mL ?_) | refine gV ?_
  refine wl_guard_take rfl rfl ?_
  refine s_callf (hcor2 _ _ _ (hT.hp hh) (hh.sl_row (i := 3) rfl)) FnIs.out rfl (by decide) ?_
  rintro e_ w76 ⟨A76, c76, rfl, hown_, hb_⟩
  refine ⟨_, rfl, ?_⟩
  replace hh := hh.push_new (x := .row _ _ _ _ _ _) hb_ hown_
  first | (refine wl_guard_skip (by decide) rfl rfl (by decide) ?_) | (refine wl_guard_take rfl rfl ?_; (refine wl_buildSlice hh (cs := [_, _]) UIs.out TIs.out (evp_cons rfl (evp_cons rfl evp_nil)) rfl rfl (by decide) (by decide) (by decide) rfl (by decide) ?_); (intro b77 w77 hh)) | (refine wl_guard_skipV (by decide) rfl rfl ?_)
  refine wl_guard_take rfl rfl ?_
  refine s_callf (bis_calls _ 2 _ _ _ [0, 2] _ (hh.sl_row (i := 1) rfl) (hh.sl_row (i := 0) rfl) (by omega) (i64_lt rfl)) FnIs.out rfl (by decide) ?_
  rintro e_ w78 ⟨rfl, hb_⟩
  refine ⟨_, rfl, ?_⟩
  replace hh := hh.ext hb_
  replace hh := hh.sub (List.Sublist.cons _ (List.Sublist.cons _ (List.Sublist.cons_cons _ (List.Sublist.cons_cons _ (List.Sublist.cons_cons _ (List.Sublist.cons_cons _ List.Sublist.slnil))))))
  first | refine pkT ?_ | refine pkF ?_
  refine mB ?_
  first | refine gS ?_ | (refine gT ?_; refine mL ?_) | refine gV ?_
  refine wl_guard_take rfl rfl ?_
  refine s_callf (bnum_calls 1 (-1) _ (by omega) (by omega) (by omega) (by omega)) FnIs.out rfl (by decide) ?_
  rintro e_ w82 ⟨rfl, hb_⟩
  refine ⟨_, rfl, ?_⟩
  replace hh := hh.ext hb_
  first | (refine wl_guard_skip (by decide) rfl rfl (by decide) ?_) | (refine wl_guard_take rfl rfl ?_; (refine wl_buildSlice hh (cs := [_, _, _]) UIs.out TIs.out (evp_cons (ev_agg rfl) evp_nil) rfl rfl (by decide) (by decide) (by decide) rfl (by decide) ?_); (intro b83 w83 hh)) | (refine wl_guard_skipV (by decide) rfl rfl ?_)
  refine wl_guard_take rfl rfl ?_
  refine s_callf (hpl _ _ _ _ _ (hT.hp hh) (hh.sl_row (i := 4) rfl) (hh.sl_row (i := 0) rfl)) FnIs.out rfl (by decide) ?_
  rintro e_ w84 ⟨A84, c84, rfl, hown_, hb_⟩
  refine ⟨_, rfl, ?_⟩
  replace hh := hh.push_new (x := .row _ _ _ _ _ _) hb_ hown_
  first | (refine wl_guard_skip (by decide) rfl rfl (by decide) ?_) | (refine wl_guard_take rfl rfl ?_; (refine wl_buildSlice hh (cs := [_, _]) UIs.out TIs.out (evp_cons rfl (evp_cons rfl evp_nil)) rfl rfl (by decide) (by decide) (by decide) rfl (by decide) ?_); (intro b85 w85 hh)) | (refine wl_guard_skipV (by decide) rfl rfl ?_)
  refine wl_guard_take rfl rfl ?_
  refine s_callf (bis_calls _ 2 _ _ _ [2, 0] _ (hh.sl_row (i := 1) rfl) (hh.sl_row (i := 0) rfl) (by omega) (i64_lt rfl)) FnIs.out rfl (by decide) ?_
  rintro e_ w86 ⟨rfl, hb_⟩
  refine ⟨_, rfl, ?_⟩
  replace hh := hh.ext hb_
  replace hh := hh.sub (List.Sublist.cons _ (List.Sublist.cons _ (List.Sublist.cons _ (List.Sublist.cons_cons _ (List.Sublist.cons_cons _ (List.Sublist.cons_cons _ (List.Sublist.cons_cons _ List.Sublist.slnil)))))))
  first | refine pkT ?_ | refine pkF ?_
  refine mB ?_
  first | refine gS ?_ | (refine gT ?_; refine mL ?_) | refine gV ?_
  first | (refine wl_guard_skip (by decide) rfl rfl (by decide) ?_) | (refine wl_guard_take rfl rfl ?_; (refine wl_buildSlice hh (cs := [_, _, _, _]) UIs.out TIs.out (evp_cons rfl (evp_cons rfl (evp_cons rfl (evp_cons rfl evp_nil)))) rfl rfl (by decide) (by decide) (by decide) rfl (by decide) ?_); (intro b90 w90 hh)) | (refine wl_guard_skipV (by decide) rfl rfl ?_)
  refine wl_guard_take rfl rfl ?_
  refine s_callf (bof_calls _ 2 _ [(0, 2), (0, 2)] _ (hh.sl_row (i := 0) rfl) (by omega) (by decide)) FnIs.out rfl (by decide) ?_
  rintro e_ w91 ⟨A91, c91, rfl, hown_, hb_⟩
  refine ⟨_, rfl, ?_⟩
  replace hh := hh.push_new (x := .row _ _ _ _ _ _) hb_ hown_
  refine wl_guard_take rfl rfl ?_
  refine s_callf (rbSame_calls _ 2 _ [sp (0, 2), sp (0, 2)] _ _ _ (hh.sl_row (i := 4) rfl) (hh.sl_row (i := 0) rfl) (by omega)) FnIs.out rfl (by decide) ?_
  rintro e_ w92 ⟨rfl, hb_⟩
  refine ⟨_, rfl, ?_⟩
  replace hh := hh.ext hb_
  replace hh := hh.sub (List.Sublist.cons _ (List.Sublist.cons _ (List.Sublist.cons_cons _ (List.Sublist.cons_cons _ (List.Sublist.cons_cons _ (List.Sublist.cons_cons _ List.Sublist.slnil))))))
  first | refine pkT ?_ | refine pkF ?_
  refine mB ?_
  first | refine gS ?_ | (refine gT ?_; refine mL ?_) | refine gV ?_
  first | (refine wl_guard_skip (by decide) rfl rfl (by decide) ?_) | (refine wl_guard_take rfl rfl ?_; (refine wl_buildSlice hh (cs := [_, _, _, _]) UIs.out TIs.out (evp_cons rfl (evp_cons rfl (evp_cons rfl (evp_cons rfl evp_nil)))) rfl rfl (by decide) (by decide) (by decide) rfl (by decide) ?_); (intro b96 w96 hh)) | (refine wl_guard_skipV (by decide) rfl rfl ?_)
  refine wl_guard_take rfl rfl ?_
  refine s_callf (bof_calls _ 2 _ [(2, 4), (0, 2)] _ (hh.sl_row (i := 0) rfl) (by omega) (by decide)) FnIs.out rfl (by decide) ?_
  rintro e_ w97 ⟨A97, c97, rfl, hown_, hb_⟩
  refine ⟨_, rfl, ?_⟩
  replace hh := hh.push_new (x := .row _ _ _ _ _ _) hb_ hown_
  refine wl_guard_take rfl rfl ?_
  refine s_callf (rbSame_calls _ 2 _ [sp (2, 4), sp (0, 2)] _ _ _ (hh.sl_row (i := 3) rfl) (hh.sl_row (i := 0) rfl) (by omega)) FnIs.out rfl (by decide) ?_
  rintro e_ w98 ⟨rfl, hb_⟩
  refine ⟨_, rfl, ?_⟩
  replace hh := hh.ext hb_
  replace hh := hh.sub (List.Sublist.cons _ (List.Sublist.cons _ (List.Sublist.cons_cons _ (List.Sublist.cons_cons _ (List.Sublist.cons_cons _ (List.Sublist.cons_cons _ List.Sublist.slnil))))))
  first | refine pkT ?_ | refine pkF ?_
  refine mB ?_
  first | refine gS ?_ | (refine gT ?_; refine mI ?_) | refine gV ?_
  first | refine gS ?_ | (refine gT ?_; refine eqlC ?_) | refine gV ?_
  first | refine pkT ?_ | refine pkF ?_
  refine mB ?_
  first | refine gS ?_ | (refine gT ?_; refine mI ?_) | refine gV ?_
  first | refine gS ?_ | (refine gT ?_; refine eqlC ?_) | refine gV ?_
  first | refine pkT ?_ | refine pkF ?_
  refine mB ?_
  first | refine gS ?_ | (refine gT ?_; refine mL ?_) | refine gV ?_
  first | (refine wl_guard_skip (by decide) rfl rfl (by decide) ?_) | (refine wl_guard_take rfl rfl ?_; (refine wl_buildSlice hh (cs := [_, _, _, _]) UIs.out TIs.out (evp_cons rfl (evp_cons rfl (evp_cons rfl (evp_cons rfl evp_nil)))) rfl rfl (by decide) (by decide) (by decide) rfl (by decide) ?_); (intro b110 w110 hh)) | (refine wl_guard_skipV (by decide) rfl rfl ?_)
  refine wl_guard_take rfl rfl ?_
  refine s_callf (bof_calls _ 2 _ [(2, 4), (0, 1)] _ (hh.sl_row (i := 0) rfl) (by omega) (by decide)) FnIs.out rfl (by decide) ?_
  rintro e_ w111 ⟨A111, c111, rfl, hown_, hb_⟩
  refine ⟨_, rfl, ?_⟩
  replace hh := hh.push_new (x := .row _ _ _ _ _ _) hb_ hown_
  refine wl_guard_take rfl rfl ?_
  refine s_callf (rbSame_calls _ 2 _ [sp (2, 4), sp (0, 1)] _ _ _ (hh.sl_row (i := 2) rfl) (hh.sl_row (i := 0) rfl) (by omega)) FnIs.out rfl (by decide) ?_
  rintro e_ w112 ⟨rfl, hb_⟩
  refine ⟨_, rfl, ?_⟩
  replace hh := hh.ext hb_
  replace hh := hh.sub (List.Sublist.cons _ (List.Sublist.cons _ (List.Sublist.cons_cons _ (List.Sublist.cons_cons _ (List.Sublist.cons_cons _ (List.Sublist.cons_cons _ List.Sublist.slnil))))))
  first | refine pkT ?_ | refine pkF ?_
  refine mB ?_
  first | refine gS ?_ | (refine gT ?_; refine mI ?_) | refine gV ?_
  first | refine gS ?_ | (refine gT ?_; refine eqlC ?_) | refine gV ?_
  first | refine pkT ?_ | refine pkF ?_
  refine mB ?_
  first | refine gS ?_ | (refine gT ?_; refine mI ?_) | refine gV ?_
  first | refine gS ?_ | (refine gT ?_; refine eqlC ?_) | refine gV ?_
  first | refine pkT ?_ | refine pkF ?_
  refine mB ?_
  first | refine gS ?_ | (refine gT ?_; refine mL ?_) | refine gV ?_
  first | refine gS ?_ | (refine gT ?_; refine mL ?_) | refine gV ?_
  refine wl_guard_take rfl rfl ?_
  refine s_callf (hmid _ _ _ (hT.hp hh) (hh.sl_row (i := 3) rfl)) FnIs.out rfl (by decide) ?_
  rintro e_ w125 ⟨A125, c125, rfl, hown_, hb_⟩
  refine ⟨_, rfl, ?_⟩
  replace hh := hh.push_new (x := .row _ _ _ _ _ _) hb_ hown_
  refine wl_guard_take rfl rfl ?_
  refine s_callf (hhas _ _ _ _ _ (hT.hp hh) (hh.sl_row (i := 4) rfl) (hh.sl_row (i := 0) rfl)) FnIs.out rfl (by decide) ?_
  rintro e_ w126 ⟨rfl, hb_⟩
  refine ⟨_, rfl, ?_⟩
  replace hh := hh.ext hb_
  replace hh := hh.sub (List.Sublist.cons _ (List.Sublist.cons_cons _ (List.Sublist.cons_cons _ (List.Sublist.cons_cons _ (List.Sublist.cons_cons _ List.Sublist.slnil)))))
  first | refine pkT ?_ | refine pkF ?_
  refine mB ?_
  first | refine gS ?_ | (refine gT ?_; refine mL ?_) | refine gV ?_
  first | refine gS ?_ | (refine gT ?_; refine mL ?_) | refine gV ?_
  refine wl_guard_take rfl rfl ?_
  refine s_callf (hwi _ _ _ _ _ (hT.hp hh) (hh.sl_row (i := 2) rfl) (hh.sl_row (i := 3) rfl)) FnIs.out rfl (by decide) ?_
  rintro e_ w131 ⟨rfl, hb_⟩
  refine ⟨_, rfl, ?_⟩
  replace hh := hh.ext hb_
  first | refine pkT ?_ | refine pkF ?_
  refine aB (wl_end (wc_ret ?_))
  refine ret1 (by first | exact .inr rfl | exact .inl rfl) rfl (v_bool rfl) ?_
  exact ⟨rfl, hh.below⟩
end Go.Proofs.YthmmofllajkejaaGreatDoor
