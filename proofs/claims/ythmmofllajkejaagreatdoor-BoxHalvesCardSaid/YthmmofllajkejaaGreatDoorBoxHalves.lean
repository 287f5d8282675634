/- The walk through the law BoxHalves. -/
import Derived.Test.YthmmofllajkejaaGreatDoorBoxT
namespace Go.Proofs.YthmmofllajkejaaGreatDoor
open Go.RowKit
-- umode
-- skipu
theorem vol_sz {b : List SR} {k : Nat} (hb : ∀ s ∈ b, s.fin k) (h8 : b.length ≤ 8) (hk : k ≤ 1000) : Sz 9000 (volB b) := by
  have := Sz.prod (k := k + 1) (l := b.map SR.wid) (fun y hy => by
    obtain ⟨a, ha, rfl⟩ := List.mem_map.1 hy
    exact SR.szw (hb a ha))
  rw [List.length_map] at this
  have h2 : (k + 1) * b.length ≤ 1001 * 8 := Nat.mul_le_mul (by omega) h8
  exact this.mono (by omega)
theorem boxHalves_calls (L : Option Addr) (n c : Nat) (b : List SR) (ax : Int) (K : Option Addr) (q c3 : Nat) (p : List NR) (w : World) (hT : Tab w) (hS : Sl w L n 6 (recs SR.cells b)) (hS3 : Sl w K q 3 (recs NR.cells p)) :
    Calls Tryz.prog 8 #[.slice L n c, .int .i64 ax, .slice K q c3] w fun r w' => r = .returned (.bool true) ∧ Below w.heap.size w w' := by
  have hh := Hp.start w
  have hln := hS.recLen SR.len (by decide)
  have hlq := hS3.recLen NR.len (by decide)
  cases g1 : vastB b p with
  | true =>
    refine calls_vc (N := 83) (l := [.slice L n c, .int .i64 ax, .slice K q c3]) Tryz.func8 rfl rfl (by simp) ?_
    refine sr (aB (wl_end (wc_seq (sr (mL (mL ?_))))))
    refine s_callf (bvast_calls L n c b K q c3 p _ (hS.ext hh.below) (hS3.ext hh.below)) FnIs.out rfl (by decide) ?_
    rintro e_ w13 ⟨rfl, hb_⟩
    refine ⟨_, rfl, ?_⟩
    replace hh := hh.ext hb_
    rw [g1]
    refine wl_end (cT (sr ?_))
    refine s_callf (bawake_calls _ (hT.hp hh)) FnIs.out rfl (by decide) ?_
    rintro e_ w14 ⟨rfl, hb_⟩
    refine ⟨_, rfl, ?_⟩
    replace hh := hh.ext hb_
    refine aB (wl_end (wc_ret (k_ret ?_)))
    refine ret1 (by first | exact .inr rfl | exact .inl rfl) rfl (v_bool rfl) ?_
    exact ⟨rfl, hh.below⟩
  | false =>
    obtain ⟨v1, v2, v3, v4⟩ := vast_no g1
    by_cases hbad : ax < 0 ∨ (n : Int) ≤ ax
    · by_cases h0 : ax < 0
      · refine calls_vc (N := 83) (l := [.slice L n c, .int .i64 ax, .slice K q c3]) Tryz.func8 rfl rfl (by simp) ?_
        refine sr (aB (wl_end (wc_seq (sr (mL (mL ?_))))))
        refine s_callf (bvast_calls L n c b K q c3 p _ (hS.ext hh.below) (hS3.ext hh.below)) FnIs.out rfl (by decide) ?_
        rintro e_ w13 ⟨rfl, hb_⟩
        refine ⟨_, rfl, ?_⟩
        replace hh := hh.ext hb_
        rw [g1]
        refine wl_end (cF (wc_skip (k_then (sr (mL (mI ?_))))))
        refine s_callf (bHalve_bad _ n _ ax _ hbad) FnIs.out rfl (by decide) ?_
        rintro e_ w18 ⟨rfl, hb_⟩
        refine ⟨_, rfl, ?_⟩
        replace hh := hh.ext hb_
        refine mT ?_
        refine exC ?_
        refine exC ?_
        refine exC ?_
        refine aL (aL (aI (wl_end (wc_seq (sr (mI ?_))))))
        refine neqC (wl_end (cT (sr (mI ?_))))
        refine lssC (mB ?_)
        first | refine gS ?_ | (refine gT ?_; refine mI ?_) | refine gV ?_
        first | refine gS ?_ | (refine gT ?_; refine mL ?_) | refine gV ?_
        first | refine gS ?_ | (refine gT ?_; refine lenC ?_) | refine gV ?_
        first | refine gS ?_ | (refine gT ?_; refine geqC ?_) | refine gV ?_
        first | refine pkT ?_ | refine pkF ?_
        refine mB ?_
        refine wl_guard_take rfl rfl ?_
        refine s_callf (bawake_calls _ (hT.hp hh)) FnIs.out rfl (by decide) ?_
        rintro e_ w33 ⟨rfl, hb_⟩
        refine ⟨_, rfl, ?_⟩
        replace hh := hh.ext hb_
        first | refine pkT ?_ | refine pkF ?_
        refine aB (wl_end (wc_ret (k_ret ?_)))
        refine ret1 (by first | exact .inr rfl | exact .inl rfl) rfl (v_bool rfl) ?_
        exact ⟨rfl, hh.below⟩
      · refine calls_vc (N := 83) (l := [.slice L n c, .int .i64 ax, .slice K q c3]) Tryz.func8 rfl rfl (by simp) ?_
        refine sr (aB (wl_end (wc_seq (sr (mL (mL ?_))))))
        refine s_callf (bvast_calls L n c b K q c3 p _ (hS.ext hh.below) (hS3.ext hh.below)) FnIs.out rfl (by decide) ?_
        rintro e_ w13 ⟨rfl, hb_⟩
        refine ⟨_, rfl, ?_⟩
        replace hh := hh.ext hb_
        rw [g1]
        refine wl_end (cF (wc_skip (k_then (sr (mL (mI ?_))))))
        refine s_callf (bHalve_bad _ n _ ax _ hbad) FnIs.out rfl (by decide) ?_
        rintro e_ w18 ⟨rfl, hb_⟩
        refine ⟨_, rfl, ?_⟩
        replace hh := hh.ext hb_
        refine mT ?_
        refine exC ?_
        refine exC ?_
        refine exC ?_
        refine aL (aL (aI (wl_end (wc_seq (sr (mI ?_))))))
        refine neqC (wl_end (cT (sr (mI ?_))))
        refine lssC (mB ?_)
        first | refine gS ?_ | (refine gT ?_; refine mI ?_) | refine gV ?_
        first | refine gS ?_ | (refine gT ?_; refine mL ?_) | refine gV ?_
        first | refine gS ?_ | (refine gT ?_; refine lenC ?_) | refine gV ?_
        first | refine gS ?_ | (refine gT ?_; refine geqC ?_) | refine gV ?_
        first | refine pkT ?_ | refine pkF ?_
        refine mB ?_
        refine wl_guard_take rfl rfl ?_
        refine s_callf (bawake_calls _ (hT.hp hh)) FnIs.out rfl (by decide) ?_
        rintro e_ w33 ⟨rfl, hb_⟩
        refine ⟨_, rfl, ?_⟩
        replace hh := hh.ext hb_
        first | refine pkT ?_ | refine pkF ?_
        refine aB (wl_end (wc_ret (k_ret ?_)))
        refine ret1 (by first | exact .inr rfl | exact .inl rfl) rfl (v_bool rfl) ?_
        exact ⟨rfl, hh.below⟩
    · obtain ⟨a, hax⟩ : ∃ a : Nat, (a : Int) = ax := ⟨ax.toNat, by omega⟩
      obtain ⟨s, hs⟩ := get_of_lt (l := b) (k := a) (by omega)
      have hx1 := fun A c0 w1 hT1 hS1 => bHalve_calls A n c0 b a s 440 w1 hT1 hS1 v3 (by omega) (by omega) hs
      rw [hax] at hx1
      have fX := halfB_fin hs v3 (by omega) false
      have fY := halfB_fin hs v3 (by omega) true
      have lX := halfB_len b a s false
      have lY := halfB_len b a s true
      have okp : ∀ x ∈ p, x.ok := fun x hx => (v4 x hx).ok
      have hk1 : (440 + 1) * n ≤ 441 * 8 := Nat.mul_le_mul_left _ (by omega)
      have hk2 : (442 + 1) * n ≤ 443 * 8 := Nat.mul_le_mul_left _ (by omega)
      have hhb := fun A c0 M m0 w1 hT1 hS1 hS2 => bHas_calls A n c0 b M q m0 p 440 w1 hT1 hS1 hS2 v3 okp (by omega) (by omega) (by omega)
      have hhx := fun A c0 M m0 w1 hT1 hS1 hS2 => bHas_calls A n c0 (halfB b a s false) M q m0 p 442 w1 hT1 hS1 hS2 fX okp (by omega) (by omega) (by omega)
      have hhy := fun A c0 M m0 w1 hT1 hS1 hS2 => bHas_calls A n c0 (halfB b a s true) M q m0 p 442 w1 hT1 hS1 hS2 fY okp (by omega) (by omega) (by omega)
      have hwx := fun A c0 M m0 w1 hT1 hS1 hS2 => bWithin_calls A n c0 (halfB b a s false) M n m0 b 440 w1 hT1 hS1 hS2 (fun x hx => ⟨(fX x hx).1.ok, (fX x hx).2.ok⟩) v3 (by omega) (by omega) (by omega)
      have hwy := fun A c0 M m0 w1 hT1 hS1 hS2 => bWithin_calls A n c0 (halfB b a s true) M n m0 b 440 w1 hT1 hS1 hS2 (fun x hx => ⟨(fY x hx).1.ok, (fY x hx).2.ok⟩) v3 (by omega) (by omega) (by omega)
      simp only [within_half hs] at hwx hwy
      have sX := vol_sz fX (by omega) (by omega)
      have sY := vol_sz fY (by omega) (by omega)
      have hadd := fun A cc w1 hT1 hS1 => dAdd_calls A 2 cc [nR (volB (halfB b a s false)), nR (volB (halfB b a s true))] w1 hT1 hS1 (by simpa using ⟨sX.ok (by omega), sY.ok (by omega)⟩) 9000 (by simpa [nR_d] using ⟨sX, sY⟩) (by omega)
      rw [show sumD ([nR (volB (halfB b a s false)), nR (volB (halfB b a s true))].map NR.d) = volB b by simp only [List.map_cons, List.map_nil, nR_d, sumD_two]; exact vol_halves hs] at hadd
      have hmid := fun A c0 w1 hT1 hS1 => bMid_calls A n c0 b 440 w1 hT1 hS1 v3 (by omega) (by omega)
      have okm : ∀ x ∈ b.mapIdx (fun _ s => nR s.f.mid), x.ok := fun x hx => by
        obtain ⟨i, hi, rfl⟩ := List.mem_mapIdx.1 hx
        have h1 := v3 b[i] (List.getElem_mem _)
        have h2 := SR.fin_f h1 (by omega)
        exact (Sz.mid h2.1.sz h2.2.sz).ok (by omega)
      have hmx := fun A c0 M m0 w1 hT1 hS1 hS2 => bHas_calls A n c0 (halfB b a s false) M n m0 (b.mapIdx fun _ s => nR s.f.mid) 442 w1 hT1 hS1 hS2 fX okm (by omega) (by omega) (by omega)
      have hmy := fun A c0 M m0 w1 hT1 hS1 hS2 => bHas_calls A n c0 (halfB b a s true) M n m0 (b.mapIdx fun _ s => nR s.f.mid) 442 w1 hT1 hS1 hS2 fY okm (by omega) (by omega) (by omega)
      simp only [has_mid hs] at hmx hmy
      cases g2 : hasB (halfB b a s false) p with
      | true =>
        simp only [has_halves hs p, g2, Bool.true_or] at hhb hhx
        refine calls_vc (N := 83) (l := [.slice L n c, .int .i64 ax, .slice K q c3]) Tryz.func8 rfl rfl (by simp) ?_
        refine sr (aB (wl_end (wc_seq (sr (mL (mL ?_))))))
        refine s_callf (bvast_calls L n c b K q c3 p _ (hS.ext hh.below) (hS3.ext hh.below)) FnIs.out rfl (by decide) ?_
        rintro e_ w13 ⟨rfl, hb_⟩
        refine ⟨_, rfl, ?_⟩
        replace hh := hh.ext hb_
        rw [g1]
        refine wl_end (cF (wc_skip (k_then (sr (mL (mI ?_))))))
        refine s_callf (hx1 _ _ _ (hT.hp hh) (hS.ext hh.below)) FnIs.out rfl (by decide) ?_
        rintro e_ w18 ⟨Ax, cx, Ay, cy, rfl, h2⟩
        refine ⟨_, rfl, ?_⟩
        replace hh : Hp w [.row Ay n cy 80 6 (recs SR.cells (halfB b a s true)), .row Ax n cx 80 6 (recs SR.cells (halfB b a s false))] _ := hh.join h2
        clear h2
        refine mT ?_
        refine exC ?_
        refine exC ?_
        refine exC ?_
        refine aL (aL (aI (wl_end (wc_seq (sr (mI ?_))))))
        refine neqC (wl_end (cF (wc_skip (k_then (wc_seq (sr (mL (mL ?_))))))))
        refine s_callf (hhb _ _ _ _ _ (hT.hp hh) (hS.ext hh.below) (hS3.ext hh.below)) FnIs.out rfl (by decide) ?_
        rintro e_ w37 ⟨rfl, hb_⟩
        refine ⟨_, rfl, ?_⟩
        replace hh := hh.ext hb_
        refine mL (mL ?_)
        refine s_callf (hhx _ _ _ _ _ (hT.hp hh) (hh.sl_row (i := 1) rfl) (hS3.ext hh.below)) FnIs.out rfl (by decide) ?_
        rintro e_ w40 ⟨rfl, hb_⟩
        refine ⟨_, rfl, ?_⟩
        replace hh := hh.ext hb_
        refine mB ?_
        first | refine gS ?_ | (refine gT ?_; refine mL ?_) | refine gV ?_
        first | refine gS ?_ | (refine gT ?_; refine mL ?_) | refine gV ?_
        refine wl_guard_skip (by decide) rfl rfl (by decide) ?_
        first | refine pkT ?_ | refine pkF ?_
        first | refine s_neb_f UIs.out rfl rfl (by first | rfl | assumption) (by decide) ?_ | refine s_neb_t UIs.out rfl rfl (by first | assumption | decide) (by decide) ?_ | refine s_neq_bool UIs.out rfl rfl (by decide) ?_
        refine mB ?_
        first | refine gS ?_ | (refine gT ?_; refine mL ?_) | refine gV ?_
        first | refine gS ?_ | (refine gT ?_; refine mL ?_) | refine gV ?_
        refine wl_guard_take rfl rfl ?_
        refine s_callf (hwx _ _ _ _ _ (hT.hp hh) (hh.sl_row (i := 1) rfl) (hS.ext hh.below)) FnIs.out rfl (by decide) ?_
        rintro e_ w50 ⟨rfl, hb_⟩
        refine ⟨_, rfl, ?_⟩
        replace hh := hh.ext hb_
        first | refine gS ?_ | (refine gT ?_; refine notC ?_) | refine gV ?_
        first | refine pkT ?_ | refine pkF ?_
        refine mB ?_
        first | refine gS ?_ | (refine gT ?_; refine mL ?_) | refine gV ?_
        first | refine gS ?_ | (refine gT ?_; refine mL ?_) | refine gV ?_
        refine wl_guard_take rfl rfl ?_
        refine s_callf (hwy _ _ _ _ _ (hT.hp hh) (hh.sl_row (i := 0) rfl) (hS.ext hh.below)) FnIs.out rfl (by decide) ?_
        rintro e_ w56 ⟨rfl, hb_⟩
        refine ⟨_, rfl, ?_⟩
        replace hh := hh.ext hb_
        first | refine gS ?_ | (refine gT ?_; refine notC ?_) | refine gV ?_
        first | refine pkT ?_ | refine pkF ?_
        refine mB ?_
        first | refine gS ?_ | (refine gT ?_; refine mL ?_) | refine gV ?_
        refine wl_guard_take rfl rfl ?_
        refine s_callf (bVolume_calls _ n _ (halfB b a s false) 442 _ (hT.hp hh) (hh.sl_row (i := 1) rfl) fX (by omega) (by omega) (by omega)) FnIs.out rfl (by decide) ?_
        rintro e_ w61 ⟨rfl, hb_⟩
        refine ⟨_, rfl, ?_⟩
        replace hh := hh.ext hb_
        first | refine gS ?_ | (refine gT ?_; refine mL ?_) | refine gV ?_
        refine wl_guard_take rfl rfl ?_
        refine s_callf (bVolume_calls _ n _ (halfB b a s true) 442 _ (hT.hp hh) (hh.sl_row (i := 0) rfl) fY (by omega) (by omega) (by omega)) FnIs.out rfl (by decide) ?_
        rintro e_ w63 ⟨rfl, hb_⟩
        refine ⟨_, rfl, ?_⟩
        replace hh := hh.ext hb_
        refine wl_guard_take rfl rfl ?_
        refine wl_buildSlice hh (cs := [_, _, _, _, _, _]) UIs.out TIs.out (evp_cons (ev_agg rfl) (evp_cons (ev_agg rfl) evp_nil)) rfl rfl (by decide) (by decide) (by decide) rfl (by decide) ?_
        intro b64 w64 hh
        refine wl_guard_take rfl rfl ?_
        refine s_callf (hadd _ _ _ (hT.hp hh) (hh.sl_row (i := 0) rfl)) FnIs.out rfl (by decide) ?_
        rintro e_ w65 ⟨rfl, hb_⟩
        refine ⟨_, rfl, ?_⟩
        replace hh := hh.ext hb_
        replace hh := hh.sub (List.sublist_cons_self _ _)
        first | refine gS ?_ | (refine gT ?_; refine mL ?_) | refine gV ?_
        refine wl_guard_take rfl rfl ?_
        refine s_callf (bVolume_calls _ n _ b 440 _ (hT.hp hh) (hS.ext hh.below) v3 (by omega) (by omega) (by omega)) FnIs.out rfl (by decide) ?_
        rintro e_ w67 ⟨rfl, hb_⟩
        refine ⟨_, rfl, ?_⟩
        replace hh := hh.ext hb_
        first | refine gS ?_ | (refine gT ?_; (first | refine s_neN_f rfl rfl (by first | assumption | rfl) (by decide) ?_ | refine s_neN_t rfl rfl (by assumption) (by decide) ?_)) | refine gV ?_
        first | refine pkT ?_ | refine pkF ?_
        refine wl_end (cF (wc_skip (k_then (sr (mL ?_)))))
        refine s_callf (hmid _ _ _ (hT.hp hh) (hS.ext hh.below)) FnIs.out rfl (by decide) ?_
        rintro e_ w71 ⟨A71, c71, rfl, hown_, hb_⟩
        refine ⟨_, rfl, ?_⟩
        replace hh := hh.push_new (x := .row _ _ _ _ _ _) hb_ hown_
        refine aL (wl_end (sr (mL (mL ?_))))
        refine s_callf (hmx _ _ _ _ _ (hT.hp hh) (hh.sl_row (i := 2) rfl) (hh.sl_row (i := 0) rfl)) FnIs.out rfl (by decide) ?_
        rintro e_ w74 ⟨rfl, hb_⟩
        refine ⟨_, rfl, ?_⟩
        replace hh := hh.ext hb_
        refine mB ?_
        first | refine gS ?_ | (refine gT ?_; refine mL ?_) | refine gV ?_
        first | refine gS ?_ | (refine gT ?_; refine mL ?_) | refine gV ?_
        refine wl_guard_take rfl rfl ?_
        refine s_callf (hmy _ _ _ _ _ (hT.hp hh) (hh.sl_row (i := 1) rfl) (hh.sl_row (i := 0) rfl)) FnIs.out rfl (by decide) ?_
        rintro e_ w78 ⟨rfl, hb_⟩
        refine ⟨_, rfl, ?_⟩
        replace hh := hh.ext hb_
        first | refine pkT ?_ | refine pkF ?_
        refine mB ?_
        refine wl_guard_take rfl rfl ?_
        refine s_callf (bawake_calls _ (hT.hp hh)) FnIs.out rfl (by decide) ?_
        rintro e_ w81 ⟨rfl, hb_⟩
        refine ⟨_, rfl, ?_⟩
        replace hh := hh.ext hb_
        first | refine pkT ?_ | refine pkF ?_
        refine aB (wl_end (wc_ret ?_))
        refine ret1 (by first | exact .inr rfl | exact .inl rfl) rfl (v_bool rfl) ?_
        exact ⟨rfl, hh.below⟩
      | false =>
        simp only [has_halves hs p, g2, Bool.false_or] at hhb hhx
        refine calls_vc (N := 83) (l := [.slice L n c, .int .i64 ax, .slice K q c3]) Tryz.func8 rfl rfl (by simp) ?_
        refine sr (aB (wl_end (wc_seq (sr (mL (mL ?_))))))
        refine s_callf (bvast_calls L n c b K q c3 p _ (hS.ext hh.below) (hS3.ext hh.below)) FnIs.out rfl (by decide) ?_
        rintro e_ w13 ⟨rfl, hb_⟩
        refine ⟨_, rfl, ?_⟩
        replace hh := hh.ext hb_
        rw [g1]
        refine wl_end (cF (wc_skip (k_then (sr (mL (mI ?_))))))
        refine s_callf (hx1 _ _ _ (hT.hp hh) (hS.ext hh.below)) FnIs.out rfl (by decide) ?_
        rintro e_ w18 ⟨Ax, cx, Ay, cy, rfl, h2⟩
        refine ⟨_, rfl, ?_⟩
        replace hh : Hp w [.row Ay n cy 80 6 (recs SR.cells (halfB b a s true)), .row Ax n cx 80 6 (recs SR.cells (halfB b a s false))] _ := hh.join h2
        clear h2
        refine mT ?_
        refine exC ?_
        refine exC ?_
        refine exC ?_
        refine aL (aL (aI (wl_end (wc_seq (sr (mI ?_))))))
        refine neqC (wl_end (cF (wc_skip (k_then (wc_seq (sr (mL (mL ?_))))))))
        refine s_callf (hhb _ _ _ _ _ (hT.hp hh) (hS.ext hh.below) (hS3.ext hh.below)) FnIs.out rfl (by decide) ?_
        rintro e_ w37 ⟨rfl, hb_⟩
        refine ⟨_, rfl, ?_⟩
        replace hh := hh.ext hb_
        refine mL (mL ?_)
        refine s_callf (hhx _ _ _ _ _ (hT.hp hh) (hh.sl_row (i := 1) rfl) (hS3.ext hh.below)) FnIs.out rfl (by decide) ?_
        rintro e_ w40 ⟨rfl, hb_⟩
        refine ⟨_, rfl, ?_⟩
        replace hh := hh.ext hb_
        refine mB ?_
        first | refine gS ?_ | (refine gT ?_; refine mL ?_) | refine gV ?_
        first | refine gS ?_ | (refine gT ?_; refine mL ?_) | refine gV ?_
        refine wl_guard_take rfl rfl ?_
        refine s_callf (hhy _ _ _ _ _ (hT.hp hh) (hh.sl_row (i := 0) rfl) (hS3.ext hh.below)) FnIs.out rfl (by decide) ?_
        rintro e_ w44 ⟨rfl, hb_⟩
        refine ⟨_, rfl, ?_⟩
        replace hh := hh.ext hb_
        first | refine pkT ?_ | refine pkF ?_
        first | refine s_neb_f UIs.out rfl rfl (by first | rfl | assumption) (by decide) ?_ | refine s_neb_t UIs.out rfl rfl (by first | assumption | decide) (by decide) ?_ | refine s_neq_bool UIs.out rfl rfl (by decide) ?_
        refine mB ?_
        first | refine gS ?_ | (refine gT ?_; refine mL ?_) | refine gV ?_
        first | refine gS ?_ | (refine gT ?_; refine mL ?_) | refine gV ?_
        refine wl_guard_take rfl rfl ?_
        refine s_callf (hwx _ _ _ _ _ (hT.hp hh) (hh.sl_row (i := 1) rfl) (hS.ext hh.below)) FnIs.out rfl (by decide) ?_
        rintro e_ w50 ⟨rfl, hb_⟩
        refine ⟨_, rfl, ?_⟩
        replace hh := hh.ext hb_
        first | refine gS ?_ | (refine gT ?_; refine notC ?_) | refine gV ?_
        first | refine pkT ?_ | refine pkF ?_
        refine mB ?_
        first | refine gS ?_ | (refine gT ?_; refine mL ?_) | refine gV ?_
        first | refine gS ?_ | (refine gT ?_; refine mL ?_) | refine gV ?_
        refine wl_guard_take rfl rfl ?_
        refine s_callf (hwy _ _ _ _ _ (hT.hp hh) (hh.sl_row (i := 0) rfl) (hS.ext hh.below)) FnIs.out rfl (by decide) ?_
        rintro e_ w56 ⟨rfl, hb_⟩
        refine ⟨_, rfl, ?_⟩
        replace hh := hh.ext hb_
        first | refine gS ?_ | (refine gT ?_; refine notC ?_) | refine gV ?_
        first | refine pkT ?_ | refine pkF ?_
        refine mB ?_
        first | refine gS ?_ | (refine gT ?_; refine mL ?_) | refine gV ?_
        refine wl_guard_take rfl rfl ?_
        refine s_callf (bVolume_calls _ n _ (halfB b a s false) 442 _ (hT.hp hh) (hh.sl_row (i := 1) rfl) fX (by omega) (by omega) (by omega)) FnIs.out rfl (by decide) ?_
        rintro e_ w61 ⟨rfl, hb_⟩
        refine ⟨_, rfl, ?_⟩
        replace hh := hh.ext hb_
        first | refine gS ?_ | (refine gT ?_; refine mL ?_) | refine gV ?_
        refine wl_guard_take rfl rfl ?_
        refine s_callf (bVolume_calls _ n _ (halfB b a s true) 442 _ (hT.hp hh) (hh.sl_row (i := 0) rfl) fY (by omega) (by omega) (by omega)) FnIs.out rfl (by decide) ?_
        rintro e_ w63 ⟨rfl, hb_⟩
        refine ⟨_, rfl, ?_⟩
        replace hh := hh.ext hb_
        refine wl_guard_take rfl rfl ?_
        refine wl_buildSlice hh (cs := [_, _, _, _, _, _]) UIs.out TIs.out (evp_cons (ev_agg rfl) (evp_cons (ev_agg rfl) evp_nil)) rfl rfl (by decide) (by decide) (by decide) rfl (by decide) ?_
        intro b64 w64 hh
        refine wl_guard_take rfl rfl ?_
        refine s_callf (hadd _ _ _ (hT.hp hh) (hh.sl_row (i := 0) rfl)) FnIs.out rfl (by decide) ?_
        rintro e_ w65 ⟨rfl, hb_⟩
        refine ⟨_, rfl, ?_⟩
        replace hh := hh.ext hb_
        replace hh := hh.sub (List.sublist_cons_self _ _)
        first | refine gS ?_ | (refine gT ?_; refine mL ?_) | refine gV ?_
        refine wl_guard_take rfl rfl ?_
        refine s_callf (bVolume_calls _ n _ b 440 _ (hT.hp hh) (hS.ext hh.below) v3 (by omega) (by omega) (by omega)) FnIs.out rfl (by decide) ?_
        rintro e_ w67 ⟨rfl, hb_⟩
        refine ⟨_, rfl, ?_⟩
        replace hh := hh.ext hb_
        first | refine gS ?_ | (refine gT ?_; (first | refine s_neN_f rfl rfl (by first | assumption | rfl) (by decide) ?_ | refine s_neN_t rfl rfl (by assumption) (by decide) ?_)) | refine gV ?_
        first | refine pkT ?_ | refine pkF ?_
        refine wl_end (cF (wc_skip (k_then (sr (mL ?_)))))
        refine s_callf (hmid _ _ _ (hT.hp hh) (hS.ext hh.below)) FnIs.out rfl (by decide) ?_
        rintro e_ w71 ⟨A71, c71, rfl, hown_, hb_⟩
        refine ⟨_, rfl, ?_⟩
        replace hh := hh.push_new (x := .row _ _ _ _ _ _) hb_ hown_
        refine aL (wl_end (sr (mL (mL ?_))))
        refine s_callf (hmx _ _ _ _ _ (hT.hp hh) (hh.sl_row (i := 2) rfl) (hh.sl_row (i := 0) rfl)) FnIs.out rfl (by decide) ?_
        rintro e_ w74 ⟨rfl, hb_⟩
        refine ⟨_, rfl, ?_⟩
        replace hh := hh.ext hb_
        refine mB ?_
        first | refine gS ?_ | (refine gT ?_; refine mL ?_) | refine gV ?_
        first | refine gS ?_ | (refine gT ?_; refine mL ?_) | refine gV ?_
        refine wl_guard_take rfl rfl ?_
        refine s_callf (hmy _ _ _ _ _ (hT.hp hh) (hh.sl_row (i := 1) rfl) (hh.sl_row (i := 0) rfl)) FnIs.out rfl (by decide) ?_
        rintro e_ w78 ⟨rfl, hb_⟩
        refine ⟨_, rfl, ?_⟩
        replace hh := hh.ext hb_
        first | refine pkT ?_ | refine pkF ?_
        refine mB ?_
        refine wl_guard_take rfl rfl ?_
        refine s_callf (bawake_calls _ (hT.hp hh)) FnIs.out rfl (by decide) ?_
        rintro e_ w81 ⟨rfl, hb_⟩
        refine ⟨_, rfl, ?_⟩
        replace hh := hh.ext hb_
        first | refine pkT ?_ | refine pkF ?_
        refine aB (wl_end (wc_ret ?_))
        refine ret1 (by first | exact .inr rfl | exact .inl rfl) rfl (v_bool rfl) ?_
        exact ⟨rfl, hh.below⟩
end Go.Proofs.YthmmofllajkejaaGreatDoor
