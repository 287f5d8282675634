/- The walks through package box, sixth part: the halves of a box. Under way. -/
import Derived.Test.YthmmofllajkejaaGreatDoorShD
import Derived.Test.YthmmofllajkejaaGreatDoorBoxE
import Derived.Test.YthmmofllajkejaaGreatDoorClear
import Derived.Test.YthmmofllajkejaaGreatDoorDraws
namespace Go.Proofs.YthmmofllajkejaaGreatDoor
open Go.RowKit
-- umode
-- skipu
theorem bHalve_bad (L : Option Addr) (n c : Nat) (a : Int) (w : World) (ha : a < 0 ∨ (n : Int) ≤ a) :
    Calls Tryz.prog 48 #[.slice L n c, .int .i64 a] w fun r w' => r = .returned (.tuple #[.slice none 0 0, .slice none 0 0, .int .i64 1]) ∧ Below w.heap.size w w' := by
  have hh := Hp.start w
  by_cases h0 : a < 0
  · refine calls_vc (N := 38) (l := [.slice L n c, .int .i64 a]) Tryz.func48 rfl rfl (by simp) ?_
    refine sr (aL (aL (aI (wl_end (wc_seq (sr (mI ?_)))))))
    refine lssC (mB ?_)
    first | refine gS ?_ | (refine gT ?_; refine mI ?_) | refine gV ?_
    first | refine gS ?_ | (refine gT ?_; refine mL ?_) | refine gV ?_
    first | refine gS ?_ | (refine gT ?_; refine lenC ?_) | refine gV ?_
    first | refine gS ?_ | (refine gT ?_; refine geqC ?_) | refine gV ?_
    first | refine pkT ?_ | refine pkF ?_
    refine wl_end (cT (sr (aL (aL (aI (wl_end (wc_ret (k_ret ?_))))))))
    refine ret3 (by first | exact .inr rfl | exact .inl rfl) rfl (v_sl rfl) (v_sl rfl) (v_int rfl) ?_
    exact ⟨rfl, hh.below⟩
  · refine calls_vc (N := 38) (l := [.slice L n c, .int .i64 a]) Tryz.func48 rfl rfl (by simp) ?_
    refine sr (aL (aL (aI (wl_end (wc_seq (sr (mI ?_)))))))
    refine lssC (mB ?_)
    first | refine gS ?_ | (refine gT ?_; refine mI ?_) | refine gV ?_
    first | refine gS ?_ | (refine gT ?_; refine mL ?_) | refine gV ?_
    first | refine gS ?_ | (refine gT ?_; refine lenC ?_) | refine gV ?_
    first | refine gS ?_ | (refine gT ?_; refine geqC ?_) | refine gV ?_
    first | refine pkT ?_ | refine pkF ?_
    refine wl_end (cT (sr (aL (aL (aI (wl_end (wc_ret (k_ret ?_))))))))
    refine ret3 (by first | exact .inr rfl | exact .inl rfl) rfl (v_sl rfl) (v_sl rfl) (v_int rfl) ?_
    exact ⟨rfl, hh.below⟩
theorem bHalve_calls (L : Option Addr) (n c : Nat) (b : List SR) (a : Nat) (s : SR) (k : Nat) (w : World) (hT : Tab w) (hS : Sl w L n 6 (recs SR.cells b)) (hb : ∀ s ∈ b, s.fin k) (hn : n ≤ 1000000) (hk : k ≤ 3000000) (hs : b[a]? = some s) :
    Calls Tryz.prog 48 #[.slice L n c, .int .i64 a] w fun r w' => ∃ A c1 B c2, r = .returned (.tuple #[.slice A n c1, .slice B n c2, .int .i64 0]) ∧ Hp w [.row B n c2 80 6 (recs SR.cells ((b.map SR.f).set a (s.f.half (nR s.f.mid) true))), .row A n c1 80 6 (recs SR.cells ((b.map SR.f).set a (s.f.half (nR s.f.mid) false)))] w' := by
  have hh := Hp.start w
  have hln := hS.recLen SR.len (by decide)
  have han : a < n := by have := (List.getElem?_eq_some_iff.1 hs).1; omega
  have hfs : (b.map SR.f)[a]? = some s.f := by rw [List.getElem?_map, hs]; rfl
  have hmd := fun w1 hT1 => spMid_calls s.f k w1 hT1 (SR.fin_f (hb s (List.mem_of_getElem? hs)) hk) hk
  refine calls_vc (N := 38) (l := [.slice L n c, .int .i64 a]) Tryz.func48 rfl rfl (by simp) ?_
  refine sr (aL (aL (aI (wl_end (wc_seq (sr (mI ?_)))))))
  refine lssC (mB ?_)
  first | refine gS ?_ | (refine gT ?_; refine mI ?_) | refine gV ?_
  first | refine gS ?_ | (refine gT ?_; refine mL ?_) | refine gV ?_
  first | refine gS ?_ | (refine gT ?_; refine lenC ?_) | refine gV ?_
  first | refine gS ?_ | (refine gT ?_; refine geqC ?_) | refine gV ?_
  first | refine pkT ?_ | refine pkF ?_
  refine wl_end (cF (wc_skip (k_then (sr (mL ?_)))))
  refine s_callf (bForm_calls L n c b _ (hT.hp hh) (hS.ext hh.below) (fun s h => ⟨(hb s h).1.ok, (hb s h).2.ok⟩) hn) FnIs.out rfl (by decide) ?_
  rintro e_ w17 ⟨A17, c17, rfl, hown_, hb_⟩
  refine ⟨_, rfl, ?_⟩
  replace hh := hh.push_new (x := .row _ _ _ _ _ _) hb_ hown_
  obtain ⟨g17, rfl⟩ := hh.row_some (i := 0) rfl (by omega)
  refine aL (wl_end (wc_seq ?_))
  refine wc_drawn 11 [[(0, none)], [(1, none)], [(18, some 0), (19, some 1)], [(20, some 2)], [(0, none)], [(1, none)], [(22, some 4), (23, some 5)], [(24, some 6)], [(25, some 7)], [(21, some 3), (26, some 8)], []] [(10, 7), (9, 27), (8, 26), (7, 25), (6, 24), (5, 23), (4, 22), (3, 21), (2, 20), (1, 19), (0, 18)] hh mixed (by kernel_rfl) ?_
  refine dmL ?_
  refine dmI ?_
  refine dix (a) ?_
  refine dLF [_,_,_,_,_,_] (fun _ hj => hj.hp.recRow (f := SR.cells) (x := s.f) (l := b.map SR.f) (i := 0) rfl SR.len (by decide) hfs) ?_
  refine dmL ?_
  refine dmI ?_
  refine dix (a) ?_
  refine dLF [_,_,_,_,_,_] (fun _ hj => hj.hp.recRow (f := SR.cells) (x := s.f) (l := b.map SR.f) (i := 0) rfl SR.len (by decide) hfs) ?_
  refine dC (fun _ hj => hmd _ (hT.hp hj.hp)) ?_
  refine dB [_,_,_,_,_,_,_,_,_] ?_
  refine dx_gen (i := 10) (NewVar _ 114 _) NewVar.ext (fun ρ1 w1 hj hR => og_alloc TIs.out hj.bl (fun v w2 h hb => ⟨hb, h⟩)) ?_
  refine dx_nil ?_
  intro f W hJ hV
  have hb_4 := hJ.bl
  obtain ⟨v7, v27, v26, v25, v24, v23, v22, v21, v20, v19, v18, _⟩ := hV
  obtain ⟨b7, e7, hl7, hc7⟩ : NewVar _ _ _ (f 10) W := v7
  replace hh := hJ.newVar hh hl7 hc7
  refine wl_cast (updL_K (eql_cons e7 (eql_cons v27 (eql_cons v26 (eql_cons v25 (eql_cons v24 (eql_cons v23 (eql_cons v22 (eql_cons v21 (eql_cons v20 (eql_cons v19 (eql_cons v18 eql_nil)))))))))))) ?_
  dsimp only [updK]
  clear e7 hJ
  refine stC hh 0 [_,_,_,_,_,_,_,_,_] ?_
  intro ws hh
  replace hh : Hp _ (.blk _ _ [_, _, _, _, _, _, _, _, _] _ :: _) _ := hh
  refine wl_end (wc_seq ?_)
  refine wc_drawn 9 [[(0, none)], [(1, none)], [(7, none)], [(30, some 2)], [(28, some 0), (29, some 1), (31, some 3)], [(0, none)], [(1, none)], [(7, none)], [(35, some 7)]] [(8, 36), (7, 35), (6, 34), (5, 33), (4, 32), (3, 31), (2, 30), (1, 29), (0, 28)] hh mixed (by kernel_rfl) ?_
  refine dmL ?_
  refine dmI ?_
  refine dlg 0 [_,_,_,_,_,_,_,_,_] ?_
  refine dC (fun _ hj => bhalf_calls s.f (nR s.f.mid) false _) ?_
  refine dx_gen (i := 4) (OwnV ws.heap.size 80 n 6 (recs SR.cells ((b.map SR.f).set a (s.f.half (nR s.f.mid) false)))) (OwnV.ext) ?_ ?_
  · intro ρ1 w1 hj hR
    exact og_enter rfl (run_callf FnIs.out (evs_cons hR.1 (evs_cons hR.2.1 (evs_cons hR.2.2.1 evs_nil)))) (bwith_calls (some ⟨g17, 0, none⟩) n c17 a (b.map SR.f) _ w1 (hj.hp.sl_row (i := 1) rfl) hn han) (fun _ _ ⟨A, c, hq, ho, hb⟩ => ⟨_, hq, hb, A, c, rfl, owns_lower ho hj.bl.size⟩)
  refine dmL ?_
  refine dmI ?_
  refine dlg 0 [_,_,_,_,_,_,_,_,_] ?_
  refine dC (fun _ hj => bhalf_calls s.f (nR s.f.mid) true _) ?_
  refine dx_nil ?_
  intro f W hJ hV
  have hb_5 := hJ.bl
  obtain ⟨v36, v35, v34, v33, v32, v31, v30, v29, v28, _⟩ := hV
  obtain ⟨A32, c32, e32, o32⟩ : OwnV _ _ _ _ _ (f 4) W := v32
  replace hh := JJ.newOwn hh hJ.hp o32
  clear o32
  refine wl_cast (updL_K (eql_cons v36 (eql_cons v35 (eql_cons v34 (eql_cons v33 (eql_cons e32 (eql_cons v31 (eql_cons v30 (eql_cons v29 (eql_cons v28 eql_nil)))))))))) ?_
  dsimp only [updK]
  clear e32 hJ
  refine s_callf (bwith_calls (some ⟨g17, 0, none⟩) n c17 a (b.map SR.f) _ _ (hh.sl_row (i := 2) rfl) hn han) FnIs.out rfl (by decide) ?_
  rintro e_ w37 ⟨A37, c37, rfl, hown_, hb_⟩
  refine ⟨_, rfl, ?_⟩
  replace hh := hh.push_new (x := .row _ _ _ _ _ _) hb_ hown_
  refine aL (aL (aI (wl_end (wc_ret ?_))))
  replace hh := hh.sub (List.Sublist.cons_cons _ (List.Sublist.cons_cons _ (List.Sublist.cons _ (List.Sublist.cons _ List.Sublist.slnil))))
  refine ret3 (by first | exact .inr rfl | exact .inl rfl) rfl (v_sl rfl) (v_sl rfl) (v_int rfl) ?_
  exact ⟨_, _, _, _, rfl, hh⟩
end Go.Proofs.YthmmofllajkejaaGreatDoor
