/- The walks through package box, ninth part: the point at given parts of a box's widths. -/
import Derived.Test.YthmmofllajkejaaGreatDoorShD
import Derived.Test.YthmmofllajkejaaGreatDoorBoxH
namespace Go.Proofs.YthmmofllajkejaaGreatDoor
open Go.RowKit
-- umode
-- skipu
/-- The coordinate at the part x of a span's width. -/
def SR.at_ (s : SR) (x : Dyadic) : Dyadic := s.lo.d + x * s.wid
theorem bPlace1_bad (i : Nat) (s : SR) (p : Addr) (M : Option Addr) (m c : Nat) (w : World) (him : m ≤ i) (hp : w.cell? p = some (.slice M m c)) :
    Calls Tryz.prog 103 #[.int .i64 i, .agg s.cells.toArray, .pointer (some p)] w fun r w' => r = .returned (.agg #[.bool s.lo.neg, .string s.lo.mag, .int .i64 s.lo.e]) ∧ Below w.heap.size w w' := by
  have hh := Hp.start w
  refine calls_vc (N := 24) (l := [.int .i64 i, .agg s.cells.toArray, .pointer (some p)]) Tryz.func103 rfl rfl (by simp) ?_
  refine sr ?_
  refine bxC hh [_,_,_,_,_,_] ?_
  intro b4 w4 hh
  refine alC hh ?_
  intro b5 w5 hh
  refine wl_end (wc_seq (sr (mI ?_)))
  refine s_load1 TIs.out rfl ((hh.below.cell (cell_lt hp)).trans hp) (by decide) ?_
  refine lenC ?_
  refine geqC (wl_end (cT (sr (faC ?_))))
  refine lgC hh 1 [_,_,_] ?_
  refine stC hh 0 [_,_,_] ?_
  intro ws hh
  replace hh : Hp _ (.blk _ _ [_, _, _] _ :: _) _ := hh
  refine wl_end (wc_ret (k_ret ?_))
  refine retc1 (by first | exact .inr rfl | exact .inl rfl) rfl (r_cell rfl (lv_agg (vs := [_, _, _]) TIs.out (hh.rd_blk_at (i := 0) (n := 3) rfl rfl) rfl) r_nil) ?_
  exact ⟨rfl, hh.below⟩
theorem bPlace1_calls (i : Nat) (s : SR) (p : Addr) (M : Option Addr) (m c k : Nat) (t : List NR) (x : NR) (w : World) (hT : Tab w) (hs : s.fin k) (hx : x.ok ∧ Sz k x.d) (hk : k ≤ 1000000) (hm : m ≤ 1000000) (hS : Sl w M m 3 (recs NR.cells t)) (hti : t[i]? = some x) (hp : w.cell? p = some (.slice M m c)) :
    Calls Tryz.prog 103 #[.int .i64 i, .agg s.cells.toArray, .pointer (some p)] w fun r w' => r = .returned (.agg #[.bool (nR (s.at_ x.d)).neg, .string (nR (s.at_ x.d)).mag, .int .i64 (nR (s.at_ x.d)).e]) ∧ Below w.heap.size w w' := by
  have hh := Hp.start w
  have hlm := hS.recLen NR.len (by decide)
  have him : i < m := by have := (List.getElem?_eq_some_iff.1 hti).1; omega
  obtain ⟨ad, rfl, hr⟩ := hS.at_ (by omega)
  have hw := fun w1 hT1 => spWidth_calls s k w1 hT1 hs (by omega)
  have hmul := fun A cc w1 hT1 hS1 => dMul_calls A 2 cc [x, nR s.wid] w1 hT1 hS1 (by simpa using ⟨hx.1, (SR.szw hs).ok (by omega)⟩) (k + 1) (by simpa [nR_d] using ⟨hx.2.mono (by omega), SR.szw hs⟩) (by omega) (by omega)
  have hpr : prodD ([x, nR s.wid].map NR.d) = x.d * s.wid := by
    show 1 * x.d * (nR s.wid).d = _
    rw [nR_d, Dyadic.one_mul]
  rw [hpr] at hmul
  have hpz : Sz (2 * k + 1) (x.d * s.wid) := (hx.2.mul (SR.szw hs)).mono (by omega)
  have hadd := fun A cc w1 hT1 hS1 => dAdd_calls A 2 cc [s.lo, nR (x.d * s.wid)] w1 hT1 hS1 (by simpa using ⟨hs.1.ok, hpz.ok (by omega)⟩) (2 * k + 1) (by simpa [nR_d] using ⟨hs.1.sz.mono (by omega), hpz⟩) (by omega)
  have hsm : sumD ([s.lo, nR (x.d * s.wid)].map NR.d) = s.at_ x.d := by
    simp only [List.map_cons, List.map_nil, nR_d, sumD_two]; rfl
  rw [hsm] at hadd
  refine calls_vc (N := 24) (l := [.int .i64 i, .agg s.cells.toArray, .pointer (some p)]) Tryz.func103 rfl rfl (by simp) ?_
  refine sr ?_
  refine bxC hh [_,_,_,_,_,_] ?_
  intro b4 w4 hh
  refine alC hh ?_
  intro b5 w5 hh
  refine wl_end (wc_seq (sr (mI ?_)))
  refine s_load1 TIs.out rfl ((hh.below.cell (cell_lt hp)).trans hp) (by decide) ?_
  refine lenC ?_
  refine geqC (wl_end (cF (wc_skip (k_then (wc_seq ?_)))))
  refine wc_drawn 10 [[(4, none)], [(12, some 0)], [(2, none)], [(0, none)], [(14, some 2), (15, some 3)], [(16, some 4)], [(4, none)], [(18, some 6)], [(17, some 5), (19, some 7)], [(20, some 8)]] [(9, 21), (8, 20), (7, 19), (6, 18), (5, 17), (4, 16), (3, 15), (2, 14), (1, 13), (0, 12)] hh mixed (by kernel_rfl) ?_
  refine dfa ?_
  refine dlg 1 [_,_,_] ?_
  refine dlF (fun _ hj => (hj.hp.below.cell (cell_lt hp)).trans hp) ?_
  refine dmI ?_
  refine dx_val (i := 4) (fun ρ1 w1 hj hR => x_indexAddr UIs.out TIs.size (show ρ1 14 = Value.slice _ _ _ from hR.1) (show ρ1 15 = Value.int _ _ from hR.2.1) (by omega) (by omega)) ?_
  refine dLF [_,_,_] (fun _ hj => (hr.ext hj.hp.below).recAt NR.len hti) ?_
  refine dlg 1 [_,_,_,_,_,_] ?_
  refine dC (fun _ hj => hw _ (hT.hp hj.hp)) ?_
  refine dBS [_,_,_,_,_,_] ?_
  refine dx_gen (i := 9) (Is (.agg #[.bool (nR (x.d * s.wid)).neg, .string (nR (x.d * s.wid)).mag, .int .i64 (nR (x.d * s.wid)).e])) Is.ext ?_ ?_
  · intro ρ1 w1 hj hR
    obtain ⟨A20, c20, h20, s20⟩ := hR.1
    exact og_enter rfl (run_callf FnIs.out (evs_cons h20 evs_nil)) (hmul A20 c20 _ (hT.hp hj.hp) s20) (fun _ _ hq => ⟨_, hq.1, hq.2, rfl⟩)
  refine dx_nil ?_
  intro f W hJ hV
  have hb_3 := hJ.bl
  obtain ⟨v21, v20, v19, v18, v17, v16, v15, v14, v13, v12, _⟩ := hV
  obtain ⟨A20, c20, e20, f20⟩ : Rows _ _ _ (f 8) W := v20
  replace hh := hJ.hp
  refine wl_cast (updL_K (eql_cons v21 (eql_cons e20 (eql_cons v19 (eql_cons v18 (eql_cons v17 (eql_cons v16 (eql_cons v15 (eql_cons v14 (eql_cons v13 (eql_cons v12 eql_nil))))))))))) ?_
  dsimp only [updK]
  clear e20 hJ
  refine wl_buildSlice hh (cs := [_, _, _, _, _, _]) UIs.out TIs.out (evp_cons (ev_agg rfl) (evp_cons (ev_agg rfl) evp_nil)) rfl rfl (by decide) (by decide) (by decide) rfl (by decide) ?_
  intro b22 w22 hh
  refine s_callf (hadd _ _ _ (hT.hp hh) (hh.sl_row (i := 0) rfl)) FnIs.out rfl (by decide) ?_
  rintro e_ w23 ⟨rfl, hb_⟩
  refine ⟨_, rfl, ?_⟩
  replace hh := hh.ext hb_
  refine stC hh 1 [_,_,_] ?_
  intro ws hh
  replace hh : Hp _ (_ :: .blk _ _ [_, _, _] _ :: _) _ := hh
  refine wl_end (wc_ret ?_)
  refine retc1 (by first | exact .inr rfl | exact .inl rfl) rfl (r_cell rfl (lv_agg (vs := [_, _, _]) TIs.out (hh.rd_blk_at (i := 1) (n := 3) rfl rfl) rfl) r_nil) ?_
  exact ⟨rfl, hh.below⟩
/-- What Place answers on an axis: the part of the width, or the lower end. -/
def placeG (t : List NR) (i : Nat) (s : SR) : NR := match t[i]? with | none => s.lo | some x => nR (s.at_ x.d)
theorem bPlace_calls (L : Option Addr) (n c : Nat) (b : List SR) (M : Option Addr) (m c2 : Nat) (t : List NR) (k : Nat) (w : World) (hT : Tab w) (hS : Sl w L n 6 (recs SR.cells b)) (hb : ∀ s ∈ b, s.fin k) (hS2 : Sl w M m 3 (recs NR.cells t)) (ht : ∀ x ∈ t, x.ok ∧ Sz k x.d) (hn : n ≤ 1000000) (hm : m ≤ 1000000) (hk : k ≤ 1000000) :
    Calls Tryz.prog 46 #[.slice L n c, .slice M m c2] w fun r w' => ∃ A c', r = .returned (.slice A n c') ∧ w'.ownsRow w.heap.size 25 3 (.slice A n c') n (recs NR.cells (b.mapIdx fun i s => placeG t i s.f)) ∧ Below w.heap.size w w' := by
  have hh := Hp.start w
  have hlm := hS2.recLen NR.len (by decide)
  refine calls_vc (N := 8) (l := [.slice L n c, .slice M m c2]) Tryz.func46 rfl rfl (by simp) ?_
  refine sr ?_
  refine bxC hh [_] ?_
  intro b3 w3 hh
  refine aL (wl_end (sr (mL ?_)))
  refine s_makeFunc rfl (evs_cons (ev_ptr rfl) evs_nil) (by decide) ?_
  have hp0 : w3.cell? ⟨b3, 0, none⟩ = some (.slice M m c2) := hh.cell_blk (i := 0) rfl rfl
  have hcl : ∀ (i : Nat) (s : SR) (w1 : World), i < n → b[i]? = some s → Below w3.heap.size w3 w1 → Tab w1 → Calls Tryz.prog 103 #[.int .i64 i, .agg s.f.cells.toArray, .pointer (some ⟨b3, 0, none⟩)] w1 fun r w' => r = .returned (.agg #[.bool (placeG t i s.f).neg, .string (placeG t i s.f).mag, .int .i64 (placeG t i s.f).e]) ∧ Below w1.heap.size w1 w' := fun i s w1 hi hs hw1 hT1 => by
    have hp := (hw1.cell (cell_lt hp0)).trans hp0
    unfold placeG
    rcases hx : t[i]? with _ | x
    · rw [List.getElem?_eq_none_iff] at hx
      exact bPlace1_bad i s.f ⟨b3, 0, none⟩ M m c2 w1 (by omega) hp
    · exact bPlace1_calls i s.f ⟨b3, 0, none⟩ M m c2 k t x w1 hT1 (SR.fin_f (hb s (List.mem_of_getElem? hs)) (by omega)) (ht x (List.mem_of_getElem? hx)) hk hm ((hS2.ext hh.below).ext hw1) hx hp
  refine s_callf (beach_calls L n c b 103 [.pointer (some ⟨b3, 0, none⟩)] (fun i s => placeG t i s.f) _ (hT.hp hh) (hS.ext hh.below) (fun s h => ⟨(hb s h).1.ok, (hb s h).2.ok⟩) hn hcl) FnIs.out rfl (by decide) ?_
  rintro e_ w7 ⟨A7, c7, rfl, hown_, hb_⟩
  refine ⟨_, rfl, ?_⟩
  replace hh := hh.push_new (x := .row _ _ _ _ _ _) hb_ hown_
  refine aL (wl_end (wc_ret ?_))
  refine ret1 (by first | exact .inr rfl | exact .inl rfl) rfl (v_sl rfl) ?_
  exact ⟨_, _, rfl, hh.at_ (i := 0) rfl, hh.below⟩
end Go.Proofs.YthmmofllajkejaaGreatDoor
