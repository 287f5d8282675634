/- The walks through package span: spans as they count, what lies in them, their width and middle. -/
import Derived.Test.YthmmofllajkejaaGreatDoorDyads
namespace Go.Proofs.YthmmofllajkejaaGreatDoor
open Go.RowKit
-- umode
structure SR where
  lo : NR
  hi : NR
def SR.cells (s : SR) : List Value := [.bool s.lo.neg, .string s.lo.mag, .int .i64 s.lo.e, .bool s.hi.neg, .string s.hi.mag, .int .i64 s.hi.e]
theorem SR.len (s : SR) : (SR.cells s).length = 6 := rfl
theorem SR.one (s : SR) : (SR.cells s).all Value.oneCell' = true := rfl
def loD (x y : Dyadic) : Dyadic := if y < x then y else x
def hiD (x y : Dyadic) : Dyadic := if x < y then y else x
theorem best2_lo (x y : Dyadic) : bestD (fun x y => decide (x < y)) [x, y] = loD x y := by simp [bestD, loD]
theorem best2_hi (x y : Dyadic) : bestD (fun x y => decide (y < x)) [x, y] = hiD x y := by simp [bestD, hiD]
def SR.L (s : SR) : Dyadic := loD s.lo.d s.hi.d
def SR.H (s : SR) : Dyadic := hiD s.lo.d s.hi.d
/-- A span as it counts. -/
def SR.f (s : SR) : SR := ⟨nR s.L, nR s.H⟩
def SR.ok (s : SR) : Prop := s.lo.ok ∧ s.hi.ok
def SR.has (s : SR) (x : Dyadic) : Bool := decide (¬ x < s.L ∧ ¬ s.H < x)
def SR.wid (s : SR) : Dyadic := s.H - s.L
def SR.mid (s : SR) : Dyadic := (s.lo.d + s.hi.d) * twoD (-1)
theorem lo_mem (x y : Dyadic) : loD x y = x ∨ loD x y = y := by unfold loD; split <;> simp
theorem hi_mem (x y : Dyadic) : hiD x y = x ∨ hiD x y = y := by unfold hiD; split <;> simp
theorem lo_le_hi (x y : Dyadic) : ¬ hiD x y < loD x y := by unfold hiD loD; split <;> split <;> grind
/-- Numbers of a size. -/
structure Fin_ (k : Nat) (a : NR) : Prop where
  ok : a.ok
  sz : Sz k a.d
def SR.fin (k : Nat) (s : SR) : Prop := Fin_ k s.lo ∧ Fin_ k s.hi
theorem Fin_.of {k : Nat} {x : Dyadic} (h : Sz k x) (hk : k ≤ 3000000) : Fin_ k (nR x) := ⟨h.ok (by omega), by rw [nR_d]; exact h⟩
theorem SR.szL {k : Nat} {s : SR} (h : s.fin k) : Sz k s.L := by
  unfold SR.L
  rcases lo_mem s.lo.d s.hi.d with e | e <;> rw [e]
  · exact h.1.sz
  · exact h.2.sz
theorem SR.szH {k : Nat} {s : SR} (h : s.fin k) : Sz k s.H := by
  unfold SR.H
  rcases hi_mem s.lo.d s.hi.d with e | e <;> rw [e]
  · exact h.1.sz
  · exact h.2.sz
theorem SR.fin_f {k : Nat} {s : SR} (h : s.fin k) (hk : k ≤ 3000000) : s.f.fin k := ⟨Fin_.of (SR.szL h) hk, Fin_.of (SR.szH h) hk⟩
theorem spOf_calls (L : Option Addr) (n c : Nat) (l : List NR) (w : World) (hT : Tab w) (hS : Sl w L n 3 (recs NR.cells l)) (hl : ∀ a ∈ l, a.ok) (hn : n ≤ 1000000) :
    Calls Tryz.prog 137 #[.slice L n c] w fun r w' => r = .returned (.agg (SR.cells ⟨nR (bestD (fun x y => decide (x < y)) (l.map NR.d)), nR (bestD (fun x y => decide (y < x)) (l.map NR.d))⟩).toArray) ∧ Below w.heap.size w w' := by
  have hh := Hp.start w
  refine calls_vc (N := 8) (l := [.slice L n c]) Tryz.func137 rfl rfl (by simp) ?_
  refine sr ?_
  refine alC hh ?_
  intro b2 w2 hh
  refine wl_end (sr (mL ?_))
  refine s_callf (dMin_calls L n c l _ (hT.hp hh) (hS.ext hh.below) hl hn) FnIs.out rfl (by decide) ?_
  rintro e_ w4 ⟨rfl, hb_⟩
  refine ⟨_, rfl, ?_⟩
  replace hh := hh.ext hb_
  refine mL ?_
  refine s_callf (dMax_calls L n c l _ (hT.hp hh) (hS.ext hh.below) hl hn) FnIs.out rfl (by decide) ?_
  rintro e_ w6 ⟨rfl, hb_⟩
  refine ⟨_, rfl, ?_⟩
  replace hh := hh.ext hb_
  refine bdC [_,_,_,_,_,_] ?_
  refine stC hh 0 [_,_,_,_,_,_] ?_
  intro ws hh
  replace hh : Hp _ (.blk _ _ [_, _, _, _, _, _] _ :: _) _ := hh
  refine wl_end (wc_ret ?_)
  refine retc1 (by first | exact .inr rfl | exact .inl rfl) rfl (r_cell rfl (lv_agg (vs := [_, _, _, _, _, _]) TIs.out (hh.rd_blk_at (i := 0) (n := 6) rfl rfl) rfl) r_nil) ?_
  exact ⟨rfl, hh.below⟩
theorem spof_calls (s : SR) (w : World) (hT : Tab w) (hs : s.ok) :
    Calls Tryz.prog 108 #[.agg s.cells.toArray] w fun r w' => r = .returned (.agg s.f.cells.toArray) ∧ Below w.heap.size w w' := by
  have hh := Hp.start w
  have hc := fun L c w1 hT1 hS1 => spOf_calls L 2 c [s.lo, s.hi] w1 hT1 hS1 (by simpa using show s.lo.ok ∧ s.hi.ok from hs) (by omega)
  simp only [List.map_cons, List.map_nil, best2_lo, best2_hi] at hc
  refine calls_vc (N := 10) (l := [.agg s.cells.toArray]) Tryz.func108 rfl rfl (by simp) ?_
  refine sr ?_
  refine bxC hh [_,_,_,_,_,_] ?_
  intro b1 w1 hh
  refine alC hh ?_
  intro b2 w2 hh
  refine wl_end (sr (faC ?_))
  refine lgC hh 1 [_,_,_] (faC ?_)
  refine lgC hh 1 [_,_,_] ?_
  refine wl_buildSlice hh (cs := [_, _, _, _, _, _]) UIs.out TIs.out (evp_cons (ev_agg rfl) (evp_cons (ev_agg rfl) evp_nil)) rfl rfl (by decide) (by decide) (by decide) rfl (by decide) ?_
  intro b7 w7 hh
  refine s_callf (hc _ _ _ (hT.hp hh) (hh.sl_row (i := 0) rfl)) FnIs.out rfl (by decide) ?_
  rintro e_ w8 ⟨rfl, hb_⟩
  refine ⟨_, rfl, ?_⟩
  replace hh := hh.ext hb_
  refine bdC [_,_,_,_,_,_] ?_
  refine stC hh 1 [_,_,_,_,_,_] ?_
  intro ws hh
  replace hh : Hp _ (_ :: .blk _ _ [_, _, _, _, _, _] _ :: _) _ := hh
  refine wl_end (wc_ret ?_)
  refine retc1 (by first | exact .inr rfl | exact .inl rfl) rfl (r_cell rfl (lv_agg (vs := [_, _, _, _, _, _]) TIs.out (hh.rd_blk_at (i := 1) (n := 6) rfl rfl) rfl) r_nil) ?_
  exact ⟨rfl, hh.below⟩
theorem spForm_calls (s : SR) (w : World) (hT : Tab w) (hs : s.ok) :
    Calls Tryz.prog 89 #[.agg s.cells.toArray] w fun r w' => r = .returned (.agg s.f.cells.toArray) ∧ Below w.heap.size w w' := by
  have hh := Hp.start w
  refine calls_vc (N := 6) (l := [.agg s.cells.toArray]) Tryz.func89 rfl rfl (by simp) ?_
  refine sr ?_
  refine bxC hh [_,_,_,_,_,_] ?_
  intro b1 w1 hh
  refine alC hh ?_
  intro b2 w2 hh
  refine wl_end (sr ?_)
  refine lgC hh 1 [_,_,_,_,_,_] ?_
  refine s_callf (spof_calls s _ (hT.hp hh) hs) FnIs.out rfl (by decide) ?_
  rintro e_ w4 ⟨rfl, hb_⟩
  refine ⟨_, rfl, ?_⟩
  replace hh := hh.ext hb_
  first | refine s_field1 FIs.out TIs.out rfl rfl (by decide) ?_ | refine s_field FIs.out TIs.out rfl rfl (by decide) ?_
  refine stC hh 0 [_,_,_,_,_,_] ?_
  intro ws hh
  replace hh : Hp _ (.blk _ _ [_, _, _, _, _, _] _ :: _) _ := hh
  refine wl_end (wc_ret ?_)
  refine retc1 (by first | exact .inr rfl | exact .inl rfl) rfl (r_cell rfl (lv_agg (vs := [_, _, _, _, _, _]) TIs.out (hh.rd_blk_at (i := 0) (n := 6) rfl rfl) rfl) r_nil) ?_
  exact ⟨rfl, hh.below⟩
theorem cmp_le (x y : Dyadic) : (cmpD x y ≤ 0) ↔ ¬ y < x := by
  rcases d_tri x y with h | h | h
  · rw [cmpD_of_lt h]; exact ⟨fun _ => by grind, fun _ => by omega⟩
  · rw [h, cmpD_self]; exact ⟨fun _ => by grind, fun _ => by omega⟩
  · rw [cmpD_of_gt h]; exact ⟨fun h2 => by omega, fun h2 => absurd h h2⟩
theorem spHas_calls (s : SR) (a : NR) (k : Nat) (w : World) (hT : Tab w) (hs : s.fin k) (ha : a.ok) (hk : k ≤ 3000000) :
    Calls Tryz.prog 92 #[.agg s.cells.toArray, .agg #[.bool a.neg, .string a.mag, .int .i64 a.e]] w fun r w' => r = .returned (.bool (s.has a.d)) ∧ Below w.heap.size w w' := by
  have hh := Hp.start w
  have hf := SR.fin_f hs hk
  have h1 := fun w1 hT1 => dCmp_calls (nR s.L) a w1 hT1 hf.1.ok ha
  have h2 := fun w1 hT1 => dCmp_calls a (nR s.H) w1 hT1 ha hf.2.ok
  simp only [nR_d] at h1 h2
  have e1 := cmp_le s.L a.d
  have e2 := cmp_le a.d s.H
  generalize cmpD s.L a.d = c1 at *
  generalize cmpD a.d s.H = c2 at *
  unfold SR.has
  by_cases g1 : c1 ≤ 0
  · by_cases g2 : c2 ≤ 0
    · refine calls_vc (N := 22) (l := [.agg s.cells.toArray, .agg #[.bool a.neg, .string a.mag, .int .i64 a.e]]) Tryz.func92 rfl rfl (by simp) ?_
      refine sr ?_
      refine bxC hh [_,_,_,_,_,_] ?_
      intro b2 w2 hh
      refine bxC hh [_,_,_] ?_
      intro b3 w3 hh
      refine aB (wl_end (sr ?_))
      refine lgC hh 1 [_,_,_,_,_,_] ?_
      refine s_callf (spof_calls s _ (hT.hp hh) ⟨hs.1.ok, hs.2.ok⟩) FnIs.out rfl (by decide) ?_
      rintro e_ w7 ⟨rfl, hb_⟩
      refine ⟨_, rfl, ?_⟩
      replace hh := hh.ext hb_
      refine alC hh ?_
      intro b5 w5 hh
      refine stC hh 0 [_,_,_,_,_,_] ?_
      intro ws hh
      replace hh : Hp _ (.blk _ _ [_, _, _, _, _, _] _ :: _) _ := hh
      refine wl_end (sr (faC (faC ?_)))
      refine lgC hh 0 [_,_,_] ?_
      refine lgC hh 1 [_,_,_] ?_
      refine s_callf (h1 _ (hT.hp hh)) FnIs.out rfl (by decide) ?_
      rintro e_ w12 ⟨rfl, hb_⟩
      refine ⟨_, rfl, ?_⟩
      replace hh := hh.ext hb_
      refine leqC (mB ?_)
      first | refine gS ?_ | (refine gT ?_; refine lgC hh 1 [_,_,_] ?_) | refine gV ?_
      first | refine gS ?_ | (refine gT ?_; refine faC ?_) | refine gV ?_
      first | refine gS ?_ | (refine gT ?_; refine faC ?_) | refine gV ?_
      first | refine gS ?_ | (refine gT ?_; refine lgC hh 0 [_,_,_] ?_) | refine gV ?_
      refine wl_guard_take rfl rfl ?_
      refine s_callf (h2 _ (hT.hp hh)) FnIs.out rfl (by decide) ?_
      rintro e_ w19 ⟨rfl, hb_⟩
      refine ⟨_, rfl, ?_⟩
      replace hh := hh.ext hb_
      first | refine gS ?_ | (refine gT ?_; refine leqC ?_) | refine gV ?_
      first | refine pkT ?_ | refine pkF ?_
      refine aB (wl_end (wc_ret ?_))
      refine ret1 (by first | exact .inr rfl | exact .inl rfl) rfl (v_bool rfl) ?_
      exact ⟨by rw [decide_eq_true ⟨e1.1 g1, e2.1 g2⟩], hh.below⟩
    · refine calls_vc (N := 22) (l := [.agg s.cells.toArray, .agg #[.bool a.neg, .string a.mag, .int .i64 a.e]]) Tryz.func92 rfl rfl (by simp) ?_
      refine sr ?_
      refine bxC hh [_,_,_,_,_,_] ?_
      intro b2 w2 hh
      refine bxC hh [_,_,_] ?_
      intro b3 w3 hh
      refine aB (wl_end (sr ?_))
      refine lgC hh 1 [_,_,_,_,_,_] ?_
      refine s_callf (spof_calls s _ (hT.hp hh) ⟨hs.1.ok, hs.2.ok⟩) FnIs.out rfl (by decide) ?_
      rintro e_ w7 ⟨rfl, hb_⟩
      refine ⟨_, rfl, ?_⟩
      replace hh := hh.ext hb_
      refine alC hh ?_
      intro b5 w5 hh
      refine stC hh 0 [_,_,_,_,_,_] ?_
      intro ws hh
      replace hh : Hp _ (.blk _ _ [_, _, _, _, _, _] _ :: _) _ := hh
      refine wl_end (sr (faC (faC ?_)))
      refine lgC hh 0 [_,_,_] ?_
      refine lgC hh 1 [_,_,_] ?_
      refine s_callf (h1 _ (hT.hp hh)) FnIs.out rfl (by decide) ?_
      rintro e_ w12 ⟨rfl, hb_⟩
      refine ⟨_, rfl, ?_⟩
      replace hh := hh.ext hb_
      refine leqC (mB ?_)
      first | refine gS ?_ | (refine gT ?_; refine lgC hh 1 [_,_,_] ?_) | refine gV ?_
      first | refine gS ?_ | (refine gT ?_; refine faC ?_) | refine gV ?_
      first | refine gS ?_ | (refine gT ?_; refine faC ?_) | refine gV ?_
      first | refine gS ?_ | (refine gT ?_; refine lgC hh 0 [_,_,_] ?_) | refine gV ?_
      refine wl_guard_take rfl rfl ?_
      refine s_callf (h2 _ (hT.hp hh)) FnIs.out rfl (by decide) ?_
      rintro e_ w19 ⟨rfl, hb_⟩
      refine ⟨_, rfl, ?_⟩
      replace hh := hh.ext hb_
      first | refine gS ?_ | (refine gT ?_; refine leqC ?_) | refine gV ?_
      first | refine pkT ?_ | refine pkF ?_
      refine aB (wl_end (wc_ret ?_))
      refine ret1 (by first | exact .inr rfl | exact .inl rfl) rfl (v_bool rfl) ?_
      exact ⟨by rw [decide_eq_false fun h => g2 (e2.2 h.2)], hh.below⟩
  · refine calls_vc (N := 22) (l := [.agg s.cells.toArray, .agg #[.bool a.neg, .string a.mag, .int .i64 a.e]]) Tryz.func92 rfl rfl (by simp) ?_
    refine sr ?_
    refine bxC hh [_,_,_,_,_,_] ?_
    intro b2 w2 hh
    refine bxC hh [_,_,_] ?_
    intro b3 w3 hh
    refine aB (wl_end (sr ?_))
    refine lgC hh 1 [_,_,_,_,_,_] ?_
    refine s_callf (spof_calls s _ (hT.hp hh) ⟨hs.1.ok, hs.2.ok⟩) FnIs.out rfl (by decide) ?_
    rintro e_ w7 ⟨rfl, hb_⟩
    refine ⟨_, rfl, ?_⟩
    replace hh := hh.ext hb_
    refine alC hh ?_
    intro b5 w5 hh
    refine stC hh 0 [_,_,_,_,_,_] ?_
    intro ws hh
    replace hh : Hp _ (.blk _ _ [_, _, _, _, _, _] _ :: _) _ := hh
    refine wl_end (sr (faC (faC ?_)))
    refine lgC hh 0 [_,_,_] ?_
    refine lgC hh 1 [_,_,_] ?_
    refine s_callf (h1 _ (hT.hp hh)) FnIs.out rfl (by decide) ?_
    rintro e_ w12 ⟨rfl, hb_⟩
    refine ⟨_, rfl, ?_⟩
    replace hh := hh.ext hb_
    refine leqC (mB ?_)
    first | refine gS ?_ | (refine gT ?_; refine lgC hh 1 [_,_,_] ?_) | refine gV ?_
    first | refine gS ?_ | (refine gT ?_; refine faC ?_) | refine gV ?_
    first | refine gS ?_ | (refine gT ?_; refine faC ?_) | refine gV ?_
    first | refine gS ?_ | (refine gT ?_; refine lgC hh 0 [_,_,_] ?_) | refine gV ?_
    refine wl_guard_skip (by decide) rfl rfl (by decide) ?_
    first | refine gS ?_ | (refine gT ?_; refine leqC ?_) | refine gV ?_
    first | refine pkT ?_ | refine pkF ?_
    refine aB (wl_end (wc_ret ?_))
    refine ret1 (by first | exact .inr rfl | exact .inl rfl) rfl (v_bool rfl) ?_
    exact ⟨by rw [decide_eq_false fun h => g1 (e1.2 h.1)], hh.below⟩
theorem spWithin_calls (s t : SR) (k : Nat) (w : World) (hT : Tab w) (hs : s.ok) (ht : t.fin k) (hk : k ≤ 3000000) :
    Calls Tryz.prog 94 #[.agg s.cells.toArray, .agg t.cells.toArray] w fun r w' => r = .returned (.bool (t.has s.lo.d && t.has s.hi.d)) ∧ Below w.heap.size w w' := by
  have hh := Hp.start w
  have h1 := fun w1 hT1 => spHas_calls t s.lo k w1 hT1 ht hs.1 hk
  have h2 := fun w1 hT1 => spHas_calls t s.hi k w1 hT1 ht hs.2 hk
  cases g1 : t.has s.lo.d with
  | true =>
    rw [g1] at h1
    refine calls_vc (N := 15) (l := [.agg s.cells.toArray, .agg t.cells.toArray]) Tryz.func94 rfl rfl (by simp) ?_
    refine sr ?_
    refine bxC hh [_,_,_,_,_,_] ?_
    intro b2 w2 hh
    refine bxC hh [_,_,_,_,_,_] ?_
    intro b3 w3 hh
    refine aB (wl_end (sr ?_))
    refine lgC hh 0 [_,_,_,_,_,_] (faC ?_)
    refine lgC hh 1 [_,_,_] ?_
    refine s_callf (h1 _ (hT.hp hh)) FnIs.out rfl (by decide) ?_
    rintro e_ w8 ⟨rfl, hb_⟩
    refine ⟨_, rfl, ?_⟩
    replace hh := hh.ext hb_
    refine mB ?_
    first | refine gS ?_ | (refine gT ?_; refine lgC hh 0 [_,_,_,_,_,_] ?_) | refine gV ?_
    first | refine gS ?_ | (refine gT ?_; refine faC ?_) | refine gV ?_
    first | refine gS ?_ | (refine gT ?_; refine lgC hh 1 [_,_,_] ?_) | refine gV ?_
    refine wl_guard_take rfl rfl ?_
    refine s_callf (h2 _ (hT.hp hh)) FnIs.out rfl (by decide) ?_
    rintro e_ w13 ⟨rfl, hb_⟩
    refine ⟨_, rfl, ?_⟩
    replace hh := hh.ext hb_
    first | refine pkT ?_ | refine pkF ?_
    refine aB (wl_end (wc_ret ?_))
    refine ret1 (by first | exact .inr rfl | exact .inl rfl) rfl (v_bool rfl) ?_
    exact ⟨rfl, hh.below⟩
  | false =>
    rw [g1] at h1
    refine calls_vc (N := 15) (l := [.agg s.cells.toArray, .agg t.cells.toArray]) Tryz.func94 rfl rfl (by simp) ?_
    refine sr ?_
    refine bxC hh [_,_,_,_,_,_] ?_
    intro b2 w2 hh
    refine bxC hh [_,_,_,_,_,_] ?_
    intro b3 w3 hh
    refine aB (wl_end (sr ?_))
    refine lgC hh 0 [_,_,_,_,_,_] (faC ?_)
    refine lgC hh 1 [_,_,_] ?_
    refine s_callf (h1 _ (hT.hp hh)) FnIs.out rfl (by decide) ?_
    rintro e_ w8 ⟨rfl, hb_⟩
    refine ⟨_, rfl, ?_⟩
    replace hh := hh.ext hb_
    refine mB ?_
    first | refine gS ?_ | (refine gT ?_; refine lgC hh 0 [_,_,_,_,_,_] ?_) | refine gV ?_
    first | refine gS ?_ | (refine gT ?_; refine faC ?_) | refine gV ?_
    first | refine gS ?_ | (refine gT ?_; refine lgC hh 1 [_,_,_] ?_) | refine gV ?_
    refine wl_guard_skip (by decide) rfl rfl (by decide) ?_
    first | refine pkT ?_ | refine pkF ?_
    refine aB (wl_end (wc_ret ?_))
    refine ret1 (by first | exact .inr rfl | exact .inl rfl) rfl (v_bool rfl) ?_
    exact ⟨rfl, hh.below⟩
theorem spWidth_calls (s : SR) (k : Nat) (w : World) (hT : Tab w) (hs : s.fin k) (hk : k ≤ 3000000) :
    Calls Tryz.prog 53 #[.agg s.cells.toArray] w fun r w' => r = .returned (.agg #[.bool (nR s.wid).neg, .string (nR s.wid).mag, .int .i64 (nR s.wid).e]) ∧ Below w.heap.size w w' := by
  have hh := Hp.start w
  have hf := SR.fin_f hs hk
  have hc := fun w1 hT1 => dSub_calls (nR s.H) (nR s.L) w1 hT1 hf.2.ok hf.1.ok k hf.2.sz hf.1.sz (by omega)
  simp only [nR_d] at hc
  refine calls_vc (N := 13) (l := [.agg s.cells.toArray]) Tryz.func53 rfl rfl (by simp) ?_
  refine sr ?_
  refine bxC hh [_,_,_,_,_,_] ?_
  intro b1 w1 hh
  refine alC hh ?_
  intro b2 w2 hh
  refine wl_end (sr ?_)
  refine lgC hh 1 [_,_,_,_,_,_] ?_
  refine s_callf (spof_calls s _ (hT.hp hh) ⟨hs.1.ok, hs.2.ok⟩) FnIs.out rfl (by decide) ?_
  rintro e_ w5 ⟨rfl, hb_⟩
  refine ⟨_, rfl, ?_⟩
  replace hh := hh.ext hb_
  refine alC hh ?_
  intro b3 w3 hh
  refine stC hh 0 [_,_,_,_,_,_] ?_
  intro ws hh
  replace hh : Hp _ (.blk _ _ [_, _, _, _, _, _] _ :: _) _ := hh
  refine wl_end (sr (faC (faC ?_)))
  refine lgC hh 0 [_,_,_] (faC (faC ?_))
  refine lgC hh 0 [_,_,_] ?_
  refine s_callf (hc _ (hT.hp hh)) FnIs.out rfl (by decide) ?_
  rintro e_ w12 ⟨rfl, hb_⟩
  refine ⟨_, rfl, ?_⟩
  replace hh := hh.ext hb_
  refine stC hh 1 [_,_,_] ?_
  intro ws hh
  replace hh : Hp _ (_ :: .blk _ _ [_, _, _] _ :: _) _ := hh
  refine wl_end (wc_ret ?_)
  refine retc1 (by first | exact .inr rfl | exact .inl rfl) rfl (r_cell rfl (lv_agg (vs := [_, _, _]) TIs.out (hh.rd_blk_at (i := 1) (n := 3) rfl rfl) rfl) r_nil) ?_
  exact ⟨rfl, hh.below⟩
theorem spMid_calls (s : SR) (k : Nat) (w : World) (hT : Tab w) (hs : s.fin k) (hk : k ≤ 3000000) :
    Calls Tryz.prog 100 #[.agg s.cells.toArray] w fun r w' => r = .returned (.agg #[.bool (nR s.mid).neg, .string (nR s.mid).mag, .int .i64 (nR s.mid).e]) ∧ Below w.heap.size w w' := by
  have hh := Hp.start w
  have hc := fun L c w1 hT1 hS1 => dAdd_calls L 2 c [s.lo, s.hi] w1 hT1 hS1 (by simpa using And.intro hs.1.ok hs.2.ok) k (by simpa using And.intro hs.1.sz hs.2.sz) (by omega)
  simp only [List.map_cons, List.map_nil, sumD_two] at hc
  have ho := (hs.1.sz.add hs.2.sz).ok (by omega)
  have hsh := fun w1 hT1 => dShift_calls (nR (s.lo.d + s.hi.d)) (-1) w1 hT1 (by have := ho.1; omega) (by have := ho.2; omega) (by have := ho.2; omega) (by omega) (by omega)
  rw [nR_d] at hsh
  refine calls_vc (N := 10) (l := [.agg s.cells.toArray]) Tryz.func100 rfl rfl (by simp) ?_
  refine sr ?_
  refine bxC hh [_,_,_,_,_,_] ?_
  intro b1 w1 hh
  refine alC hh ?_
  intro b2 w2 hh
  refine wl_end (sr (faC ?_))
  refine lgC hh 1 [_,_,_] (faC ?_)
  refine lgC hh 1 [_,_,_] ?_
  refine wl_buildSlice hh (cs := [_, _, _, _, _, _]) UIs.out TIs.out (evp_cons (ev_agg rfl) (evp_cons (ev_agg rfl) evp_nil)) rfl rfl (by decide) (by decide) (by decide) rfl (by decide) ?_
  intro b7 w7 hh
  refine s_callf (hc _ _ _ (hT.hp hh) (hh.sl_row (i := 0) rfl)) FnIs.out rfl (by decide) ?_
  rintro e_ w8 ⟨rfl, hb_⟩
  refine ⟨_, rfl, ?_⟩
  replace hh := hh.ext hb_
  refine s_callf (hsh _ (hT.hp hh)) FnIs.out rfl (by decide) ?_
  rintro e_ w9 ⟨rfl, hb_⟩
  refine ⟨_, rfl, ?_⟩
  replace hh := hh.ext hb_
  refine stC hh 1 [_,_,_] ?_
  intro ws hh
  replace hh : Hp _ (_ :: .blk _ _ [_, _, _] _ :: _) _ := hh
  refine wl_end (wc_ret ?_)
  refine retc1 (by first | exact .inr rfl | exact .inl rfl) rfl (r_cell rfl (lv_agg (vs := [_, _, _]) TIs.out (hh.rd_blk_at (i := 1) (n := 3) rfl rfl) rfl) r_nil) ?_
  exact ⟨rfl, hh.below⟩
end Go.Proofs.YthmmofllajkejaaGreatDoor
