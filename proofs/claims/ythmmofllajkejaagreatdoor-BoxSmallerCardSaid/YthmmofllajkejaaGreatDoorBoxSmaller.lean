/- The walk through the law BoxSmaller. -/
import Derived.Test.YthmmofllajkejaaGreatDoorShD
import Derived.Test.YthmmofllajkejaaGreatDoorBoxT
namespace Go.Proofs.YthmmofllajkejaaGreatDoor
open Go.RowKit
-- umode
-- skipu
def bigB (W : Dyadic) (s : SR) : Bool := decide (W < s.wid + s.wid)
theorem wid_f (s : SR) : s.f.wid = s.wid := by unfold SR.wid; rw [SR.f_L, SR.f_H]
theorem wid_half (s : SR) (u : Bool) : (s.f.half (nR s.f.mid) u).wid + (s.f.half (nR s.f.mid) u).wid = s.wid := by
  have h := s.mid_LH
  have e3 : s.wid = s.H - s.L := rfl
  rw [e3]
  cases u with
  | false =>
    have e1 : (s.f.half (nR s.f.mid) false).wid = s.f.mid - s.L := by unfold SR.wid; rw [s.half_lo.1, s.half_lo.2]
    rw [e1]
    generalize s.f.mid = m at *
    grind
  | true =>
    have e1 : (s.f.half (nR s.f.mid) true).wid = s.H - s.f.mid := by unfold SR.wid; rw [s.half_hi.1, s.half_hi.2]
    rw [e1]
    generalize s.f.mid = m at *
    grind
/-- What holds of the box after i halvings. -/
structure Sm (b : List SR) (W : Dyadic) (i : Nat) (c : List SR) : Prop where
  len : c.length = b.length
  fin : ∀ s ∈ c, s.fin (440 + 2 * i)
  inn : ∀ (j : Nat) (t u : SR), b[j]? = some t → c[j]? = some u → ¬ u.L < t.L ∧ ¬ t.H < u.H
  cnt : c.countP (bigB W) + i ≤ b.length ∨ c.countP (bigB W) = 0
  top : ∀ s ∈ c, ¬ W < s.wid
theorem wid_nn (s : SR) : ¬ s.wid < 0 := by
  have := s.le
  unfold SR.wid
  grind
theorem Sm.step {b c : List SR} {W : Dyadic} {i m : Nat} {s : SR} (h : Sm b W i c) (hs : c[m]? = some s) (hmax : ∀ (j : Nat) (t : SR), c[j]? = some t → ¬ s.wid < t.wid) (u : Bool) (hk : 440 + 2 * i + 2 ≤ 3000000) : Sm b W (i + 1) (halfB c m s u) where
  len := by rw [halfB_len, h.len]
  fin := fun x hx => halfB_fin hs h.fin hk u x hx
  inn := fun j t x ht hx => by
    have hb := s.mid_bd
    rcases halfB_get u hs hx with ⟨rfl, rfl⟩ | ⟨t', _, ht', rfl⟩
    · have := h.inn j t s ht hs
      cases u with
      | false => rw [s.half_lo.1, s.half_lo.2]; exact ⟨this.1, by grind⟩
      | true => rw [s.half_hi.1, s.half_hi.2]; exact ⟨by grind, this.2⟩
    · rw [SR.f_L, SR.f_H]
      exact h.inn j t t' ht ht'
  top := fun x hx => by
    obtain ⟨j, hj⟩ := List.mem_iff_getElem?.1 hx
    rcases halfB_get u hs hj with ⟨rfl, rfl⟩ | ⟨t', _, ht', rfl⟩
    · have h1 := wid_half s u
      have h2 := wid_nn (s.f.half (nR s.f.mid) u)
      have h3 := h.top s (List.mem_of_getElem? hs)
      grind
    · rw [wid_f]
      exact h.top t' (List.mem_of_getElem? ht')
  cnt := by
    obtain ⟨l1, l2, rfl, rfl⟩ : ∃ l1 l2, c = l1 ++ s :: l2 ∧ l1.length = m := by
      obtain ⟨h1, h2⟩ := List.getElem?_eq_some_iff.1 hs
      exact ⟨c.take m, c.drop (m + 1), by rw [← h2, ← List.drop_eq_getElem_cons h1, List.take_append_drop], by simp; omega⟩
    have hw : ∀ l : List SR, (l.map SR.f).countP (bigB W) = l.countP (bigB W) := fun l => by
      rw [List.countP_map]
      congr 1
      funext t
      show decide (W < t.f.wid + t.f.wid) = decide (W < t.wid + t.wid)
      rw [wid_f]
    have hx : bigB W (s.f.half (nR s.f.mid) u) = false := by
      unfold bigB
      rw [wid_half, decide_eq_false (h.top s (List.mem_of_getElem? hs))]
    have hv : (halfB (l1 ++ s :: l2) l1.length s u).countP (bigB W) = l1.countP (bigB W) + l2.countP (bigB W) := by
      unfold halfB
      rw [List.map_append, List.map_cons, List.set_append_right _ _ (by simp), List.length_map, Nat.sub_self, List.set_cons_zero, List.countP_append, List.countP_cons, hw, hw, hx]
      simp
    rw [hv]
    have hc := h.cnt
    rw [List.countP_append, List.countP_cons] at hc
    by_cases g : bigB W s = true
    · rw [if_pos g] at hc
      omega
    · right
      have hall : ∀ x ∈ l1 ++ s :: l2, ¬ bigB W x = true := fun x hx hb => by
        obtain ⟨j, hj⟩ := List.mem_iff_getElem?.1 hx
        have := hmax j x hj
        unfold bigB at g hb
        rw [decide_eq_true_eq] at g hb
        grind
      have h0 : (l1 ++ s :: l2).countP (bigB W) = 0 := List.countP_eq_zero.2 hall
      rw [List.countP_append, List.countP_cons] at h0
      omega
theorem wide_some {b : List SR} {v : Int} (h0 : b.length ≠ 0) (h : WideB b v) : ∃ (m : Nat) (s : SR), b[m]? = some s ∧ v = m ∧ ∀ (j : Nat) (t : SR), b[j]? = some t → ¬ s.wid < t.wid := by
  rcases h with ⟨rfl, _⟩ | ⟨m, s, hs, hv, hmax, _⟩
  · exact absurd rfl h0
  · exact ⟨m, s, hs, hv, hmax⟩
theorem boxSmaller_calls (L : Option Addr) (n c : Nat) (b : List SR) (k : Int) (w : World) (hT : Tab w) (hS : Sl w L n 6 (recs SR.cells b)) :
    Calls Tryz.prog 10 #[.slice L n c, .int .i64 k] w fun r w' => r = .returned (.bool true) ∧ Below w.heap.size w w' := by
  have hh := Hp.start w
  have hln := hS.recLen SR.len (by decide)
  cases g1 : vastB b [] with
  | true =>
    refine calls_vc (N := 88) (l := [.slice L n c, .int .i64 k]) Tryz.func10 rfl rfl (by simp) ?_
    refine sr (aB (wl_end (wc_seq (sr (mL ?_)))))
    refine s_callf (bvast_calls L n c b none 0 0 [] _ (hS.ext hh.below) (Sl.nil _ _ _)) FnIs.out rfl (by decide) ?_
    rintro e_ w14 ⟨rfl, hb_⟩
    refine ⟨_, rfl, ?_⟩
    replace hh := hh.ext hb_
    rw [g1]
    refine mB ?_
    first | refine gS ?_ | (refine gT ?_; refine mL ?_) | refine gV ?_
    first | refine gS ?_ | (refine gT ?_; refine lenC ?_) | refine gV ?_
    first | refine gS ?_ | (refine gT ?_; refine eqlC ?_) | refine gV ?_
    first | refine pkT ?_ | refine pkF ?_
    refine wl_end (cT (sr ?_))
    refine s_callf (bawake_calls _ (hT.hp hh)) FnIs.out rfl (by decide) ?_
    rintro e_ w20 ⟨rfl, hb_⟩
    refine ⟨_, rfl, ?_⟩
    replace hh := hh.ext hb_
    refine aB (wl_end (wc_ret (k_ret ?_)))
    refine ret1 (by first | exact .inr rfl | exact .inl rfl) rfl (v_bool rfl) ?_
    exact ⟨rfl, hh.below⟩
  | false =>
    obtain ⟨v1, -, v3, -⟩ := vast_no g1
    by_cases h0 : n = 0
    · refine calls_vc (N := 88) (l := [.slice L n c, .int .i64 k]) Tryz.func10 rfl rfl (by simp) ?_
      refine sr (aB (wl_end (wc_seq (sr (mL ?_)))))
      refine s_callf (bvast_calls L n c b none 0 0 [] _ (hS.ext hh.below) (Sl.nil _ _ _)) FnIs.out rfl (by decide) ?_
      rintro e_ w14 ⟨rfl, hb_⟩
      refine ⟨_, rfl, ?_⟩
      replace hh := hh.ext hb_
      rw [g1]
      refine mB ?_
      first | refine gS ?_ | (refine gT ?_; refine mL ?_) | refine gV ?_
      first | refine gS ?_ | (refine gT ?_; refine lenC ?_) | refine gV ?_
      first | refine gS ?_ | (refine gT ?_; refine eqlC ?_) | refine gV ?_
      first | refine pkT ?_ | refine pkF ?_
      refine wl_end (cT (sr ?_))
      refine s_callf (bawake_calls _ (hT.hp hh)) FnIs.out rfl (by decide) ?_
      rintro e_ w20 ⟨rfl, hb_⟩
      refine ⟨_, rfl, ?_⟩
      replace hh := hh.ext hb_
      refine aB (wl_end (wc_ret (k_ret ?_)))
      refine ret1 (by first | exact .inr rfl | exact .inl rfl) rfl (v_bool rfl) ?_
      exact ⟨rfl, hh.below⟩
    · refine calls_vc (N := 88) (l := [.slice L n c, .int .i64 k]) Tryz.func10 rfl rfl (by simp) ?_
      refine sr (aB (wl_end (wc_seq (sr (mL ?_)))))
      refine s_callf (bvast_calls L n c b none 0 0 [] _ (hS.ext hh.below) (Sl.nil _ _ _)) FnIs.out rfl (by decide) ?_
      rintro e_ w14 ⟨rfl, hb_⟩
      refine ⟨_, rfl, ?_⟩
      replace hh := hh.ext hb_
      rw [g1]
      refine mB ?_
      first | refine gS ?_ | (refine gT ?_; refine mL ?_) | refine gV ?_
      first | refine gS ?_ | (refine gT ?_; refine lenC ?_) | refine gV ?_
      first | refine gS ?_ | (refine gT ?_; refine eqlC ?_) | refine gV ?_
      first | refine pkT ?_ | refine pkF ?_
      refine wl_end (cF (wc_skip (k_then (sr (mL ?_)))))
      refine s_callf (bWidest_calls _ n _ b 440 _ (hT.hp hh) (hS.ext hh.below) v3 (by omega) (by omega)) FnIs.out rfl (by decide) ?_
      rintro e_ w22 ⟨⟨v_, rfl, hv_⟩, hb_⟩
      refine ⟨_, rfl, ?_⟩
      replace hh := hh.ext hb_
      obtain ⟨m, s, hs, rfl, hmax⟩ := wide_some (by omega) hv_
      have hmn := (List.getElem?_eq_some_iff.1 hs).1
      obtain ⟨ad, rfl, hr⟩ := hS.at_ (by omega)
      have h9 := (SR.szw (v3 s (List.mem_of_getElem? hs)))
      refine aI (wl_end (wc_seq (sr (mI ?_))))
      refine lssC (mB ?_)
      first | refine gS ?_ | (refine gT ?_; refine mI ?_) | refine gV ?_
      first | refine gS ?_ | (refine gT ?_; refine mL ?_) | refine gV ?_
      first | refine gS ?_ | (refine gT ?_; refine lenC ?_) | refine gV ?_
      first | refine gS ?_ | (refine gT ?_; refine geqC ?_) | refine gV ?_
      first | refine pkT ?_ | refine pkF ?_
      refine wl_end (cF (wc_skip (k_then (sr (mL (mI ?_))))))
      refine s_indexAddr UIs.out TIs.size rfl rfl (by omega) (by omega) (by decide) ?_
      refine s_load (vs := [_, _, _, _, _, _]) TIs.out rfl ((hr.ext hh.below).recAt SR.len hs) rfl (by decide) ?_
      refine s_callf (spWidth_calls s 440 _ (hT.hp hh) (v3 s (List.mem_of_getElem? hs)) (by omega)) FnIs.out rfl (by decide) ?_
      rintro e_ w35 ⟨rfl, hb_⟩
      refine ⟨_, rfl, ?_⟩
      replace hh := hh.ext hb_
      refine alC hh ?_
      intro b6 w6 hh
      refine stC hh 0 [_,_,_] ?_
      intro ws hh
      replace hh : Hp _ (.blk _ _ [_, _, _] _ :: _) _ := hh
      refine wl_end (sr (mL (aL (wl_end (wc_seq (sr (aI (wl_end (wc_block ?_)))))))))
      have hS0 := hS.ext hh.below
      refine wc_loop2 [4, 7, 8, 9, 10, 11, 37, 38, 39, 40, 41, 42, 43, 44, 45, 46, 47, 48, 49, 50, 51, 52, 53, 54, 55, 56, 57, 58, 59] 7 8
        (fun v7 v w' => ∃ (i c0 : Nat) (A : Option Addr) (cb : List SR), i ≤ n ∧ v = .int .i64 i ∧ v7 = .slice A n c0 ∧ Sm b s.wid i cb ∧ Sl w' A n 6 (recs SR.cells cb) ∧ Hp w [.blk b6 25 [.bool (nR s.wid).neg, .string (nR s.wid).mag, .int .i64 (nR s.wid).e] (0, 0)] w')
        (fun _ v _ => n - (intOf v).toNat) ?_ ?_
      · refine ⟨0, _, _, b, Nat.zero_le _, rfl, rfl, ⟨rfl, v3, fun j t u ht hu => ?_, .inl List.countP_le_length, fun x hx => ?_⟩, hS0, hh⟩
        · rw [ht] at hu
          cases hu
          exact ⟨by grind, by grind⟩
        · obtain ⟨j, hj⟩ := List.mem_iff_getElem?.1 hx
          exact hmax j x hj
      · clear hh hS0
        rintro ρ' v7 v w' ⟨i, c0, A, cb, hi, rfl, rfl, hsm, hS4, hh⟩
        by_cases hlt : i < n
        · refine wc_seq (sr (mI (mL (lenC ?_))))
          refine lssC (wl_end (cT (wc_skip (k_then (wc_seq (wc_block (sr (mL (mL ?_)))))))))
          refine s_callf (bWidest_calls A n c0 cb (440 + 2 * i) _ (hT.hp hh) hS4 hsm.fin (by omega) (by omega)) FnIs.out rfl (by decide) ?_
          rintro e_ w46 ⟨⟨v_, rfl, hv_⟩, hb_⟩
          refine ⟨_, rfl, ?_⟩
          replace hh := hh.ext hb_
          replace hS4 := hS4.ext hb_
          obtain ⟨m2, s2, hs2, rfl, hmax2⟩ := wide_some (by have := hsm.len; omega) hv_
          refine s_callf (bHalve_calls A n c0 cb m2 s2 (440 + 2 * i) _ (hT.hp hh) hS4 hsm.fin (by omega) (by omega) hs2) FnIs.out rfl (by decide) ?_
          rintro e_ w47 ⟨Ax, cx, Ay, cy, rfl, h2⟩
          refine ⟨_, rfl, ?_⟩
          have hy := h2.sl_row (i := 0) rfl
          have hx := h2.sl_row (i := 1) rfl
          replace hh := hh.ext h2.below
          clear h2
          generalize hbit : k.fdiv (2 ^ (min (i : Int).toNat IntKind.i64.bits)) = z
          by_cases gz : z % 2 = 1
          · refine mT ?_
            refine exC ?_
            refine exC ?_
            refine exC ?_
            refine aL (aL (aI (wl_end (wc_seq (sr (mI ?_))))))
            refine neqC (wl_end (cF (wc_skip (k_then (sr (mL (aL (wl_end (sr (mI (mI ?_)))))))))))
            refine s_shr rfl rfl (by omega) (by decide) ?_
            rw [hbit]
            refine s_and1 rfl rfl (by decide) ?_
            refine eqlC (wl_end (cT (wc_region (mL (aL (wl_nil (b_norm (k_then (wc_region (mI ?_))))))))))
            refine addC (aI (wl_nil (k_then ?_)))
            refine ⟨⟨i + 1, _, _, _, by omega, rfl, rfl, hsm.step hs2 hmax2 true (by omega), hy, hh⟩, by show n - (i + 1) < n - i; omega, ?_⟩
            (repeat (first | exact agree_mask _ _ _ | refine agree_upd rfl ?_ | refine agree_mask2 rfl ?_))
          · refine mT ?_
            refine exC ?_
            refine exC ?_
            refine exC ?_
            refine aL (aL (aI (wl_end (wc_seq (sr (mI ?_))))))
            refine neqC (wl_end (cF (wc_skip (k_then (sr (mL (aL (wl_end (sr (mI (mI ?_)))))))))))
            refine s_shr rfl rfl (by omega) (by decide) ?_
            rw [hbit]
            refine s_and1 rfl rfl (by decide) ?_
            refine eqlC (wl_end (cF (wc_skip (b_norm (k_then (wc_region (mI ?_)))))))
            refine addC (aI (wl_nil (k_then ?_)))
            refine ⟨⟨i + 1, _, _, _, by omega, rfl, rfl, hsm.step hs2 hmax2 false (by omega), hx, hh⟩, by show n - (i + 1) < n - i; omega, ?_⟩
            (repeat (first | exact agree_mask _ _ _ | refine agree_upd rfl ?_ | refine agree_mask2 rfl ?_))
        · obtain rfl : i = n := by omega
          have hcnt : ∀ x ∈ cb, ¬ s.wid < x.wid + x.wid := fun x hx hbx => by
            have h5 : cb.countP (bigB s.wid) = 0 := by rcases hsm.cnt with h | h <;> omega
            exact List.countP_eq_zero.1 h5 x hx (by unfold bigB; rw [decide_eq_true hbx])
          have hlc := hsm.len
          have hwi : withinB cb b = true := by
            rw [withinB_iff]
            refine ⟨hlc, fun j u t hu ht => ?_⟩
            have h6 := hsm.inn j t u ht hu
            have h7 := lo_mem u.lo.d u.hi.d
            have h8 := hi_mem u.lo.d u.hi.d
            have e1 : loD u.lo.d u.hi.d = u.L := rfl
            have e2 : hiD u.lo.d u.hi.d = u.H := rfl
            have hA : ¬ u.lo.d < u.L ∧ ¬ u.H < u.lo.d ∧ ¬ u.hi.d < u.L ∧ ¬ u.H < u.hi.d := by
              unfold SR.L SR.H loD hiD
              split <;> split <;> grind
            rw [SR.has_iff, SR.has_iff]
            grind
          refine wc_seq (sr (mI (mL (lenC ?_))))
          refine lssC (wl_end (cF ?_))
          refine wc_exit ?_
          refine k_exit (k_exit (b_here (k_then (wc_seq (sr (aI (wl_end (wc_block ?_))))))))
          refine wc_loop1 [4, 12, 60, 61, 62, 63, 64, 65, 66, 67, 68, 69, 70, 71, 72, 73, 74] 12
            (fun v w' => ∃ j : Nat, j ≤ i ∧ v = .int .i64 j ∧ Sl w' A i 6 (recs SR.cells cb) ∧ Hp w [.blk b6 25 [.bool (nR s.wid).neg, .string (nR s.wid).mag, .int .i64 (nR s.wid).e] (0, 0)] w')
            (fun v _ => i - (intOf v).toNat) ?_ ?_
          · exact ⟨0, Nat.zero_le _, rfl, hS4, hh⟩
          · clear hh hS4
            rintro ρ2 v w2 ⟨j, hj, rfl, hS4, hh⟩
            by_cases hjn : j < i
            · obtain ⟨x, hx⟩ := get_of_lt (l := cb) (k := j) (by omega)
              have hxm := List.mem_of_getElem? hx
              obtain ⟨ad4, rfl, hr4⟩ := hS4.at_ (by omega)
              have hzx := SR.szw (hsm.fin x hxm)
              obtain ⟨zo1, zo2, zo3⟩ := hzx.ok (by omega)
              have hsh := fun w1 hT1 => dShift_calls (nR x.wid) 1 w1 hT1 (by omega) (by omega) (by omega) (by omega) (by omega)
              rw [nR_d, show x.wid * twoD 1 = x.wid + x.wid by rw [show twoD 1 = 1 + 1 by decide +kernel]; grind] at hsh
              have hz2 := hzx.add hzx
              have hcm := fun w1 hT1 => dCmp_calls (nR (x.wid + x.wid)) (nR s.wid) w1 hT1 (hz2.ok (by omega)) (h9.ok (by omega))
              rw [nR_d, nR_d] at hcm
              have hle : ¬ 0 < cmpD (x.wid + x.wid) s.wid := fun h => hcnt x hxm ((cmpD_gt _ _).1 h)
              generalize cmpD (x.wid + x.wid) s.wid = cc at *
              refine wc_seq (sr (mI (mL (lenC ?_))))
              refine lssC (wl_end (cT (wc_skip (k_then (wc_seq (wc_block (wc_seq ?_)))))))
              refine wc_drawn 7 [[(7, none)], [(12, none)], [(66, some 0), (67, some 1)], [(68, some 2)], [(69, some 3)], [(70, some 4)], [(6, none)]] [(6, 72), (5, 71), (4, 70), (3, 69), (2, 68), (1, 67), (0, 66)] hh mixed (by kernel_rfl) ?_
              refine dmL ?_
              refine dmI ?_
              refine dis (j) ?_
              refine dLF [_,_,_,_,_,_] (fun _ hj => (hr4.ext hj.bl).recAt SR.len hx) ?_
              refine dC (fun _ hj => spWidth_calls x (440 + 2 * i) _ (hT.hp hj.hp) (hsm.fin x hxm) (by omega)) ?_
              refine dC (fun _ hj => hsh _ (hT.hp hj.hp)) ?_
              refine dlg 0 [_,_,_] ?_
              refine dx_nil ?_
              intro f W hJ hV
              have hb_20 := hJ.bl
              obtain ⟨v72, v71, v70, v69, v68, v67, v66, _⟩ := hV
              replace hh := hJ.hp
              refine wl_cast (updL_K (eql_cons v72 (eql_cons v71 (eql_cons v70 (eql_cons v69 (eql_cons v68 (eql_cons v67 (eql_cons v66 eql_nil)))))))) ?_
              dsimp only [updK]
              clear hJ
              refine s_callf (hcm _ (hT.hp hh)) FnIs.out rfl (by decide) ?_
              rintro e_ w73 ⟨rfl, hb_⟩
              refine ⟨_, rfl, ?_⟩
              replace hh := hh.ext hb_
              refine gtrC (wl_end (cF (wc_skip (b_norm (k_then (wc_region (mI ?_)))))))
              refine addC (aI (wl_nil (k_then ?_)))
              refine ⟨⟨j + 1, by omega, rfl, (hS4.ext hb_20).ext hb_, hh⟩, by show i - (j + 1) < i - j; omega, ?_⟩
              (repeat (first | exact agree_mask _ _ _ | refine agree_upd rfl ?_ | refine agree_mask2 rfl ?_))
            · refine wc_seq (sr (mI (mL (lenC ?_))))
              refine lssC (wl_end (cF ?_))
              refine wc_exit ?_
              refine k_exit (k_exit (b_here (k_then (sr (mL (lenC (mL (lenC ?_))))))))
              refine eqlC (mB ?_)
              first | refine gS ?_ | (refine gT ?_; refine mL ?_) | refine gV ?_
              first | refine gS ?_ | (refine gT ?_; refine mL ?_) | refine gV ?_
              refine wl_guard_take rfl rfl ?_
              refine s_callf (bWithin_calls A i c0 cb (some ad) i c b 440 _ (hT.hp hh) hS4 (hS.ext hh.below) (fun x hx => ⟨(hsm.fin x hx).1.ok, (hsm.fin x hx).2.ok⟩) v3 (by omega) (by omega) (by omega)) FnIs.out rfl (by decide) ?_
              rintro e_ w83 ⟨rfl, hb_⟩
              refine ⟨_, rfl, ?_⟩
              replace hh := hh.ext hb_
              rw [hwi]
              first | refine pkT ?_ | refine pkF ?_
              refine mB ?_
              refine wl_guard_take rfl rfl ?_
              refine s_callf (bawake_calls _ (hT.hp hh)) FnIs.out rfl (by decide) ?_
              rintro e_ w86 ⟨rfl, hb_⟩
              refine ⟨_, rfl, ?_⟩
              replace hh := hh.ext hb_
              first | refine pkT ?_ | refine pkF ?_
              refine aB (wl_end (wc_ret ?_))
              refine ret1 (by first | exact .inr rfl | exact .inl rfl) rfl (v_bool rfl) ?_
              exact ⟨rfl, hh.below⟩
end Go.Proofs.YthmmofllajkejaaGreatDoor
