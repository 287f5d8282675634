/- The walk through the law BoxEnds. -/
import Derived.Test.YthmmofllajkejaaGreatDoorShD
import Derived.Test.YthmmofllajkejaaGreatDoorBoxT
namespace Go.Proofs.YthmmofllajkejaaGreatDoor
open Go.RowKit
-- umode
-- skipu
theorem vol_pos {b : List SR} (h : ∀ s ∈ b, s.L < s.H) : 0 < volB b := by
  have key : ∀ l : List SR, (∀ s ∈ l, s.L < s.H) → ∀ x : Dyadic, 0 < x → 0 < (l.map SR.wid).foldl (· * ·) x := by
    intro l
    induction l with
    | nil => intro _ x hx; exact hx
    | cons s l ih =>
      intro hl x hx
      refine ih (fun t ht => hl t (List.mem_cons_of_mem _ ht)) _ (Lean.Grind.OrderedRing.mul_pos hx ?_)
      have := hl s List.mem_cons_self
      unfold SR.wid
      grind
  exact key b h 1 (by decide +kernel)
theorem vol_zero {b : List SR} {s : SR} (hs : s ∈ b) (h : ¬ s.L < s.H) : volB b = 0 := by
  obtain ⟨l1, l2, rfl⟩ := List.append_of_mem hs
  unfold volB
  rw [List.map_append, List.map_cons, prodD_mid]
  have h2 := s.le
  have : s.wid = 0 := by unfold SR.wid; grind
  rw [this]
  generalize prodD (l1.map SR.wid) = p
  generalize prodD (l2.map SR.wid) = q
  grind
theorem chk_pos {b : List SR} (hb : b ≠ []) (h : ∀ s ∈ b, s.L < s.H) : chkB (b.map SR.f) = 0 := by
  unfold chkB
  have h1 : (b.map SR.f).any (fun s => !decide (s.lo.d < s.hi.d)) = false := by
    rw [List.any_eq_false]
    intro t ht
    obtain ⟨s, hs, rfl⟩ := List.mem_map.1 ht
    rw [show s.f.lo.d = s.L from nR_d _, show s.f.hi.d = s.H from nR_d _, decide_eq_true (h s hs)]
    decide
  rw [h1, if_neg (by decide), if_neg (by rw [List.length_map]; exact fun e => hb (List.eq_nil_of_length_eq_zero e))]
theorem chk_flat {b : List SR} {s : SR} (hs : s ∈ b) (h : ¬ s.L < s.H) : chkB (b.map SR.f) = 5 := by
  unfold chkB
  have h1 : (b.map SR.f).any (fun s => !decide (s.lo.d < s.hi.d)) = true := by
    rw [List.any_eq_true]
    refine ⟨s.f, List.mem_map.2 ⟨s, hs, rfl⟩, ?_⟩
    rw [show s.f.lo.d = s.L from nR_d _, show s.f.hi.d = s.H from nR_d _, decide_eq_false h]
    rfl
  rw [h1, if_pos rfl]
def tbE (k : Int) (i : Nat) : NR := nR ((k.fdiv (2 ^ i) % 2 : Int) : Dyadic)
theorem dy_one : ((1 : Int) : Dyadic) = 1 := rfl
theorem dy_zero : ((0 : Int) : Dyadic) = 0 := rfl
theorem corner_place {b : List SR} {k : Int} (h0 : 0 ≤ k) (h8 : b.length ≤ 8) : (b.mapIdx fun i s => placeG ((List.range b.length).map (tbE k)) i s.f) = b.mapIdx fun i s => cond (cornU k i) s.f.hi s.f.lo := by
  refine List.mapIdx_eq_mapIdx_iff.2 fun i hi => ?_
  generalize b[i] = s
  unfold placeG
  rw [List.getElem?_map, List.getElem?_range hi]
  show nR (s.f.at_ (tbE k i).d) = _
  unfold tbE SR.at_ cornU
  have hw : s.f.wid = s.H - s.L := by unfold SR.wid; rw [SR.f_L, SR.f_H]
  rw [nR_d, hw, show s.f.lo.d = s.L from nR_d _, decide_eq_true (show i < 62 by omega), Bool.true_and]
  by_cases g : k.fdiv (2 ^ i) % 2 = 1
  · have hk : 0 < k := by
      rcases Int.lt_or_eq_of_le h0 with h | h
      · exact h
      · rw [← h] at g; simp at g
    rw [g, decide_eq_true rfl, decide_eq_true hk, dy_one]
    show nR _ = nR s.H
    congr 1
    grind
  · rw [show k.fdiv (2 ^ i) % 2 = 0 by omega, show decide ((0 : Int) = 1) = false from rfl, Bool.and_false, dy_zero]
    show nR _ = nR s.L
    congr 1
    grind
theorem mid_place (b : List SR) : (b.mapIdx fun i s => placeG (List.replicate b.length (nR (twoD (-1)))) i s.f) = b.mapIdx fun _ s => nR s.f.mid := by
  refine List.mapIdx_eq_mapIdx_iff.2 fun i hi => ?_
  generalize b[i] = s
  unfold placeG
  rw [List.getElem?_replicate, if_pos hi]
  show nR (s.f.at_ (nR (twoD (-1))).d) = _
  unfold SR.at_
  have hw : s.f.wid = s.H - s.L := by unfold SR.wid; rw [SR.f_L, SR.f_H]
  rw [nR_d, hw, show s.f.lo.d = s.L from nR_d _]
  have h2 : twoD (-1) + twoD (-1) = 1 := by decide +kernel
  have h := s.mid_LH
  generalize s.f.mid = m at *
  generalize twoD (-1) = u at *
  congr 1
  grind
theorem has_corner (b : List SR) (k : Int) : hasB b (b.mapIdx fun i s => cond (cornU k i) s.f.hi s.f.lo) = true := by
  rw [hasB_iff, List.length_mapIdx]
  refine ⟨rfl, fun i s a hs ha => ?_⟩
  rw [List.getElem?_mapIdx, hs] at ha
  obtain rfl := Option.some.inj ha
  have := s.le
  rw [SR.has_iff]
  cases cornU k i with
  | true => rw [show (cond true s.f.hi s.f.lo).d = s.H from nR_d _]; grind
  | false => rw [show (cond false s.f.hi s.f.lo).d = s.L from nR_d _]; grind
theorem has_midB (b : List SR) : hasB b (b.mapIdx fun _ s => nR s.f.mid) = true := by
  rw [hasB_iff, List.length_mapIdx]
  refine ⟨rfl, fun i s a hs ha => ?_⟩
  rw [List.getElem?_mapIdx, hs] at ha
  obtain rfl := Option.some.inj ha
  rw [nR_d, SR.has_iff]
  exact s.mid_bd
theorem mid_ok {b : List SR} (v3 : ∀ s ∈ b, s.fin 440) : ∀ x ∈ b.mapIdx (fun _ s => nR s.f.mid), x.ok := fun x hx => by
  obtain ⟨i, hi, rfl⟩ := List.mem_mapIdx.1 hx
  have h2 := SR.fin_f (v3 b[i] (List.getElem_mem _)) (by omega)
  exact (Sz.mid h2.1.sz h2.2.sz).ok (by omega)
theorem corner_ok {b : List SR} (v3 : ∀ s ∈ b, s.fin 440) (k : Int) : ∀ x ∈ b.mapIdx (fun i s => cond (cornU k i) s.f.hi s.f.lo), x.ok := fun x hx => by
  obtain ⟨i, hi, rfl⟩ := List.mem_mapIdx.1 hx
  have h2 := SR.fin_f (v3 b[i] (List.getElem_mem _)) (by omega)
  cases cornU k i with
  | true => exact h2.2.ok
  | false => exact h2.1.ok
section
variable {P : Program} {N : Nat} {ops : Array Oper} {Q : Kq} {ρ : Rf} {w : World} {rest : List Oper} {d ty : Nat} {pos : String} {af : Array Edge}
theorem and255 (a : Int) : IntKind.i64.wrap (BitVec.ofInt IntKind.i64.bits a &&& BitVec.ofInt IntKind.i64.bits 255).toNat = a % 256 := by
  have h1 : (BitVec.ofInt IntKind.i64.bits a &&& BitVec.ofInt IntKind.i64.bits 255).toNat = (a % 256).toNat := by
    show (BitVec.ofInt 64 a &&& BitVec.ofInt 64 255).toNat = _
    rw [BitVec.toNat_and, show (BitVec.ofInt 64 255).toNat = 2 ^ 8 - 1 by decide, Nat.and_two_pow_sub_one_eq_mod, BitVec.toNat_ofInt]
    omega
  rw [h1, wrap_i64 (by omega) (by omega)]
  omega
theorem s_and255 {t u : Nat} {x y : Operand} {a : Int} (hx : ev ρ x = .int .i64 a) (hy : ev ρ y = .int .i64 255) (hN : d < N) (kk : WL P N ops Q rest (upd ρ d (.int .i64 (a % 256))) w) : WL P N ops Q (⟨some d, .binOp .and t x y u, ty, pos, af, none⟩ :: rest) ρ w :=
  wl_val rfl rfl hN (by rw [x_and hx hy, and255]) kk
end
theorem boxEnds_calls (L : Option Addr) (n c : Nat) (b : List SR) (k : Int) (w : World) (hT : Tab w) (hS : Sl w L n 6 (recs SR.cells b)) :
    Calls Tryz.prog 9 #[.slice L n c, .int .i64 k] w fun r w' => r = .returned (.bool true) ∧ Below w.heap.size w w' := by
  have hh := Hp.start w
  have hln := hS.recLen SR.len (by decide)
  cases g1 : vastB b [] with
  | true =>
    refine calls_vc (N := 138) (l := [.slice L n c, .int .i64 k]) Tryz.func9 rfl rfl (by simp) ?_
    refine sr (aB (wl_end (wc_seq (sr (mL ?_)))))
    refine s_callf (bvast_calls L n c b none 0 0 [] _ (hS.ext hh.below) (Sl.nil _ _ _)) FnIs.out rfl (by decide) ?_
    rintro e_ w16 ⟨rfl, hb_⟩
    refine ⟨_, rfl, ?_⟩
    replace hh := hh.ext hb_
    rw [g1]
    refine wl_end (cT (sr ?_))
    refine s_callf (bawake_calls _ (hT.hp hh)) FnIs.out rfl (by decide) ?_
    rintro e_ w17 ⟨rfl, hb_⟩
    refine ⟨_, rfl, ?_⟩
    replace hh := hh.ext hb_
    refine aB (wl_end (wc_ret (k_ret ?_)))
    refine ret1 (by first | exact .inr rfl | exact .inl rfl) rfl (v_bool rfl) ?_
    exact ⟨rfl, hh.below⟩
  | false =>
    obtain ⟨v1, -, v3, -⟩ := vast_no g1
    have ok : ∀ s ∈ b, s.ok := fun s hs => ⟨(v3 s hs).1.ok, (v3 s hs).2.ok⟩
    have o1 : (nR ((1 : Int) : Dyadic)).ok := Sz.one.ok (by omega)
    have hsh := fun w1 hT1 => dShift_calls (nR ((1 : Int) : Dyadic)) (-1) w1 hT1 (by have := o1.1; omega) (by have := o1.2; omega) (by have := o1.2; omega) (by omega) (by omega)
    rw [nR_d, show ((1 : Int) : Dyadic) * twoD (-1) = twoD (-1) by decide +kernel] at hsh
    have hk0 : 0 ≤ k % 256 := Int.emod_nonneg _ (by decide)
    refine calls_vc (N := 138) (l := [.slice L n c, .int .i64 k]) Tryz.func9 rfl rfl (by simp) ?_
    refine sr (aB (wl_end (wc_seq (sr (mL ?_)))))
    refine s_callf (bvast_calls L n c b none 0 0 [] _ (hS.ext hh.below) (Sl.nil _ _ _)) FnIs.out rfl (by decide) ?_
    rintro e_ w16 ⟨rfl, hb_⟩
    refine ⟨_, rfl, ?_⟩
    replace hh := hh.ext hb_
    rw [g1]
    refine wl_end (cF (wc_skip (k_then (sr (mI ?_)))))
    refine s_and255 rfl rfl (by decide) ?_
    generalize k % 256 = kk at *
    refine aI (wl_end (sr (aL (aL (wl_end (wc_seq (sr (aI (wl_end (wc_block ?_))))))))))
    replace hh := (hh.nil_row 25 3).nil_row 25 3
    refine wc_loop3 [6, 7, 8, 20, 21, 22, 23, 24, 25, 26, 27, 28, 29, 30, 31, 32, 33, 34, 35, 36, 37, 38] 6 7 8
      (fun v6 v7 v w' => ∃ (i c6 c7 : Nat) (A B : Option Addr), i ≤ n ∧ v = .int .i64 i ∧ v6 = .slice A i c6 ∧ v7 = .slice B i c7 ∧ Hp w [.row A i c6 25 3 (recs NR.cells ((List.range i).map (tbE kk))), .row B i c7 25 3 (recs NR.cells (List.replicate i (nR (twoD (-1)))))] w')
      (fun _ _ v _ => n - (intOf v).toNat) ?_ ?_
    · exact ⟨0, 0, 0, none, none, Nat.zero_le _, rfl, rfl, rfl, hh⟩
    · clear hh
      rintro ρ' v6 v7 v w' ⟨i, c6, c7, A, B, hi, rfl, rfl, rfl, hh⟩
      by_cases hlt : i < n
      · refine wc_seq (sr (mI (mL (lenC ?_))))
        refine lssC (wl_end (cT (wc_skip (k_then (wc_seq (wc_block (sr (mL (mI (mI ?_))))))))))
        refine s_shr rfl rfl (by omega) (by decide) ?_
        refine s_and1 rfl rfl (by decide) ?_
        rw [show min (i : Int).toNat IntKind.i64.bits = i by show min (i : Int).toNat 64 = i; omega]
        refine s_callf (dOf_calls (kk.fdiv (2 ^ i) % 2) _ (hT.hp hh) (by omega) (by omega)) FnIs.out rfl (by decide) ?_
        rintro e_ w31 ⟨rfl, hb_⟩
        refine ⟨_, rfl, ?_⟩
        replace hh := hh.ext hb_
        refine wl_buildSlice hh (cs := [_, _, _]) UIs.out TIs.out (evp_cons (ev_agg rfl) evp_nil) rfl rfl (by decide) (by decide) (by decide) rfl (by decide) ?_
        intro b32 w32 hh
        refine wl_append hh (i := 1) rfl rfl rfl (hh.sl_row (i := 0) rfl) UIs.out TIs.out rfl (by decide) (by first | rfl | exact oneCells_u8n _ | exact oneCells_u64s _ | exact oneCells_i64s _ | exact recs_oneCells NR.one _) (by omega) (by omega) (by decide) ?_
        intro A33 c33 w33 hh
        simp only [List.set_cons_zero, List.set_cons_succ] at hh
        replace hh := hh.sub (List.sublist_cons_self _ _)
        refine aL (wl_end (wc_region (mL ?_)))
        replace hh := hh.sub (List.Sublist.cons_cons _ (List.Sublist.cons_cons _ List.Sublist.slnil))
        refine s_callf (dOf_calls 1 _ (hT.hp hh) (by omega) (by omega)) FnIs.out rfl (by decide) ?_
        rintro e_ w35 ⟨rfl, hb_⟩
        refine ⟨_, rfl, ?_⟩
        replace hh := hh.ext hb_
        refine s_callf (hsh _ (hT.hp hh)) FnIs.out rfl (by decide) ?_
        rintro e_ w36 ⟨rfl, hb_⟩
        refine ⟨_, rfl, ?_⟩
        replace hh := hh.ext hb_
        refine wl_buildSlice hh (cs := [_, _, _]) UIs.out TIs.out (evp_cons (ev_agg rfl) evp_nil) rfl rfl (by decide) (by decide) (by decide) rfl (by decide) ?_
        intro b37 w37 hh
        refine wl_append hh (i := 2) rfl rfl rfl (hh.sl_row (i := 0) rfl) UIs.out TIs.out rfl (by decide) (by first | rfl | exact oneCells_u8n _ | exact oneCells_u64s _ | exact oneCells_i64s _ | exact recs_oneCells NR.one _) (by omega) (by omega) (by decide) ?_
        intro A38 c38 w38 hh
        simp only [List.set_cons_zero, List.set_cons_succ] at hh
        replace hh := hh.sub (List.sublist_cons_self _ _)
        refine aL (wl_nil (b_norm (k_then (wc_region (mI ?_)))))
        refine addC (aI (wl_nil (k_then ?_)))
        replace hh := hh.sub (List.Sublist.cons_cons _ (List.Sublist.cons_cons _ List.Sublist.slnil))
        refine ⟨⟨i + 1, _, _, _, _, by omega, rfl, rfl, rfl, ?_⟩, by show n - (i + 1) < n - i; omega, ?_⟩
        · rw [List.range_succ, List.map_append, recs_append, List.replicate_succ', recs_append]
          exact hh
        · (repeat (first | exact agree_mask _ _ _ | refine agree_upd rfl ?_ | refine agree_mask2 rfl ?_))
      · obtain rfl : i = n := by omega
        have hlt8 : (List.range i).length = i := List.length_range
        have htok : ∀ x ∈ (List.range i).map (tbE kk), x.ok ∧ Sz 440 x.d := fun x hx => by
          obtain ⟨j, hj, rfl⟩ := List.mem_map.1 hx
          unfold tbE
          rw [nR_d]
          have : Sz 440 ((kk.fdiv (2 ^ j) % 2 : Int) : Dyadic) := by
            rcases (by omega : kk.fdiv (2 ^ j) % 2 = 0 ∨ kk.fdiv (2 ^ j) % 2 = 1) with h | h
            · rw [h]; exact Sz.zero _
            · rw [h]; exact Sz.one.mono (by omega)
          exact ⟨this.ok (by omega), this⟩
        have hhok : ∀ x ∈ List.replicate i (nR (twoD (-1))), x.ok ∧ Sz 440 x.d := fun x hx => by
          obtain rfl := List.eq_of_mem_replicate hx
          rw [nR_d]
          have : Sz 440 (twoD (-1)) := (show Sz 1 (twoD (-1)) from ⟨1, by decide +kernel, by decide⟩).mono (by omega)
          exact ⟨this.ok (by omega), this⟩
        have hx1 := fun A c0 M m0 w1 hT1 hS1 hS2 => bPlace_calls A i c0 b M i m0 ((List.range i).map (tbE kk)) 440 w1 hT1 hS1 v3 hS2 htok (by omega) (by omega) (by omega)
        have hx2 := fun A c0 M m0 w1 hT1 hS1 hS2 => bPlace_calls A i c0 b M i m0 (List.replicate i (nR (twoD (-1)))) 440 w1 hT1 hS1 v3 hS2 hhok (by omega) (by omega) (by omega)
        subst hln
        simp only [corner_place hk0 v1, mid_place] at hx1 hx2
        have hc1 := fun A c0 M m0 w1 hT1 hS1 hS2 => bHas_calls A b.length c0 b M b.length m0 (b.mapIdx fun i s => cond (cornU kk i) s.f.hi s.f.lo) 440 w1 hT1 hS1 hS2 v3 (corner_ok v3 kk) (by omega) (by omega) (by omega)
        have hc2 := fun A c0 M m0 w1 hT1 hS1 hS2 => bHas_calls A b.length c0 b M b.length m0 (b.mapIdx fun _ s => nR s.f.mid) 440 w1 hT1 hS1 hS2 v3 (mid_ok v3) (by omega) (by omega) (by omega)
        simp only [has_corner, has_midB] at hc1 hc2
        refine wc_seq (sr (mI (mL (lenC ?_))))
        refine lssC (wl_end (cF ?_))
        refine wc_exit ?_
        refine k_exit (k_exit (b_here (k_then (sr (mL (mI ?_))))))
        refine s_callf (bCorner_calls L b.length c b kk _ (hT.hp hh) (hS.ext hh.below) ok (by omega)) FnIs.out rfl (by decide) ?_
        rintro e_ w41 ⟨A41, c41, rfl, hown_, hb_⟩
        refine ⟨_, rfl, ?_⟩
        replace hh := hh.push_new (x := .row _ _ _ _ _ _) hb_ hown_
        refine mL ?_
        refine s_callf (bMid_calls L b.length c b 440 _ (hT.hp hh) (hS.ext hh.below) v3 (by omega) (by omega)) FnIs.out rfl (by decide) ?_
        rintro e_ w43 ⟨A43, c43, rfl, hown_, hb_⟩
        refine ⟨_, rfl, ?_⟩
        replace hh := hh.push_new (x := .row _ _ _ _ _ _) hb_ hown_
        refine aL (aL (wl_end (sr (mL (mL ?_)))))
        refine s_callf (hx1 _ _ _ _ _ (hT.hp hh) (hS.ext hh.below) (hh.sl_row (i := 2) rfl)) FnIs.out rfl (by decide) ?_
        rintro e_ w46 ⟨A46, c46, rfl, hown_, hb_⟩
        refine ⟨_, rfl, ?_⟩
        replace hh := hh.push_new (x := .row _ _ _ _ _ _) hb_ hown_
        refine mL (mL ?_)
        refine s_callf (hx2 _ _ _ _ _ (hT.hp hh) (hS.ext hh.below) (hh.sl_row (i := 4) rfl)) FnIs.out rfl (by decide) ?_
        rintro e_ w49 ⟨A49, c49, rfl, hown_, hb_⟩
        refine ⟨_, rfl, ?_⟩
        replace hh := hh.push_new (x := .row _ _ _ _ _ _) hb_ hown_
        replace hh := hh.sub (List.Sublist.cons_cons _ (List.Sublist.cons_cons _ (List.Sublist.cons_cons _ (List.Sublist.cons_cons _ (List.Sublist.cons _ (List.Sublist.cons _ List.Sublist.slnil))))))
        refine aL (aL (wl_end (wc_seq (sr (mL (lenC (mL (lenC ?_))))))))
        refine neqC (mB ?_)
        first | refine gS ?_ | (refine gT ?_; refine mL ?_) | refine gV ?_
        first | refine gS ?_ | (refine gT ?_; refine lenC ?_) | refine gV ?_
        first | refine gS ?_ | (refine gT ?_; refine mL ?_) | refine gV ?_
        first | refine gS ?_ | (refine gT ?_; refine lenC ?_) | refine gV ?_
        first | refine gS ?_ | (refine gT ?_; refine neqC ?_) | refine gV ?_
        first | refine pkT ?_ | refine pkF ?_
        refine mB ?_
        first | refine gS ?_ | (refine gT ?_; refine mL ?_) | refine gV ?_
        first | refine gS ?_ | (refine gT ?_; refine lenC ?_) | refine gV ?_
        first | refine gS ?_ | (refine gT ?_; refine mL ?_) | refine gV ?_
        first | refine gS ?_ | (refine gT ?_; refine lenC ?_) | refine gV ?_
        first | refine gS ?_ | (refine gT ?_; refine neqC ?_) | refine gV ?_
        first | refine pkT ?_ | refine pkF ?_
        refine mB ?_
        first | refine gS ?_ | (refine gT ?_; refine mL ?_) | refine gV ?_
        first | refine gS ?_ | (refine gT ?_; refine lenC ?_) | refine gV ?_
        first | refine gS ?_ | (refine gT ?_; refine mL ?_) | refine gV ?_
        first | refine gS ?_ | (refine gT ?_; refine lenC ?_) | refine gV ?_
        first | refine gS ?_ | (refine gT ?_; refine neqC ?_) | refine gV ?_
        first | refine pkT ?_ | refine pkF ?_
        refine mB ?_
        first | refine gS ?_ | (refine gT ?_; refine mL ?_) | refine gV ?_
        first | refine gS ?_ | (refine gT ?_; refine mL ?_) | refine gV ?_
        refine wl_guard_take rfl rfl ?_
        refine s_callf (hc1 _ _ _ _ _ (hT.hp hh) (hS.ext hh.below) (hh.sl_row (i := 3) rfl)) FnIs.out rfl (by decide) ?_
        rintro e_ w79 ⟨rfl, hb_⟩
        refine ⟨_, rfl, ?_⟩
        replace hh := hh.ext hb_
        first | refine gS ?_ | (refine gT ?_; refine notC ?_) | refine gV ?_
        first | refine pkT ?_ | refine pkF ?_
        refine mB ?_
        first | refine gS ?_ | (refine gT ?_; refine mL ?_) | refine gV ?_
        first | refine gS ?_ | (refine gT ?_; refine mL ?_) | refine gV ?_
        refine wl_guard_take rfl rfl ?_
        refine s_callf (hc2 _ _ _ _ _ (hT.hp hh) (hS.ext hh.below) (hh.sl_row (i := 2) rfl)) FnIs.out rfl (by decide) ?_
        rintro e_ w85 ⟨rfl, hb_⟩
        refine ⟨_, rfl, ?_⟩
        replace hh := hh.ext hb_
        first | refine gS ?_ | (refine gT ?_; refine notC ?_) | refine gV ?_
        first | refine pkT ?_ | refine pkF ?_
        refine wl_end (cF (wc_skip (k_then (wc_seq (sr (aI (wl_end (wc_block ?_))))))))
        refine wc_loop1 [4, 13, 88, 89, 90, 91, 92, 93, 94, 95, 96, 97, 98, 99, 100, 101, 102, 103, 104, 105, 106, 107, 108, 109, 110, 111, 112, 113] 13
          (fun v w' => ∃ i : Nat, i ≤ b.length ∧ v = .int .i64 i ∧ Hp w [.row A49 b.length c49 25 3 (recs NR.cells (b.mapIdx fun _ s => nR s.f.mid)), .row A46 b.length c46 25 3 (recs NR.cells (b.mapIdx fun i s => cond (cornU kk i) s.f.hi s.f.lo)), .row A43 b.length c43 25 3 (recs NR.cells (b.mapIdx fun _ s => nR s.f.mid)), .row A41 b.length c41 25 3 (recs NR.cells (b.mapIdx fun i s => cond (cornU kk i) s.f.hi s.f.lo))] w')
          (fun v _ => b.length - (intOf v).toNat) ?_ ?_
        · exact ⟨0, Nat.zero_le _, rfl, hh⟩
        · clear hh
          rintro ρ2 v w2 ⟨j, hj, rfl, hh⟩
          by_cases hjn : j < b.length
          · obtain ⟨u, hu⟩ := get_of_lt (l := b.mapIdx fun _ s => nR s.f.mid) (k := j) (by rw [List.length_mapIdx]; exact hjn)
            obtain ⟨v, hv⟩ := get_of_lt (l := b.mapIdx fun i s => cond (cornU kk i) s.f.hi s.f.lo) (k := j) (by rw [List.length_mapIdx]; exact hjn)
            obtain ⟨gy, rfl⟩ := hh.row_some (i := 0) rfl (by omega)
            obtain ⟨gx, rfl⟩ := hh.row_some (i := 1) rfl (by omega)
            obtain ⟨gm, rfl⟩ := hh.row_some (i := 2) rfl (by omega)
            obtain ⟨gc, rfl⟩ := hh.row_some (i := 3) rfl (by omega)
            refine wc_seq (sr (mI (mL (lenC ?_))))
            refine lssC (wl_end (cT (wc_skip (k_then (wc_seq (wc_block (wc_seq ?_)))))))
            refine wc_drawn 18 [[(9, none)], [(13, none)], [(94, some 0), (95, some 1)], [(96, some 2)], [(11, none)], [(13, none)], [(98, some 4), (99, some 5)], [(100, some 6)], [(97, some 3), (101, some 7)], [(102, some 8)], [(10, none), (103, some 9)], [(13, none), (103, some 9)], [(104, some 10), (105, some 11), (103, some 9)], [(106, some 12), (103, some 9)], [(12, none), (103, some 9)], [(13, none), (103, some 9)], [(108, some 14), (109, some 15), (103, some 9)], [(110, some 16), (103, some 9)]] [(17, 111), (16, 110), (15, 109), (14, 108), (13, 107), (12, 106), (11, 105), (10, 104), (9, 103), (8, 102), (7, 101), (6, 100), (5, 99), (4, 98), (3, 97), (2, 96), (1, 95), (0, 94)] hh mixed (by kernel_rfl) ?_
            refine dmL ?_
            refine dmI ?_
            refine dix (j) ?_
            refine dLF [_,_,_] (fun _ hj => hj.hp.recRow (f := NR.cells) (x := v) (l := b.mapIdx fun i s => cond (cornU kk i) s.f.hi s.f.lo) (i := 3) rfl NR.len (by decide) hv) ?_
            refine dmL ?_
            refine dmI ?_
            refine dix (j) ?_
            refine dLF [_,_,_] (fun _ hj => hj.hp.recRow (f := NR.cells) (x := v) (l := b.mapIdx fun i s => cond (cornU kk i) s.f.hi s.f.lo) (i := 1) rfl NR.len (by decide) hv) ?_
            first | refine dx_val (i := 8) (fun ρ1 w1 hj hR => x_neN_f (show ρ1 97 = Value.agg (List.toArray _) from hR.1) (show ρ1 101 = Value.agg (List.toArray _) from hR.2.1) (by first | assumption | rfl)) ?_ | refine dx_val (i := 8) (fun ρ1 w1 hj hR => x_neN_t (show ρ1 97 = Value.agg (List.toArray _) from hR.1) (show ρ1 101 = Value.agg (List.toArray _) from hR.2.1) (by assumption)) ?_
            refine dmB ?_
            first | refine dS ?_ | refine dU ?_ | refine dG (dmL ?_)
            first | refine dS ?_ | refine dU ?_ | refine dG (dmI ?_)
            first | refine dS ?_ | refine dU ?_ | refine dG (dix (j) ?_)
            first | refine dS ?_ | refine dU ?_ | refine dG (dLF [_,_,_] (fun _ hj => hj.hp.recRow (f := NR.cells) (x := u) (l := b.mapIdx fun _ s => nR s.f.mid) (i := 2) rfl NR.len (by decide) hu) ?_)
            first | refine dS ?_ | refine dU ?_ | refine dG (dmL ?_)
            first | refine dS ?_ | refine dU ?_ | refine dG (dmI ?_)
            first | refine dS ?_ | refine dU ?_ | refine dG (dix (j) ?_)
            first | refine dS ?_ | refine dU ?_ | refine dG (dLF [_,_,_] (fun _ hj => hj.hp.recRow (f := NR.cells) (x := u) (l := b.mapIdx fun _ s => nR s.f.mid) (i := 0) rfl NR.len (by decide) hu) ?_)
            refine dx_nil ?_
            intro f W hJ hV
            have hb_17 := hJ.bl
            obtain ⟨v111, v110, v109, v108, v107, v106, v105, v104, v103, v102, v101, v100, v99, v98, v97, v96, v95, v94, _⟩ := hV
            replace hh := hJ.hp
            refine wl_cast (updL_K (eql_cons v111 (eql_cons v110 (eql_cons v109 (eql_cons v108 (eql_cons v107 (eql_cons v106 (eql_cons v105 (eql_cons v104 (eql_cons v103 (eql_cons v102 (eql_cons v101 (eql_cons v100 (eql_cons v99 (eql_cons v98 (eql_cons v97 (eql_cons v96 (eql_cons v95 (eql_cons v94 eql_nil))))))))))))))))))) ?_
            dsimp only [updK]
            clear hJ
            first | refine gS ?_ | (refine gT ?_; (first | refine s_neN_f rfl rfl (by first | assumption | rfl) (by decide) ?_ | refine s_neN_t rfl rfl (by assumption) (by decide) ?_)) | refine gV ?_
            first | refine pkT ?_ | refine pkF ?_
            refine wl_end (cF (wc_skip (b_norm (k_then (wc_region (mI ?_))))))
            refine addC (aI (wl_nil (k_then ?_)))
            refine ⟨⟨j + 1, by omega, rfl, hh⟩, by show b.length - (j + 1) < b.length - j; omega, ?_⟩
            (repeat (first | exact agree_mask _ _ _ | refine agree_upd rfl ?_ | refine agree_mask2 rfl ?_))
          · replace hh := hh.sub (List.Sublist.cons _ (List.Sublist.cons _ (List.Sublist.cons _ (List.Sublist.cons _ List.Sublist.slnil))))
            refine wc_seq (sr (mI (mL (lenC ?_))))
            refine lssC (wl_end (cF ?_))
            refine wc_exit ?_
            refine k_exit (k_exit (b_here (k_then (sr (mL ?_)))))
            refine s_callf (bForm_calls L b.length c b _ (hT.hp hh) (hS.ext hh.below) ok (by omega)) FnIs.out rfl (by decide) ?_
            rintro e_ w115 ⟨A115, c115, rfl, hown_, hb_⟩
            refine ⟨_, rfl, ?_⟩
            replace hh := hh.push_new (x := .row _ _ _ _ _ _) hb_ hown_
            by_cases hn0 : b.length = 0
            · have hb0 : b = [] := List.eq_nil_of_length_eq_zero hn0
              have hvol := fun w1 hT1 hS1 => bVolume_calls L b.length c b 440 w1 hT1 hS1 v3 (by omega) (by omega) (by omega)
              have hsg := fun w1 => dSign_calls (nR (volB b)) w1
              rw [NR.sign, nR_d, hb0, show cmpD (volB []) 0 = 1 by decide +kernel, ← hb0] at hsg
              refine aL (wl_end (sr (mL (lenC ?_))))
              refine eqlC (mB ?_)
              first | refine gS ?_ | (refine gT ?_; refine mL ?_) | refine gV ?_
              refine wl_guard_skip (by decide) rfl rfl (by decide) ?_
              first | refine gS ?_ | (refine gT ?_; refine eqlC ?_) | refine gV ?_
              first | refine gS ?_ | (refine gT ?_; refine mL ?_) | refine gV ?_
              refine wl_guard_skip (by decide) rfl rfl (by decide) ?_
              refine wl_guard_skip (by decide) rfl rfl (by decide) ?_
              first | refine gS ?_ | (refine gT ?_; refine gtrC ?_) | refine gV ?_
              first | refine gS ?_ | (refine gT ?_; (first | refine s_eqb_t UIs.out rfl rfl (by first | rfl | assumption) (by decide) ?_ | refine s_eqb_f UIs.out rfl rfl (by first | rfl | assumption | decide) (by decide) ?_ | refine s_eql_bool UIs.out rfl rfl (by decide) ?_)) | refine gV ?_
              first | refine pkT ?_ | refine pkF ?_
              refine mB ?_
              first | refine gS ?_ | (refine gT ?_; refine mL ?_) | refine gV ?_
              refine wl_guard_take rfl rfl ?_
              refine s_callf (hvol _ (hT.hp hh) (hS.ext hh.below)) FnIs.out rfl (by decide) ?_
              rintro e_ w131 ⟨rfl, hb_⟩
              refine ⟨_, rfl, ?_⟩
              replace hh := hh.ext hb_
              refine wl_guard_take rfl rfl ?_
              refine s_callf (hsg _) FnIs.out rfl (by decide) ?_
              rintro e_ w132 ⟨rfl, hb_⟩
              refine ⟨_, rfl, ?_⟩
              replace hh := hh.ext hb_
              first | refine gS ?_ | (refine gT ?_; refine geqC ?_) | refine gV ?_
              first | refine pkT ?_ | refine pkF ?_
              refine mB ?_
              refine wl_guard_take rfl rfl ?_
              refine s_callf (bawake_calls _ (hT.hp hh)) FnIs.out rfl (by decide) ?_
              rintro e_ w136 ⟨rfl, hb_⟩
              refine ⟨_, rfl, ?_⟩
              replace hh := hh.ext hb_
              first | refine pkT ?_ | refine pkF ?_
              refine aB (wl_end (wc_ret ?_))
              refine ret1 (by first | exact .inr rfl | exact .inl rfl) rfl (v_bool rfl) ?_
              exact ⟨rfl, hh.below⟩
            · have hbn : b ≠ [] := fun e => hn0 (by rw [e]; rfl)
              have hkn : (440 + 1) * b.length ≤ 441 * 8 := Nat.mul_le_mul_left _ (by omega)
              have hvol := fun w1 hT1 hS1 => bVolume_calls L b.length c b 440 w1 hT1 hS1 v3 (by omega) (by omega) (by omega)
              have hsg := fun w1 => dSign_calls (nR (volB b)) w1
              have okf : ∀ s ∈ b.map SR.f, s.ok := fun s hs => by
                obtain ⟨t, ht, rfl⟩ := List.mem_map.1 hs
                have := SR.fin_f (v3 t ht) (by omega)
                exact ⟨this.1.ok, this.2.ok⟩
              have hck := fun A c0 w1 hT1 hS1 => bCheck_calls A b.length c0 (b.map SR.f) w1 hT1 hS1 okf (by omega)
              rw [NR.sign, nR_d] at hsg
              by_cases hfl : ∀ s ∈ b, s.L < s.H
              · simp only [cmpD_of_gt (vol_pos hfl), chk_pos hbn hfl] at hsg hck
                refine aL (wl_end (sr (mL (lenC ?_))))
                refine eqlC (mB ?_)
                first | refine gS ?_ | (refine gT ?_; refine mL ?_) | refine gV ?_
                refine wl_guard_take rfl rfl ?_
                refine s_callf (hck _ _ _ (hT.hp hh) (hh.sl_row (i := 0) rfl)) FnIs.out rfl (by decide) ?_
                rintro e_ w121 ⟨rfl, hb_⟩
                refine ⟨_, rfl, ?_⟩
                replace hh := hh.ext hb_
                first | refine gS ?_ | (refine gT ?_; refine eqlC ?_) | refine gV ?_
                first | refine gS ?_ | (refine gT ?_; refine mL ?_) | refine gV ?_
                refine wl_guard_take rfl rfl ?_
                refine s_callf (hvol _ (hT.hp hh) (hS.ext hh.below)) FnIs.out rfl (by decide) ?_
                rintro e_ w124 ⟨rfl, hb_⟩
                refine ⟨_, rfl, ?_⟩
                replace hh := hh.ext hb_
                refine wl_guard_take rfl rfl ?_
                refine s_callf (hsg _) FnIs.out rfl (by decide) ?_
                rintro e_ w125 ⟨rfl, hb_⟩
                refine ⟨_, rfl, ?_⟩
                replace hh := hh.ext hb_
                first | refine gS ?_ | (refine gT ?_; refine gtrC ?_) | refine gV ?_
                first | refine gS ?_ | (refine gT ?_; (first | refine s_eqb_t UIs.out rfl rfl (by first | rfl | assumption) (by decide) ?_ | refine s_eqb_f UIs.out rfl rfl (by first | rfl | assumption | decide) (by decide) ?_ | refine s_eql_bool UIs.out rfl rfl (by decide) ?_)) | refine gV ?_
                first | refine pkT ?_ | refine pkF ?_
                refine mB ?_
                first | refine gS ?_ | (refine gT ?_; refine mL ?_) | refine gV ?_
                refine wl_guard_take rfl rfl ?_
                refine s_callf (hvol _ (hT.hp hh) (hS.ext hh.below)) FnIs.out rfl (by decide) ?_
                rintro e_ w131 ⟨rfl, hb_⟩
                refine ⟨_, rfl, ?_⟩
                replace hh := hh.ext hb_
                refine wl_guard_take rfl rfl ?_
                refine s_callf (hsg _) FnIs.out rfl (by decide) ?_
                rintro e_ w132 ⟨rfl, hb_⟩
                refine ⟨_, rfl, ?_⟩
                replace hh := hh.ext hb_
                first | refine gS ?_ | (refine gT ?_; refine geqC ?_) | refine gV ?_
                first | refine pkT ?_ | refine pkF ?_
                refine mB ?_
                refine wl_guard_take rfl rfl ?_
                refine s_callf (bawake_calls _ (hT.hp hh)) FnIs.out rfl (by decide) ?_
                rintro e_ w136 ⟨rfl, hb_⟩
                refine ⟨_, rfl, ?_⟩
                replace hh := hh.ext hb_
                first | refine pkT ?_ | refine pkF ?_
                refine aB (wl_end (wc_ret ?_))
                refine ret1 (by first | exact .inr rfl | exact .inl rfl) rfl (v_bool rfl) ?_
                exact ⟨rfl, hh.below⟩
              · obtain ⟨s, hs, hsf⟩ : ∃ s ∈ b, ¬ s.L < s.H := Classical.byContradiction fun h => hfl fun s hs => Classical.byContradiction fun h2 => h ⟨s, hs, h2⟩
                simp only [vol_zero hs hsf, cmpD_self, chk_flat hs hsf] at hsg hck hvol
                refine aL (wl_end (sr (mL (lenC ?_))))
                refine eqlC (mB ?_)
                first | refine gS ?_ | (refine gT ?_; refine mL ?_) | refine gV ?_
                refine wl_guard_take rfl rfl ?_
                refine s_callf (hck _ _ _ (hT.hp hh) (hh.sl_row (i := 0) rfl)) FnIs.out rfl (by decide) ?_
                rintro e_ w121 ⟨rfl, hb_⟩
                refine ⟨_, rfl, ?_⟩
                replace hh := hh.ext hb_
                first | refine gS ?_ | (refine gT ?_; refine eqlC ?_) | refine gV ?_
                first | refine gS ?_ | (refine gT ?_; refine mL ?_) | refine gV ?_
                refine wl_guard_take rfl rfl ?_
                refine s_callf (hvol _ (hT.hp hh) (hS.ext hh.below)) FnIs.out rfl (by decide) ?_
                rintro e_ w124 ⟨rfl, hb_⟩
                refine ⟨_, rfl, ?_⟩
                replace hh := hh.ext hb_
                refine wl_guard_take rfl rfl ?_
                refine s_callf (hsg _) FnIs.out rfl (by decide) ?_
                rintro e_ w125 ⟨rfl, hb_⟩
                refine ⟨_, rfl, ?_⟩
                replace hh := hh.ext hb_
                first | refine gS ?_ | (refine gT ?_; refine gtrC ?_) | refine gV ?_
                first | refine gS ?_ | (refine gT ?_; (first | refine s_eqb_t UIs.out rfl rfl (by first | rfl | assumption) (by decide) ?_ | refine s_eqb_f UIs.out rfl rfl (by first | rfl | assumption | decide) (by decide) ?_ | refine s_eql_bool UIs.out rfl rfl (by decide) ?_)) | refine gV ?_
                first | refine pkT ?_ | refine pkF ?_
                refine mB ?_
                first | refine gS ?_ | (refine gT ?_; refine mL ?_) | refine gV ?_
                refine wl_guard_take rfl rfl ?_
                refine s_callf (hvol _ (hT.hp hh) (hS.ext hh.below)) FnIs.out rfl (by decide) ?_
                rintro e_ w131 ⟨rfl, hb_⟩
                refine ⟨_, rfl, ?_⟩
                replace hh := hh.ext hb_
                refine wl_guard_take rfl rfl ?_
                refine s_callf (hsg _) FnIs.out rfl (by decide) ?_
                rintro e_ w132 ⟨rfl, hb_⟩
                refine ⟨_, rfl, ?_⟩
                replace hh := hh.ext hb_
                first | refine gS ?_ | (refine gT ?_; refine geqC ?_) | refine gV ?_
                first | refine pkT ?_ | refine pkF ?_
                refine mB ?_
                refine wl_guard_take rfl rfl ?_
                refine s_callf (bawake_calls _ (hT.hp hh)) FnIs.out rfl (by decide) ?_
                rintro e_ w136 ⟨rfl, hb_⟩
                refine ⟨_, rfl, ?_⟩
                replace hh := hh.ext hb_
                first | refine pkT ?_ | refine pkF ?_
                refine aB (wl_end (wc_ret ?_))
                refine ret1 (by first | exact .inr rfl | exact .inl rfl) rfl (v_bool rfl) ?_
                exact ⟨rfl, hh.below⟩
end Go.Proofs.YthmmofllajkejaaGreatDoor
