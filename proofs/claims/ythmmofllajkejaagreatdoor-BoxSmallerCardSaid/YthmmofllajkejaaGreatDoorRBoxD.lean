/- The walks through ogeeref11, fourth part: parts, equal boxes and points. -/
import Derived.Test.YthmmofllajkejaaGreatDoorShD
import Derived.Test.YthmmofllajkejaaGreatDoorRBoxC
namespace Go.Proofs.YthmmofllajkejaaGreatDoor
open Go.RowKit
-- umode
-- skipu
theorem rbPart_calls (L : Option Addr) (n c : Nat) (b : List SR) (M : Option Addr) (m c2 : Nat) (hs : List Int) (k : Nat) (w : World) (hS : Sl w L n 6 (recs SR.cells b)) (hb : ∀ s ∈ b, s.fin k) (hS2 : Sl w M m 1 (i64s hs)) (hn : n ≤ 1000000) (hk : k + 2 * m ≤ 3000000) (hml : hs.length = m) (hbd : ∀ h ∈ hs, h ≤ 9223372036854775807) :
    Calls Tryz.prog 51 #[.slice L n c, .slice M m c2] w fun r w' => (match partS (b.map SR.f) hs with | none => r = .returned (.tuple #[.slice none 0 0, .bool false]) | some b' => ∃ A c', r = .returned (.tuple #[.slice A n c', .bool true]) ∧ Sl w' A n 6 (recs SR.cells b')) ∧ Below w.heap.size w w' := by
  have hh := Hp.start w
  refine calls_vc (N := 45) (l := [.slice L n c, .slice M m c2]) Tryz.func51 rfl rfl (by simp) ?_
  refine sr (aL (aB (wl_end (sr (mL ?_)))))
  refine s_callf (rbForm_calls L n c b k _ (hS.ext hh.below) hb hn (by omega)) FnIs.out rfl (by decide) ?_
  rintro e_ w9 ⟨A9, c9, rfl, hown_, hb_⟩
  refine ⟨_, rfl, ?_⟩
  replace hh := hh.push_new (x := .row _ _ _ _ _ _) hb_ hown_
  refine aL (wl_end (wc_seq (sr (aI (wl_end (wc_block ?_))))))
  have hf := hh.sl_row (i := 0) rfl
  replace hh := hh.sub (List.Sublist.cons _ List.Sublist.slnil)
  refine wc_loop2 [4, 5, 6, 7, 10, 11, 12, 13, 14, 15, 16, 17, 18, 19, 20, 21, 22, 23, 24, 25, 26, 27, 28, 29, 30, 31, 32, 33, 34, 35, 36, 37, 38, 39, 40, 41, 42, 43] 6 7
    (fun v0 v w' => ∃ (i c0 : Nat) (A : Option Addr) (b' : List SR), i ≤ m ∧ v = .int .i64 i ∧ v0 = .slice A n c0 ∧ partS (b.map SR.f) (hs.take i) = some b' ∧ (∀ s ∈ b', s.fin (k + 2 * i)) ∧ Sl w' A n 6 (recs SR.cells b') ∧ Hp w [] w')
    (fun _ v _ => m - (intOf v).toNat) ?_ ?_
  · refine ⟨0, _, _, b.map SR.f, Nat.zero_le _, rfl, rfl, rfl, fun s hs' => ?_, hf, hh⟩
    obtain ⟨u, hu, rfl⟩ := List.mem_map.1 hs'
    exact SR.fin_f (hb u hu) (by omega)
  · clear hh hf
    rintro ρ' v0 v w' ⟨i, c0, A, b', hi, rfl, rfl, hp, hfn, hf, hh⟩
    have hlb := hf.recLen SR.len (by decide)
    by_cases hlt : i < m
    · obtain ⟨h, hh1⟩ := get_of_lt (l := hs) (k := i) (by omega)
      have hgi : (i64s hs)[i]? = some (.int .i64 h) := by simp [i64s, hh1]
      have hps := partS_snoc b hs h
      have hb1 := hbd h (List.mem_of_getElem? hh1)
      have hfd : h.fdiv 2 = h / 2 := Int.fdiv_eq_ediv_of_nonneg _ (by decide)
      obtain ⟨ad, rfl, hr⟩ := hS2.at_ (by omega)
      rcases hv : halveS b' h with _ | b2
      · have hno : partS (b.map SR.f) hs = none := partS_none (i + 1) (by rw [take_snoc hh1, partS_snoc, hp]; exact hv)
        rw [hno]
        by_cases h0 : h < 0
        · skip
          refine wc_seq (sr (mI (mL (lenC ?_))))
          refine lssC (wl_end (cT (wc_skip (k_then (wc_seq (wc_block (wc_seq (sr (mL (mI ?_))))))))))
          refine s_indexSl (k := i) UIs.out TIs.size rfl rfl (by omega) (by omega) (by decide) ?_
          refine s_load1 TIs.out rfl ((hr.ext hh.below).at1 (by assumption)) (by decide) ?_
          refine lssC (mB ?_)
          first | refine gS ?_ | (refine gT ?_; refine mL ?_) | refine gV ?_
          first | refine gS ?_ | (refine gT ?_; refine mI ?_) | refine gV ?_
          first | refine gS ?_ | (refine gT ?_; refine s_indexSl (k := i) UIs.out TIs.size rfl rfl (by omega) (by omega) (by decide) ?_) | refine gV ?_
          first | refine gS ?_ | (refine gT ?_; refine s_load1 TIs.out rfl ((hr.ext hh.below).at1 (by assumption)) (by decide) ?_) | refine gV ?_
          first | refine gS ?_ | (refine gT ?_; refine s_quoi rfl rfl (by omega) (by omega) (by omega) (by decide) ?_) | refine gV ?_
          first | refine gS ?_ | (refine gT ?_; refine mL ?_) | refine gV ?_
          first | refine gS ?_ | (refine gT ?_; refine lenC ?_) | refine gV ?_
          first | refine gS ?_ | (refine gT ?_; refine geqC ?_) | refine gV ?_
          first | refine pkT ?_ | refine pkF ?_
          refine wl_end (cT (sr (aL (aB (wl_end (wc_ret (k_ret (b_ret (k_ret (k_ret (b_ret ?_)))))))))))
          refine k_ret ?_
          refine ret2 (by first | exact .inr rfl | exact .inl rfl) rfl (v_sl rfl) (v_bool rfl) ?_
          exact ⟨rfl, hh.below⟩
        · have hbad : (n : Int) ≤ h / 2 := by
            unfold halveS at hv
            split at hv
            · omega
            · rw [Option.map_eq_none_iff, List.getElem?_eq_none_iff] at hv
              omega
          refine wc_seq (sr (mI (mL (lenC ?_))))
          refine lssC (wl_end (cT (wc_skip (k_then (wc_seq (wc_block (wc_seq (sr (mL (mI ?_))))))))))
          refine s_indexSl (k := i) UIs.out TIs.size rfl rfl (by omega) (by omega) (by decide) ?_
          refine s_load1 TIs.out rfl ((hr.ext hh.below).at1 (by assumption)) (by decide) ?_
          refine lssC (mB ?_)
          first | refine gS ?_ | (refine gT ?_; refine mL ?_) | refine gV ?_
          first | refine gS ?_ | (refine gT ?_; refine mI ?_) | refine gV ?_
          first | refine gS ?_ | (refine gT ?_; refine s_indexSl (k := i) UIs.out TIs.size rfl rfl (by omega) (by omega) (by decide) ?_) | refine gV ?_
          first | refine gS ?_ | (refine gT ?_; refine s_load1 TIs.out rfl ((hr.ext hh.below).at1 (by assumption)) (by decide) ?_) | refine gV ?_
          first | refine gS ?_ | (refine gT ?_; refine s_quoi rfl rfl (by omega) (by omega) (by omega) (by decide) ?_) | refine gV ?_
          first | refine gS ?_ | (refine gT ?_; refine mL ?_) | refine gV ?_
          first | refine gS ?_ | (refine gT ?_; refine lenC ?_) | refine gV ?_
          first | refine gS ?_ | (refine gT ?_; refine geqC ?_) | refine gV ?_
          first | refine pkT ?_ | refine pkF ?_
          refine wl_end (cT (sr (aL (aB (wl_end (wc_ret (k_ret (b_ret (k_ret (k_ret (b_ret ?_)))))))))))
          refine k_ret ?_
          refine ret2 (by first | exact .inr rfl | exact .inl rfl) rfl (v_sl rfl) (v_bool rfl) ?_
          exact ⟨rfl, hh.below⟩
      · have hfin := halveS_fin hfn (by omega) hv
        have hv2 := hv
        unfold halveS at hv2
        split at hv2
        · cases hv2
        rename_i hpos
        rcases hsa : b'[(h.fdiv 2).toNat]? with _ | s
        · rw [hsa] at hv2; cases hv2
        rw [hsa] at hv2
        cases hv2
        have hlt2 := (List.getElem?_eq_some_iff.1 hsa).1
        have hcall := fun w1 hT1 => rbHalf_calls A n c0 b' (h.fdiv 2).toNat (decide (h % 2 = 1)) s (k + 2 * i) w1 hT1 hfn hn (by omega) hsa
        rw [Int.toNat_of_nonneg (by omega), hfd] at hcall
        have h0 : ¬ h < 0 := by omega
        by_cases g : h % 2 = 1
        · simp only [decide_eq_true g, hfd] at hcall hv hfin
          refine wc_seq (sr (mI (mL (lenC ?_))))
          refine lssC (wl_end (cT (wc_skip (k_then (wc_seq (wc_block (wc_seq (sr (mL (mI ?_))))))))))
          refine s_indexSl (k := i) UIs.out TIs.size rfl rfl (by omega) (by omega) (by decide) ?_
          refine s_load1 TIs.out rfl ((hr.ext hh.below).at1 (by assumption)) (by decide) ?_
          refine lssC (mB ?_)
          first | refine gS ?_ | (refine gT ?_; refine mL ?_) | refine gV ?_
          first | refine gS ?_ | (refine gT ?_; refine mI ?_) | refine gV ?_
          first | refine gS ?_ | (refine gT ?_; refine s_indexSl (k := i) UIs.out TIs.size rfl rfl (by omega) (by omega) (by decide) ?_) | refine gV ?_
          first | refine gS ?_ | (refine gT ?_; refine s_load1 TIs.out rfl ((hr.ext hh.below).at1 (by assumption)) (by decide) ?_) | refine gV ?_
          first | refine gS ?_ | (refine gT ?_; refine s_quoi rfl rfl (by omega) (by omega) (by omega) (by decide) ?_) | refine gV ?_
          first | refine gS ?_ | (refine gT ?_; refine mL ?_) | refine gV ?_
          first | refine gS ?_ | (refine gT ?_; refine lenC ?_) | refine gV ?_
          first | refine gS ?_ | (refine gT ?_; refine geqC ?_) | refine gV ?_
          first | refine pkT ?_ | refine pkF ?_
          refine wl_end (cF (wc_skip (k_then ?_)))
          refine wc_drawn 12 [[(6, none)], [(1, none)], [(7, none)], [(32, some 1), (33, some 2)], [(34, some 3)], [(35, some 4)], [(1, none)], [(7, none)], [(37, some 6), (38, some 7)], [(39, some 8)], [(40, some 9)], [(41, some 10)]] [(11, 42), (10, 41), (9, 40), (8, 39), (7, 38), (6, 37), (5, 36), (4, 35), (3, 34), (2, 33), (1, 32), (0, 31)] hh mixed (by kernel_rfl) ?_
          refine dmL ?_
          refine dmL ?_
          refine dmI ?_
          refine dis (i) ?_
          refine dlF (fun _ hj => (hr.ext hj.hp.below).at1 hgi) ?_
          refine dx_val (i := 5) (fun ρ1 w1 hj hR => x_quoi (show ρ1 35 = Value.int _ _ from hR.1) rfl (by omega) (by omega) (by omega)) ?_
          refine dmL ?_
          refine dmI ?_
          refine dis (i) ?_
          refine dlF (fun _ hj => (hr.ext hj.hp.below).at1 hgi) ?_
          refine dx_val (i := 10) (fun ρ1 w1 hj hR => x_remi (show ρ1 40 = Value.int _ _ from hR.1) rfl (by omega) (by omega)) ?_
          refine deql ?_
          refine dx_nil ?_
          intro f W hJ hV
          have hb_7 := hJ.bl
          obtain ⟨v42, v41, v40, v39, v38, v37, v36, v35, v34, v33, v32, v31, _⟩ := hV
          replace hh := hJ.hp
          refine wl_cast (updL_K (eql_cons v42 (eql_cons v41 (eql_cons v40 (eql_cons v39 (eql_cons v38 (eql_cons v37 (eql_cons v36 (eql_cons v35 (eql_cons v34 (eql_cons v33 (eql_cons v32 (eql_cons v31 eql_nil))))))))))))) ?_
          dsimp only [updK]
          clear hJ
          refine s_callf (hcall _ (hf.ext hb_7)) FnIs.out rfl (by decide) ?_
          rintro e_ w43 ⟨A43, c43, rfl, hown_, hb_⟩
          refine ⟨_, rfl, ?_⟩
          replace hh := hh.push_new (x := .row _ _ _ _ _ _) hb_ hown_
          refine aL (wl_nil (b_norm (k_then (wc_region (mI ?_)))))
          refine addC (aI (wl_nil (k_then ?_)))
          have hf2 := hh.sl_row (i := 0) rfl
          replace hh := hh.sub (List.Sublist.cons _ List.Sublist.slnil)
          refine ⟨⟨i + 1, _, _, _, by omega, rfl, rfl, by rw [take_snoc hh1, partS_snoc, hp]; exact hv, fun s hs => by have := hfin.1 s hs; rwa [show k + 2 * i + 2 = k + 2 * (i + 1) by omega] at this, hf2, hh⟩, by show m - (i + 1) < m - i; omega, ?_⟩
          (repeat (first | exact agree_mask _ _ _ | refine agree_upd rfl ?_ | refine agree_mask2 rfl ?_))
        · simp only [decide_eq_false g, hfd] at hcall hv hfin
          refine wc_seq (sr (mI (mL (lenC ?_))))
          refine lssC (wl_end (cT (wc_skip (k_then (wc_seq (wc_block (wc_seq (sr (mL (mI ?_))))))))))
          refine s_indexSl (k := i) UIs.out TIs.size rfl rfl (by omega) (by omega) (by decide) ?_
          refine s_load1 TIs.out rfl ((hr.ext hh.below).at1 (by assumption)) (by decide) ?_
          refine lssC (mB ?_)
          first | refine gS ?_ | (refine gT ?_; refine mL ?_) | refine gV ?_
          first | refine gS ?_ | (refine gT ?_; refine mI ?_) | refine gV ?_
          first | refine gS ?_ | (refine gT ?_; refine s_indexSl (k := i) UIs.out TIs.size rfl rfl (by omega) (by omega) (by decide) ?_) | refine gV ?_
          first | refine gS ?_ | (refine gT ?_; refine s_load1 TIs.out rfl ((hr.ext hh.below).at1 (by assumption)) (by decide) ?_) | refine gV ?_
          first | refine gS ?_ | (refine gT ?_; refine s_quoi rfl rfl (by omega) (by omega) (by omega) (by decide) ?_) | refine gV ?_
          first | refine gS ?_ | (refine gT ?_; refine mL ?_) | refine gV ?_
          first | refine gS ?_ | (refine gT ?_; refine lenC ?_) | refine gV ?_
          first | refine gS ?_ | (refine gT ?_; refine geqC ?_) | refine gV ?_
          first | refine pkT ?_ | refine pkF ?_
          refine wl_end (cF (wc_skip (k_then ?_)))
          refine wc_drawn 12 [[(6, none)], [(1, none)], [(7, none)], [(32, some 1), (33, some 2)], [(34, some 3)], [(35, some 4)], [(1, none)], [(7, none)], [(37, some 6), (38, some 7)], [(39, some 8)], [(40, some 9)], [(41, some 10)]] [(11, 42), (10, 41), (9, 40), (8, 39), (7, 38), (6, 37), (5, 36), (4, 35), (3, 34), (2, 33), (1, 32), (0, 31)] hh mixed (by kernel_rfl) ?_
          refine dmL ?_
          refine dmL ?_
          refine dmI ?_
          refine dis (i) ?_
          refine dlF (fun _ hj => (hr.ext hj.hp.below).at1 hgi) ?_
          refine dx_val (i := 5) (fun ρ1 w1 hj hR => x_quoi (show ρ1 35 = Value.int _ _ from hR.1) rfl (by omega) (by omega) (by omega)) ?_
          refine dmL ?_
          refine dmI ?_
          refine dis (i) ?_
          refine dlF (fun _ hj => (hr.ext hj.hp.below).at1 hgi) ?_
          refine dx_val (i := 10) (fun ρ1 w1 hj hR => x_remi (show ρ1 40 = Value.int _ _ from hR.1) rfl (by omega) (by omega)) ?_
          refine deql ?_
          refine dx_nil ?_
          intro f W hJ hV
          have hb_7 := hJ.bl
          obtain ⟨v42, v41, v40, v39, v38, v37, v36, v35, v34, v33, v32, v31, _⟩ := hV
          replace hh := hJ.hp
          refine wl_cast (updL_K (eql_cons v42 (eql_cons v41 (eql_cons v40 (eql_cons v39 (eql_cons v38 (eql_cons v37 (eql_cons v36 (eql_cons v35 (eql_cons v34 (eql_cons v33 (eql_cons v32 (eql_cons v31 eql_nil))))))))))))) ?_
          dsimp only [updK]
          clear hJ
          refine s_callf (hcall _ (hf.ext hb_7)) FnIs.out rfl (by decide) ?_
          rintro e_ w43 ⟨A43, c43, rfl, hown_, hb_⟩
          refine ⟨_, rfl, ?_⟩
          replace hh := hh.push_new (x := .row _ _ _ _ _ _) hb_ hown_
          refine aL (wl_nil (b_norm (k_then (wc_region (mI ?_)))))
          refine addC (aI (wl_nil (k_then ?_)))
          have hf2 := hh.sl_row (i := 0) rfl
          replace hh := hh.sub (List.Sublist.cons _ List.Sublist.slnil)
          refine ⟨⟨i + 1, _, _, _, by omega, rfl, rfl, by rw [take_snoc hh1, partS_snoc, hp]; exact hv, fun s hs => by have := hfin.1 s hs; rwa [show k + 2 * i + 2 = k + 2 * (i + 1) by omega] at this, hf2, hh⟩, by show m - (i + 1) < m - i; omega, ?_⟩
          (repeat (first | exact agree_mask _ _ _ | refine agree_upd rfl ?_ | refine agree_mask2 rfl ?_))
    · obtain rfl : i = m := by omega
      rw [List.take_of_length_le (by omega)] at hp
      refine wc_seq (sr (mI (mL (lenC ?_))))
      refine lssC (wl_end (cF ?_))
      refine wc_exit ?_
      refine k_exit (k_exit (b_here (k_then (sr (mL (aL (aB (wl_end (wc_ret ?_)))))))))
      refine ret2 (by first | exact .inr rfl | exact .inl rfl) rfl (v_sl rfl) (v_bool rfl) ?_
      rw [hp]
      exact ⟨⟨_, _, rfl, hf⟩, hh.below⟩
theorem eq_span (n : Nat) (s1 s1' s2 s2' : Bool) (a1 a1' a2 a2' : ByteArray) (e1 e1' e2 e2' : Int) (w : World) : (Op.equalIn (n + 4) 80 (.agg #[.bool s1, .string a1, .int .i64 e1, .bool s2, .string a2, .int .i64 e2]) (.agg #[.bool s1', .string a1', .int .i64 e1', .bool s2', .string a2', .int .i64 e2'])).run Tryz.prog w = .ok (((s1 == s1' && a1 == a1') && e1 == e1') && ((s2 == s2' && a2 == a2') && e2 == e2')) w := by
  have h1 := fun (x x' : Bool) (y y' : ByteArray) (z z' : Int) => partN (P := Tryz.prog) (cs := #[.bool x, .string y, .int .i64 z, .bool x', .string y', .int .i64 z']) (vs := #[.bool x, .string y, .int .i64 z]) (off := 0) (TIs.out (P := Tryz.prog) (t := 25)) rfl
  have h2 := fun (x x' : Bool) (y y' : ByteArray) (z z' : Int) => partN (P := Tryz.prog) (cs := #[.bool x, .string y, .int .i64 z, .bool x', .string y', .int .i64 z']) (vs := #[.bool x', .string y', .int .i64 z']) (off := 3) (TIs.out (P := Tryz.prog) (t := 25)) rfl
  rw [Op.equalIn]
  simp [run_underlying Tryz.underlying80, h1, h2, eq_num]
  cases h : ((s1 == s1' && a1 == a1') && e1 == e1') <;> cases h' : ((s2 == s2' && a2 == a2') && e2 == e2') <;> simp_all
section
variable {N : Nat} {ops : Array Oper} {Q : Kq} {ρ : Rf} {w : World} {rest : List Oper} {d : Option Nat} {ty u : TypeId} {pos : String} {af : Array Edge} {x y : Operand} {s : SR}
theorem x_neS_f {g : Option (Nat × Bool)} (hx : ev ρ x = .agg s.cells.toArray) (hy : ev ρ y = .agg s.cells.toArray) :
    (execOp (ev ρ) ⟨d, .binOp .neq 80 x y u, ty, pos, af, g⟩).run Tryz.prog w = .ok (.value (.bool false)) w := by
  have h0 := eq_span 9996 s.lo.neg s.lo.neg s.hi.neg s.hi.neg s.lo.mag s.lo.mag s.hi.mag s.hi.mag s.lo.e s.lo.e s.hi.e s.hi.e w
  rw [eqb_num.2 rfl, eqb_num.2 rfl] at h0
  have h1 : (Op.equal 80 (.agg s.cells.toArray) (.agg s.cells.toArray)).run Tryz.prog w = .ok true w := h0
  simp only [execOp, hx, hy]
  simp [eqGuard, binOp, h1]
end
theorem rbSame_calls (L : Option Addr) (n c : Nat) (b : List SR) (M : Option Addr) (c2 : Nat) (w : World) (hS : Sl w L n 6 (recs SR.cells b)) (hS2 : Sl w M n 6 (recs SR.cells b)) (hn : n ≤ 1000000) :
    Calls Tryz.prog 31 #[.slice L n c, .slice M n c2] w fun r w' => r = .returned (.bool true) ∧ Below w.heap.size w w' := by
  have hh := Hp.start w
  have hln := hS.recLen SR.len (by decide)
  refine calls_vc (N := 26) (l := [.slice L n c, .slice M n c2]) Tryz.func31 rfl rfl (by simp) ?_
  refine sr (aB (wl_end (wc_seq (sr (mL (lenC (mL (lenC ?_))))))))
  refine neqC (wl_end (cF (wc_skip (k_then (wc_seq (sr (aI (wl_end (wc_block ?_)))))))))
  refine wc_loop1 [4, 5, 11, 12, 13, 14, 15, 16, 17, 18, 19, 20, 21, 22, 23, 24, 25] 5
    (fun v w' => ∃ i : Nat, i ≤ n ∧ v = .int .i64 i ∧ Hp w [] w')
    (fun v _ => n - (intOf v).toNat) ?_ ?_
  · exact ⟨0, Nat.zero_le _, rfl, hh⟩
  · clear hh
    rintro ρ' v w' ⟨i, hi, rfl, hh⟩
    by_cases hlt : i < n
    · obtain ⟨s, hs⟩ := get_of_lt (l := b) (k := i) (by omega)
      obtain ⟨ad, rfl, hr⟩ := hS.at_ (by omega)
      obtain ⟨ad2, rfl, hr2⟩ := hS2.at_ (by omega)
      refine wc_seq (sr (mI (mL (lenC ?_))))
      refine lssC (wl_end (cT (wc_skip (k_then (wc_seq (wc_block (wc_seq ?_)))))))
      refine wc_drawn 8 [[(0, none)], [(5, none)], [(17, some 0), (18, some 1)], [(19, some 2)], [(1, none)], [(5, none)], [(21, some 4), (22, some 5)], [(23, some 6)]] [(7, 24), (6, 23), (5, 22), (4, 21), (3, 20), (2, 19), (1, 18), (0, 17)] hh mixed (by kernel_rfl) ?_
      refine dmL ?_
      refine dmI ?_
      refine dis (i) ?_
      refine dLF [_,_,_,_,_,_] (fun _ hj => (hr.ext hj.hp.below).recAt SR.len hs) ?_
      refine dmL ?_
      refine dmI ?_
      refine dis (i) ?_
      refine dLF [_,_,_,_,_,_] (fun _ hj => (hr2.ext hj.hp.below).recAt SR.len hs) ?_
      refine dx_nil ?_
      intro f W hJ hV
      have hb_6 := hJ.bl
      obtain ⟨v24, v23, v22, v21, v20, v19, v18, v17, _⟩ := hV
      replace hh := hJ.hp
      refine wl_cast (updL_K (eql_cons v24 (eql_cons v23 (eql_cons v22 (eql_cons v21 (eql_cons v20 (eql_cons v19 (eql_cons v18 (eql_cons v17 eql_nil))))))))) ?_
      dsimp only [updK]
      clear hJ
      refine wl_val rfl rfl (by decide) (x_neS_f (s := s) rfl rfl) ?_
      skip
      refine wl_end (cF (wc_skip (b_norm (k_then (wc_region (mI ?_))))))
      refine addC (aI (wl_nil (k_then ?_)))
      refine ⟨⟨i + 1, by omega, rfl, hh⟩, by show n - (i + 1) < n - i; omega, ?_⟩
      (repeat (first | exact agree_mask _ _ _ | refine agree_upd rfl ?_ | refine agree_mask2 rfl ?_))
    · refine wc_seq (sr (mI (mL (lenC ?_))))
      refine lssC (wl_end (cF ?_))
      refine wc_exit ?_
      refine k_exit (k_exit (b_here (k_then (sr (aB (wl_end (wc_ret ?_)))))))
      refine ret1 (by first | exact .inr rfl | exact .inl rfl) rfl (v_bool rfl) ?_
      exact ⟨rfl, hh.below⟩
theorem rbSamePoint_calls (L : Option Addr) (n c : Nat) (b : List NR) (M : Option Addr) (c2 : Nat) (w : World) (hS : Sl w L n 3 (recs NR.cells b)) (hS2 : Sl w M n 3 (recs NR.cells b)) (hn : n ≤ 1000000) :
    Calls Tryz.prog 41 #[.slice L n c, .slice M n c2] w fun r w' => r = .returned (.bool true) ∧ Below w.heap.size w w' := by
  have hh := Hp.start w
  have hln := hS.recLen NR.len (by decide)
  refine calls_vc (N := 26) (l := [.slice L n c, .slice M n c2]) Tryz.func41 rfl rfl (by simp) ?_
  refine sr (aB (wl_end (wc_seq (sr (mL (lenC (mL (lenC ?_))))))))
  refine neqC (wl_end (cF (wc_skip (k_then (wc_seq (sr (aI (wl_end (wc_block ?_)))))))))
  refine wc_loop1 [4, 5, 11, 12, 13, 14, 15, 16, 17, 18, 19, 20, 21, 22, 23, 24, 25] 5
    (fun v w' => ∃ i : Nat, i ≤ n ∧ v = .int .i64 i ∧ Hp w [] w')
    (fun v _ => n - (intOf v).toNat) ?_ ?_
  · exact ⟨0, Nat.zero_le _, rfl, hh⟩
  · clear hh
    rintro ρ' v w' ⟨i, hi, rfl, hh⟩
    by_cases hlt : i < n
    · obtain ⟨s, hs⟩ := get_of_lt (l := b) (k := i) (by omega)
      obtain ⟨ad, rfl, hr⟩ := hS.at_ (by omega)
      obtain ⟨ad2, rfl, hr2⟩ := hS2.at_ (by omega)
      refine wc_seq (sr (mI (mL (lenC ?_))))
      refine lssC (wl_end (cT (wc_skip (k_then (wc_seq (wc_block (wc_seq ?_)))))))
      refine wc_drawn 8 [[(0, none)], [(5, none)], [(17, some 0), (18, some 1)], [(19, some 2)], [(1, none)], [(5, none)], [(21, some 4), (22, some 5)], [(23, some 6)]] [(7, 24), (6, 23), (5, 22), (4, 21), (3, 20), (2, 19), (1, 18), (0, 17)] hh mixed (by kernel_rfl) ?_
      refine dmL ?_
      refine dmI ?_
      refine dis (i) ?_
      refine dLF [_,_,_] (fun _ hj => (hr.ext hj.hp.below).recAt NR.len hs) ?_
      refine dmL ?_
      refine dmI ?_
      refine dis (i) ?_
      refine dLF [_,_,_] (fun _ hj => (hr2.ext hj.hp.below).recAt NR.len hs) ?_
      refine dx_nil ?_
      intro f W hJ hV
      have hb_6 := hJ.bl
      obtain ⟨v24, v23, v22, v21, v20, v19, v18, v17, _⟩ := hV
      replace hh := hJ.hp
      refine wl_cast (updL_K (eql_cons v24 (eql_cons v23 (eql_cons v22 (eql_cons v21 (eql_cons v20 (eql_cons v19 (eql_cons v18 (eql_cons v17 eql_nil))))))))) ?_
      dsimp only [updK]
      clear hJ
      first | refine s_neN_f rfl rfl (by first | assumption | rfl) (by decide) ?_ | refine s_neN_t rfl rfl (by assumption) (by decide) ?_
      refine wl_end (cF (wc_skip (b_norm (k_then (wc_region (mI ?_))))))
      refine addC (aI (wl_nil (k_then ?_)))
      refine ⟨⟨i + 1, by omega, rfl, hh⟩, by show n - (i + 1) < n - i; omega, ?_⟩
      (repeat (first | exact agree_mask _ _ _ | refine agree_upd rfl ?_ | refine agree_mask2 rfl ?_))
    · refine wc_seq (sr (mI (mL (lenC ?_))))
      refine lssC (wl_end (cF ?_))
      refine wc_exit ?_
      refine k_exit (k_exit (b_here (k_then (sr (aB (wl_end (wc_ret ?_)))))))
      refine ret1 (by first | exact .inr rfl | exact .inl rfl) rfl (v_bool rfl) ?_
      exact ⟨rfl, hh.below⟩
end Go.Proofs.YthmmofllajkejaaGreatDoor
