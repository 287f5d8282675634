/- The walks through package box, eighth part: Part. -/
import Derived.Test.YthmmofllajkejaaGreatDoorBoxG
namespace Go.Proofs.YthmmofllajkejaaGreatDoor
open Go.RowKit
-- umode
-- skipu
theorem bPart_calls (L : Option Addr) (n c : Nat) (b : List SR) (M : Option Addr) (m c2 : Nat) (hs : List Int) (k : Nat) (w : World) (hT : Tab w) (hS : Sl w L n 6 (recs SR.cells b)) (hb : ∀ s ∈ b, s.fin k) (hS2 : Sl w M m 1 (i64s hs)) (hn : n ≤ 1000000) (hk : k + 2 * m ≤ 3000000) (hml : hs.length = m) :
    Calls Tryz.prog 50 #[.slice L n c, .slice M m c2] w fun r w' => (match partS (b.map SR.f) hs with | none => r = .returned (.tuple #[.slice none 0 0, .int .i64 1]) | some b' => ∃ A c', r = .returned (.tuple #[.slice A n c', .int .i64 0]) ∧ w'.ownsRow w.heap.size 80 6 (.slice A n c') n (recs SR.cells b')) ∧ Below w.heap.size w w' := by
  have hh := Hp.start w
  refine calls_vc (N := 39) (l := [.slice L n c, .slice M m c2]) Tryz.func50 rfl rfl (by simp) ?_
  refine sr (aL (aI (wl_end (sr (mL ?_)))))
  refine s_callf (bForm_calls L n c b _ (hT.hp hh) (hS.ext hh.below) (fun s h => ⟨(hb s h).1.ok, (hb s h).2.ok⟩) hn) FnIs.out rfl (by decide) ?_
  rintro e_ w12 ⟨A12, c12, rfl, hown_, hb_⟩
  refine ⟨_, rfl, ?_⟩
  replace hh := hh.push_new (x := .row _ _ _ _ _ _) hb_ hown_
  refine aL (wl_end (wc_seq (sr (mL (lenC (mI (wl_end (wc_block ?_))))))))
  refine wc_loop2 [0, 4, 5, 7, 8, 9, 10, 15, 16, 17, 18, 19, 20, 21, 22, 23, 24, 25, 26, 27, 28, 29, 30, 31, 32, 33, 34, 35, 36, 37] 0 15
    (fun v0 v w' => ∃ (i c0 : Nat) (A : Option Addr) (b' : List SR), i ≤ m ∧ v = .int .i64 i ∧ v0 = .slice A n c0 ∧ partS (b.map SR.f) (hs.take i) = some b' ∧ (∀ s ∈ b', s.fin (k + 2 * i)) ∧ Hp w [.row A n c0 80 6 (recs SR.cells b')] w')
    (fun _ v _ => m - (intOf v).toNat) ?_ ?_
  · refine ⟨0, _, _, b.map SR.f, Nat.zero_le _, rfl, rfl, rfl, fun s hs' => ?_, hh⟩
    obtain ⟨u, hu, rfl⟩ := List.mem_map.1 hs'
    exact SR.fin_f (hb u hu) (by omega)
  · clear hh
    rintro ρ' v0 v w' ⟨i, c0, A, b', hi, rfl, rfl, hp, hfn, hh⟩
    have hf := hh.sl_row (i := 0) rfl
    have hlb := hf.recLen SR.len (by decide)
    by_cases hlt : i < m
    · obtain ⟨h, hh1⟩ := get_of_lt (l := hs) (k := i) (by omega)
      have hgi : (i64s hs)[i]? = some (.int .i64 h) := by simp [i64s, hh1]
      have hps := partS_snoc b hs h
      obtain ⟨ad, rfl, hr⟩ := hS2.at_ (by omega)
      rcases hv : halveS b' h with _ | b2
      · refine sr ?_
        refine lssC (wl_end (wc_seq (cT (wc_skip (k_then (wc_seq (wc_block (sr ?_))))))))
        refine s_indexSl (k := i) UIs.out TIs.size rfl rfl (by omega) (by omega) (by decide) ?_
        refine s_load1 TIs.out rfl ((hr.ext hh.below).at1 hgi) (by decide) ?_
        refine aI (wl_end (sr (mL (mI ?_))))
        refine s_shr rfl rfl (by omega) (by decide) ?_
        rw [show min (1 : Int).toNat IntKind.i64.bits = 1 from rfl, show (2 : Int) ^ 1 = 2 from rfl]
        have hbad : h.fdiv 2 < 0 ∨ (n : Int) ≤ h.fdiv 2 := by
          unfold halveS at hv
          split at hv
          · exact .inl (by assumption)
          · rw [Option.map_eq_none_iff, List.getElem?_eq_none_iff] at hv
            omega
        refine s_callf (bHalve_bad _ n _ _ _ hbad) FnIs.out rfl (by decide) ?_
        rintro e_ w23 ⟨rfl, hb_⟩
        refine ⟨_, rfl, ?_⟩
        replace hh := hh.ext hb_
        refine mT ?_
        refine exC ?_
        refine exC ?_
        refine exC ?_
        refine aL (aL (aI (wl_end (wc_block (sr (mI ?_))))))
        refine neqC (aB (wl_end (cT (sr (mI (aL (aI (wl_end (wc_ret (b_ret (b_ret ?_)))))))))))
        refine k_ret (k_ret (b_ret (k_ret ?_)))
        refine ret2 (by first | exact .inr rfl | exact .inl rfl) rfl (v_sl rfl) (v_int rfl) ?_
        have : partS (b.map SR.f) hs = none := partS_none (i + 1) (by rw [take_snoc hh1, partS_snoc, hp]; exact hv)
        rw [this]
        exact ⟨rfl, hh.below⟩
      · have hfin := halveS_fin hfn (by omega) hv
        have hv2 := hv
        unfold halveS at hv2
        split at hv2
        · cases hv2
        rename_i hpos
        rcases hsa : b'[(h.fdiv 2).toNat]? with _ | s
        · rw [hsa] at hv2; cases hv2
        rw [hsa] at hv2
        cases hv2
        have hcall := fun w1 hT1 hS1 => bHalve_calls A n c0 b' (h.fdiv 2).toNat s (k + 2 * i) w1 hT1 hS1 hfn hn (by omega) hsa
        rw [Int.toNat_of_nonneg (by omega)] at hcall
        by_cases g : h % 2 = 1
        · refine sr ?_
          refine lssC (wl_end (wc_seq (cT (wc_skip (k_then (wc_seq (wc_block (sr ?_))))))))
          refine s_indexSl (k := i) UIs.out TIs.size rfl rfl (by omega) (by omega) (by decide) ?_
          refine s_load1 TIs.out rfl ((hr.ext hh.below).at1 hgi) (by decide) ?_
          refine aI (wl_end (sr (mL (mI ?_))))
          refine s_shr rfl rfl (by omega) (by decide) ?_
          rw [show min (1 : Int).toNat IntKind.i64.bits = 1 from rfl, show (2 : Int) ^ 1 = 2 from rfl]
          refine s_callf (hcall _ (hT.hp hh) hf) FnIs.out rfl (by decide) ?_
          rintro e_ w_ ⟨A1, c1, A2, c2', rfl, h2⟩
          refine ⟨_, rfl, ?_⟩
          replace hh := hh.join h2
          refine mT ?_
          refine exC ?_
          refine exC ?_
          refine exC ?_
          refine aL (aL (aI (wl_end (wc_block (sr (mI ?_))))))
          refine neqC (aB (wl_end (cF (sr (mI ?_)))))
          refine s_and1 rfl rfl (by decide) ?_
          refine eqlC (aB (wl_end (cT (wc_region (mL (aL (wl_nil (b_norm (b_norm (k_then (wc_region ?_)))))))))))
          refine addC (mI (wl_nil (k_then ?_)))
          replace hh := hh.sub (List.Sublist.cons_cons _ (List.Sublist.cons _ (List.Sublist.cons _ List.Sublist.slnil)))
          refine ⟨⟨i + 1, _, _, _, by omega, rfl, rfl, by rw [take_snoc hh1, partS_snoc, hp]; exact hv, fun s hs => by have := hfin.1 s hs; rwa [show k + 2 * i + 2 = k + 2 * (i + 1) by omega] at this, ?_⟩, by show m - (i + 1) < m - i; omega, ?_⟩
          · rw [decide_eq_true g]; exact hh
          · (repeat (first | exact agree_mask _ _ _ | refine agree_upd rfl ?_ | refine agree_mask2 rfl ?_))
        · refine sr ?_
          refine lssC (wl_end (wc_seq (cT (wc_skip (k_then (wc_seq (wc_block (sr ?_))))))))
          refine s_indexSl (k := i) UIs.out TIs.size rfl rfl (by omega) (by omega) (by decide) ?_
          refine s_load1 TIs.out rfl ((hr.ext hh.below).at1 hgi) (by decide) ?_
          refine aI (wl_end (sr (mL (mI ?_))))
          refine s_shr rfl rfl (by omega) (by decide) ?_
          rw [show min (1 : Int).toNat IntKind.i64.bits = 1 from rfl, show (2 : Int) ^ 1 = 2 from rfl]
          refine s_callf (hcall _ (hT.hp hh) hf) FnIs.out rfl (by decide) ?_
          rintro e_ w_ ⟨A1, c1, A2, c2', rfl, h2⟩
          refine ⟨_, rfl, ?_⟩
          replace hh := hh.join h2
          refine mT ?_
          refine exC ?_
          refine exC ?_
          refine exC ?_
          refine aL (aL (aI (wl_end (wc_block (sr (mI ?_))))))
          refine neqC (aB (wl_end (cF (sr (mI ?_)))))
          refine s_and1 rfl rfl (by decide) ?_
          refine eqlC (aB (wl_end (cF (wc_region (mL (aL (wl_nil (b_norm (b_norm (k_then (wc_region ?_)))))))))))
          refine addC (mI (wl_nil (k_then ?_)))
          replace hh := hh.sub (List.Sublist.cons _ (List.Sublist.cons_cons _ (List.Sublist.cons _ List.Sublist.slnil)))
          refine ⟨⟨i + 1, _, _, _, by omega, rfl, rfl, by rw [take_snoc hh1, partS_snoc, hp]; exact hv, fun s hs => by have := hfin.1 s hs; rwa [show k + 2 * i + 2 = k + 2 * (i + 1) by omega] at this, ?_⟩, by show m - (i + 1) < m - i; omega, ?_⟩
          · rw [decide_eq_false g]; exact hh
          · (repeat (first | exact agree_mask _ _ _ | refine agree_upd rfl ?_ | refine agree_mask2 rfl ?_))
    · obtain rfl : i = m := by omega
      rw [List.take_of_length_le (by omega)] at hp
      refine sr ?_
      refine lssC (wl_end (wc_seq (cF ?_)))
      refine wc_exit ?_
      refine k_exit (k_exit (b_here (k_then (sr (mL (aL (aI (wl_end (wc_ret ?_)))))))))
      refine ret2 (by first | exact .inr rfl | exact .inl rfl) rfl (v_sl rfl) (v_int rfl) ?_
      rw [hp]
      exact ⟨⟨_, _, rfl, hh.at_ (i := 0) rfl⟩, hh.below⟩
end Go.Proofs.YthmmofllajkejaaGreatDoor
