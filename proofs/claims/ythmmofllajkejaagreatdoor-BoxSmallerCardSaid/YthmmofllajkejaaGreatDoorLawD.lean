/- The walks through layer 4's laws (ogeelaw04): the package's own helpers. -/
import Derived.Test.YthmmofllajkejaaGreatDoorRDy
namespace Go.Proofs.YthmmofllajkejaaGreatDoor
open Go.RowKit
-- umode
def D (m e : Int) : Dyadic := Dyadic.ofIntWithPrec m (-e)
theorem D_sz {m e : Int} (hm : m.natAbs < 256) (h1 : -16 ≤ e) (h2 : e ≤ 16) : Sz 24 (D m e) := by
  have := Sz.raw (a := ⟨iN m, iM m, e⟩) (m := 8) (E := 16) (by show 8 * (iM m).size ≤ 8; rw [iM_size]; have : blen m.natAbs ≤ 8 := blen_le hm; omega) h1 h2
  rw [NR.d, NR.i, iv_of] at this
  exact this
theorem num_calls (m e : Int) (w : World) (h1 : -9223372036854775808 ≤ m) (h2 : m ≤ 9223372036854775807) (h3 : -1000000000000 ≤ e) (h4 : e ≤ 1000000000000) :
    Calls Tryz.prog 56 #[.int .i64 m, .int .i64 e] w fun r w' => r = .returned (.agg #[.bool (nR (D m e)).neg, .string (nR (D m e)).mag, .int .i64 (nR (D m e)).e]) ∧ Below w.heap.size w w' := by
  have hh := Hp.start w
  have hsz : (iM m).size ≤ 10000000 := by
    rw [iM_size]
    have : blen m.natAbs ≤ 64 := blen_le (by omega)
    omega
  have hc := fun w1 => yMake_at (z := m) (e := e) (x := D m e) w1 rfl hsz h3 h4
  refine calls_vc (N := 9) (l := [.int .i64 m, .int .i64 e]) Tryz.func56 rfl rfl (by simp) ?_
  refine sr ?_
  refine alC hh ?_
  intro b4 w4 hh
  refine wl_end (sr (mI ?_))
  refine s_callf (xOf_calls m _ h1 h2) FnIs.out rfl (by decide) ?_
  rintro e_ w6 ⟨rfl, hb_⟩
  refine ⟨_, rfl, ?_⟩
  replace hh := hh.ext hb_
  refine mI ?_
  refine s_callf (hc _) FnIs.out rfl (by decide) ?_
  rintro e_ w8 ⟨rfl, hb_⟩
  refine ⟨_, rfl, ?_⟩
  replace hh := hh.ext hb_
  refine stC hh 0 [_,_,_] ?_
  intro ws hh
  replace hh : Hp _ (.blk _ _ [_, _, _] _ :: _) _ := hh
  refine wl_end (wc_ret ?_)
  refine retc1 (by first | exact .inr rfl | exact .inl rfl) rfl (r_cell rfl (lv_agg (vs := [_, _, _]) TIs.out (hh.rd_blk_at (i := 0) (n := 3) rfl rfl) rfl) r_nil) ?_
  exact ⟨rfl, hh.below⟩
def longB (most far : Int) (l : List NR) : Bool := l.any fun a => decide (most < a.mag.size ∨ a.e < -far ∨ far < a.e)
theorem long_calls (most far : Int) (L : Option Addr) (n c : Nat) (l : List NR) (w : World) (hS : Sl w L n 3 (recs NR.cells l)) (hn : n ≤ 1000000) (hf1 : 0 ≤ far) (hf2 : far ≤ 1000000) :
    Calls Tryz.prog 11 #[.int .i64 most, .int .i64 far, .slice L n c] w fun r w' => r = .returned (.bool (longB most far l)) ∧ Below w.heap.size w w' := by
  have hln := hS.recLen NR.len (by omega)
  have hh := Hp.start w
  refine calls_vc (N := 42) (l := [.int .i64 most, .int .i64 far, .slice L n c]) Tryz.func11 rfl rfl (by simp) ?_
  refine sr (aB (wl_end (wc_seq (sr (aI (wl_end (wc_block ?_)))))))
  refine wc_loop1 [6, 7, 8, 9, 10, 11, 12, 13, 14, 15, 16, 17, 18, 19, 20, 21, 22, 23, 24, 25, 26, 27, 28, 29, 30, 31, 32, 33, 34, 35, 36, 37, 38, 39, 40, 41] 7
    (fun j w' => ∃ (i : Nat), i ≤ n ∧ j = .int .i64 i ∧ longB most far (l.take i) = false ∧ Hp w [] w')
    (fun j _ => n - (intOf j).toNat) ?_ ?_
  · exact ⟨0, Nat.zero_le _, rfl, rfl, hh⟩
  · clear hh
    rintro ρ' j w' ⟨i, hi, rfl, hS2, hh⟩
    by_cases hlt : i < n
    · obtain ⟨x, hx⟩ := get_of_lt (l := l) (k := i) (by omega)
      obtain ⟨ad, rfl, hr⟩ := hS.at_ (by omega)
      have hxm := List.mem_of_getElem? hx
      have hS3 : longB most far (l.take (i + 1)) = decide (most < x.mag.size ∨ x.e < -far ∨ far < x.e) := by
        unfold longB at hS2 ⊢
        rw [take_snoc hx, List.any_append, hS2, Bool.false_or, List.any_cons, List.any_nil, Bool.or_false]
      have hT : (most < x.mag.size ∨ x.e < -far ∨ far < x.e) → longB most far l = true := fun h => List.any_eq_true.2 ⟨x, hxm, decide_eq_true h⟩
      have c1 : w'.cell? (((ad.add (i * 3)).add 0).add 1) = some (.string x.mag) := ((hr.ext hh.below).recAt NR.len hx) 1 _ rfl
      have c2 : w'.cell? ((ad.add (i * 3)).add 2) = some (.int .i64 x.e) := ((hr.ext hh.below).recAt NR.len hx) 2 _ rfl
      by_cases h1 : most < x.mag.size
      · refine wc_seq (sr (mI (mL (lenC ?_))))
        refine lssC (wl_end (cT (wc_skip (k_then (wc_seq (wc_block (sr (mL (mI ?_)))))))))
        refine s_indexSl (k := i) UIs.out TIs.size rfl rfl (by omega) (by omega) (by decide) ?_
        refine s_fieldAddrA FIs.out rfl (by decide) ?_
        refine s_fieldAddrA FIs.out rfl (by decide) ?_
        refine s_load1 TIs.out rfl c1 (by decide) ?_
        refine s_len_str UIs.out rfl (by decide) ?_
        refine mI ?_
        refine gtrC (mB ?_)
        first | refine gS ?_ | (refine gT ?_; refine mL ?_) | refine gV ?_
        first | refine gS ?_ | (refine gT ?_; refine mI ?_) | refine gV ?_
        first | refine gS ?_ | (refine gT ?_; refine s_indexSl (k := i) UIs.out TIs.size rfl rfl (by omega) (by omega) (by decide) ?_) | refine gV ?_
        first | refine gS ?_ | (refine gT ?_; refine s_fieldAddrA FIs.out rfl (by decide) ?_) | refine gV ?_
        first | refine gS ?_ | (refine gT ?_; refine s_load1 TIs.out rfl c2 (by decide) ?_) | refine gV ?_
        first | refine gS ?_ | (refine gT ?_; refine mI ?_) | refine gV ?_
        first | refine gS ?_ | (refine gT ?_; refine s_negi rfl (by omega) (by omega) (by decide) ?_) | refine gV ?_
        first | refine gS ?_ | (refine gT ?_; refine lssC ?_) | refine gV ?_
        first | refine pkT ?_ | refine pkF ?_
        refine mB ?_
        first | refine gS ?_ | (refine gT ?_; refine mL ?_) | refine gV ?_
        first | refine gS ?_ | (refine gT ?_; refine mI ?_) | refine gV ?_
        first | refine gS ?_ | (refine gT ?_; refine s_indexSl (k := i) UIs.out TIs.size rfl rfl (by omega) (by omega) (by decide) ?_) | refine gV ?_
        first | refine gS ?_ | (refine gT ?_; refine s_fieldAddrA FIs.out rfl (by decide) ?_) | refine gV ?_
        first | refine gS ?_ | (refine gT ?_; refine s_load1 TIs.out rfl c2 (by decide) ?_) | refine gV ?_
        first | refine gS ?_ | (refine gT ?_; refine mI ?_) | refine gV ?_
        first | refine gS ?_ | (refine gT ?_; refine gtrC ?_) | refine gV ?_
        first | refine pkT ?_ | refine pkF ?_
        refine wl_end (cT (sr (aB (wl_end (wc_ret (b_ret (k_ret (k_ret (b_ret (k_ret ?_))))))))))
        refine ret1 (by first | exact .inr rfl | exact .inl rfl) rfl (v_bool rfl) ?_
        rw [hT (.inl h1)]
        exact ⟨rfl, hh.below⟩
      · by_cases h2 : x.e < -far
        · refine wc_seq (sr (mI (mL (lenC ?_))))
          refine lssC (wl_end (cT (wc_skip (k_then (wc_seq (wc_block (sr (mL (mI ?_)))))))))
          refine s_indexSl (k := i) UIs.out TIs.size rfl rfl (by omega) (by omega) (by decide) ?_
          refine s_fieldAddrA FIs.out rfl (by decide) ?_
          refine s_fieldAddrA FIs.out rfl (by decide) ?_
          refine s_load1 TIs.out rfl c1 (by decide) ?_
          refine s_len_str UIs.out rfl (by decide) ?_
          refine mI ?_
          refine gtrC (mB ?_)
          first | refine gS ?_ | (refine gT ?_; refine mL ?_) | refine gV ?_
          first | refine gS ?_ | (refine gT ?_; refine mI ?_) | refine gV ?_
          first | refine gS ?_ | (refine gT ?_; refine s_indexSl (k := i) UIs.out TIs.size rfl rfl (by omega) (by omega) (by decide) ?_) | refine gV ?_
          first | refine gS ?_ | (refine gT ?_; refine s_fieldAddrA FIs.out rfl (by decide) ?_) | refine gV ?_
          first | refine gS ?_ | (refine gT ?_; refine s_load1 TIs.out rfl c2 (by decide) ?_) | refine gV ?_
          first | refine gS ?_ | (refine gT ?_; refine mI ?_) | refine gV ?_
          first | refine gS ?_ | (refine gT ?_; refine s_negi rfl (by omega) (by omega) (by decide) ?_) | refine gV ?_
          first | refine gS ?_ | (refine gT ?_; refine lssC ?_) | refine gV ?_
          first | refine pkT ?_ | refine pkF ?_
          refine mB ?_
          first | refine gS ?_ | (refine gT ?_; refine mL ?_) | refine gV ?_
          first | refine gS ?_ | (refine gT ?_; refine mI ?_) | refine gV ?_
          first | refine gS ?_ | (refine gT ?_; refine s_indexSl (k := i) UIs.out TIs.size rfl rfl (by omega) (by omega) (by decide) ?_) | refine gV ?_
          first | refine gS ?_ | (refine gT ?_; refine s_fieldAddrA FIs.out rfl (by decide) ?_) | refine gV ?_
          first | refine gS ?_ | (refine gT ?_; refine s_load1 TIs.out rfl c2 (by decide) ?_) | refine gV ?_
          first | refine gS ?_ | (refine gT ?_; refine mI ?_) | refine gV ?_
          first | refine gS ?_ | (refine gT ?_; refine gtrC ?_) | refine gV ?_
          first | refine pkT ?_ | refine pkF ?_
          refine wl_end (cT (sr (aB (wl_end (wc_ret (b_ret (k_ret (k_ret (b_ret (k_ret ?_))))))))))
          refine ret1 (by first | exact .inr rfl | exact .inl rfl) rfl (v_bool rfl) ?_
          rw [hT (.inr (.inl h2))]
          exact ⟨rfl, hh.below⟩
        · by_cases h3 : far < x.e
          · refine wc_seq (sr (mI (mL (lenC ?_))))
            refine lssC (wl_end (cT (wc_skip (k_then (wc_seq (wc_block (sr (mL (mI ?_)))))))))
            refine s_indexSl (k := i) UIs.out TIs.size rfl rfl (by omega) (by omega) (by decide) ?_
            refine s_fieldAddrA FIs.out rfl (by decide) ?_
            refine s_fieldAddrA FIs.out rfl (by decide) ?_
            refine s_load1 TIs.out rfl c1 (by decide) ?_
            refine s_len_str UIs.out rfl (by decide) ?_
            refine mI ?_
            refine gtrC (mB ?_)
            first | refine gS ?_ | (refine gT ?_; refine mL ?_) | refine gV ?_
            first | refine gS ?_ | (refine gT ?_; refine mI ?_) | refine gV ?_
            first | refine gS ?_ | (refine gT ?_; refine s_indexSl (k := i) UIs.out TIs.size rfl rfl (by omega) (by omega) (by decide) ?_) | refine gV ?_
            first | refine gS ?_ | (refine gT ?_; refine s_fieldAddrA FIs.out rfl (by decide) ?_) | refine gV ?_
            first | refine gS ?_ | (refine gT ?_; refine s_load1 TIs.out rfl c2 (by decide) ?_) | refine gV ?_
            first | refine gS ?_ | (refine gT ?_; refine mI ?_) | refine gV ?_
            first | refine gS ?_ | (refine gT ?_; refine s_negi rfl (by omega) (by omega) (by decide) ?_) | refine gV ?_
            first | refine gS ?_ | (refine gT ?_; refine lssC ?_) | refine gV ?_
            first | refine pkT ?_ | refine pkF ?_
            refine mB ?_
            first | refine gS ?_ | (refine gT ?_; refine mL ?_) | refine gV ?_
            first | refine gS ?_ | (refine gT ?_; refine mI ?_) | refine gV ?_
            first | refine gS ?_ | (refine gT ?_; refine s_indexSl (k := i) UIs.out TIs.size rfl rfl (by omega) (by omega) (by decide) ?_) | refine gV ?_
            first | refine gS ?_ | (refine gT ?_; refine s_fieldAddrA FIs.out rfl (by decide) ?_) | refine gV ?_
            first | refine gS ?_ | (refine gT ?_; refine s_load1 TIs.out rfl c2 (by decide) ?_) | refine gV ?_
            first | refine gS ?_ | (refine gT ?_; refine mI ?_) | refine gV ?_
            first | refine gS ?_ | (refine gT ?_; refine gtrC ?_) | refine gV ?_
            first | refine pkT ?_ | refine pkF ?_
            refine wl_end (cT (sr (aB (wl_end (wc_ret (b_ret (k_ret (k_ret (b_ret (k_ret ?_))))))))))
            refine ret1 (by first | exact .inr rfl | exact .inl rfl) rfl (v_bool rfl) ?_
            rw [hT (.inr (.inr h3))]
            exact ⟨rfl, hh.below⟩
          · refine wc_seq (sr (mI (mL (lenC ?_))))
            refine lssC (wl_end (cT (wc_skip (k_then (wc_seq (wc_block (sr (mL (mI ?_)))))))))
            refine s_indexSl (k := i) UIs.out TIs.size rfl rfl (by omega) (by omega) (by decide) ?_
            refine s_fieldAddrA FIs.out rfl (by decide) ?_
            refine s_fieldAddrA FIs.out rfl (by decide) ?_
            refine s_load1 TIs.out rfl c1 (by decide) ?_
            refine s_len_str UIs.out rfl (by decide) ?_
            refine mI ?_
            refine gtrC (mB ?_)
            first | refine gS ?_ | (refine gT ?_; refine mL ?_) | refine gV ?_
            first | refine gS ?_ | (refine gT ?_; refine mI ?_) | refine gV ?_
            first | refine gS ?_ | (refine gT ?_; refine s_indexSl (k := i) UIs.out TIs.size rfl rfl (by omega) (by omega) (by decide) ?_) | refine gV ?_
            first | refine gS ?_ | (refine gT ?_; refine s_fieldAddrA FIs.out rfl (by decide) ?_) | refine gV ?_
            first | refine gS ?_ | (refine gT ?_; refine s_load1 TIs.out rfl c2 (by decide) ?_) | refine gV ?_
            first | refine gS ?_ | (refine gT ?_; refine mI ?_) | refine gV ?_
            first | refine gS ?_ | (refine gT ?_; refine s_negi rfl (by omega) (by omega) (by decide) ?_) | refine gV ?_
            first | refine gS ?_ | (refine gT ?_; refine lssC ?_) | refine gV ?_
            first | refine pkT ?_ | refine pkF ?_
            refine mB ?_
            first | refine gS ?_ | (refine gT ?_; refine mL ?_) | refine gV ?_
            first | refine gS ?_ | (refine gT ?_; refine mI ?_) | refine gV ?_
            first | refine gS ?_ | (refine gT ?_; refine s_indexSl (k := i) UIs.out TIs.size rfl rfl (by omega) (by omega) (by decide) ?_) | refine gV ?_
            first | refine gS ?_ | (refine gT ?_; refine s_fieldAddrA FIs.out rfl (by decide) ?_) | refine gV ?_
            first | refine gS ?_ | (refine gT ?_; refine s_load1 TIs.out rfl c2 (by decide) ?_) | refine gV ?_
            first | refine gS ?_ | (refine gT ?_; refine mI ?_) | refine gV ?_
            first | refine gS ?_ | (refine gT ?_; refine gtrC ?_) | refine gV ?_
            first | refine pkT ?_ | refine pkF ?_
            refine wl_end (cF (wc_skip (b_norm (k_then (wc_region (mI ?_))))))
            refine addC (aI (wl_nil (k_then ?_)))
            refine ⟨⟨i + 1, by omega, rfl, by rw [hS3]; exact decide_eq_false (by omega), hh⟩, by show n - (i + 1) < n - i; omega, ?_⟩
            (repeat (first | exact agree_mask _ _ _ | refine agree_upd rfl ?_ | refine agree_mask2 rfl ?_))
    · refine wc_seq (sr (mI (mL (lenC ?_))))
      refine lssC (wl_end (cF ?_))
      refine wc_exit ?_
      refine k_exit (k_exit (b_here (k_then (sr (aB (wl_end (wc_ret ?_)))))))
      refine ret1 (by first | exact .inr rfl | exact .inl rfl) rfl (v_bool rfl) ?_
      rw [List.take_of_length_le (by omega)] at hS2
      rw [hS2]
      exact ⟨rfl, hh.below⟩
/-- The chapter's examples hold. -/
theorem awake_calls (w : World) (hT : Tab w) :
    Calls Tryz.prog 12 #[] w fun r w' => r = .returned (.bool true) ∧ Below w.heap.size w w' := by
  have hh := Hp.start w
  have ok : ∀ {m e : Int}, m.natAbs < 256 → -16 ≤ e → e ≤ 16 → (nR (D m e)).ok := fun h1 h2 h3 => (D_sz h1 h2 h3).ok (by omega)
  have c2 : ∀ w1, Tab w1 → Calls Tryz.prog 54 #[.agg #[.bool (iN 12), .string (iM 12)], .int .i64 (-1)] w1 fun r w' => r = .returned (.agg #[.bool (nR (D 3 1)).neg, .string (nR (D 3 1)).mag, .int .i64 (nR (D 3 1)).e]) ∧ Below w1.heap.size w1 w' := fun w1 hT1 => by
    have := dMake_calls (iN 12) (iM 12) (-1) w1 hT1 (by rw [iM_size]; decide) (by omega) (by omega)
    rw [iv_of, show Dyadic.ofIntWithPrec 12 (-(-1)) = D 3 1 by decide +kernel] at this
    exact this
  have c7 : ∀ w1, Tab w1 → Calls Tryz.prog 54 #[.agg #[.bool false, .string (ByteArray.mk #[0])], .int .i64 5] w1 fun r w' => r = .returned (.agg #[.bool false, .string (ByteArray.mk #[]), .int .i64 0]) ∧ Below w1.heap.size w1 w' := fun w1 hT1 => by
    have := dMake_calls false (ByteArray.mk #[0]) 5 w1 hT1 (by decide) (by omega) (by omega)
    rw [show Dyadic.ofIntWithPrec (iv false (ByteArray.mk #[0])) (-5) = 0 by decide +kernel] at this
    exact this
  have c15 : ∀ (A : Option Addr) (cc : Nat) (w1 : World), Tab w1 → Sl w1 A 2 3 (recs NR.cells [nR (D 1 (-1)), nR (D 1 (-2))]) → Calls Tryz.prog 15 #[.slice A 2 cc] w1 fun r w' => r = .returned (.agg #[.bool (nR (D 3 (-2))).neg, .string (nR (D 3 (-2))).mag, .int .i64 (nR (D 3 (-2))).e]) ∧ Below w1.heap.size w1 w' := fun A cc w1 hT1 hsl => by
    have := dAdd_calls A 2 cc [nR (D 1 (-1)), nR (D 1 (-2))] w1 hT1 hsl (by simpa using ⟨ok (by decide) (by omega) (by omega), ok (by decide) (by omega) (by omega)⟩) 24 (by simpa [nR_d] using ⟨D_sz (by decide) (by omega) (by omega), D_sz (by decide) (by omega) (by omega)⟩) (by omega)
    rw [show sumD ([nR (D 1 (-1)), nR (D 1 (-2))].map NR.d) = D 3 (-2) by simp only [List.map_cons, List.map_nil, nR_d]; decide +kernel] at this
    exact this
  have c23 : ∀ (A : Option Addr) (cc : Nat) (w1 : World), Tab w1 → Sl w1 A 2 3 (recs NR.cells [nR (D 3 (-2)), nR (D (-1) 1)]) → Calls Tryz.prog 18 #[.slice A 2 cc] w1 fun r w' => r = .returned (.agg #[.bool (nR (D (-3) (-1))).neg, .string (nR (D (-3) (-1))).mag, .int .i64 (nR (D (-3) (-1))).e]) ∧ Below w1.heap.size w1 w' := fun A cc w1 hT1 hsl => by
    have := dMul_calls A 2 cc [nR (D 3 (-2)), nR (D (-1) 1)] w1 hT1 hsl (by simpa using ⟨ok (by decide) (by omega) (by omega), ok (by decide) (by omega) (by omega)⟩) 24 (by simpa [nR_d] using ⟨D_sz (by decide) (by omega) (by omega), D_sz (by decide) (by omega) (by omega)⟩) (by omega) (by omega)
    rw [show prodD ([nR (D 3 (-2)), nR (D (-1) 1)].map NR.d) = D (-3) (-1) by simp only [List.map_cons, List.map_nil, nR_d]; decide +kernel] at this
    exact this
  have c30 : ∀ w1, Tab w1 → Calls Tryz.prog 57 #[.agg #[.bool (nR (D 1 0)).neg, .string (nR (D 1 0)).mag, .int .i64 (nR (D 1 0)).e], .agg #[.bool (nR (D 1 0)).neg, .string (nR (D 1 0)).mag, .int .i64 (nR (D 1 0)).e]] w1 fun r w' => r = .returned (.agg #[.bool false, .string (ByteArray.mk #[]), .int .i64 0]) ∧ Below w1.heap.size w1 w' := fun w1 hT1 => by
    have := dSub_calls (nR (D 1 0)) (nR (D 1 0)) w1 hT1 (ok (by decide) (by omega) (by omega)) (ok (by decide) (by omega) (by omega)) 24 (by rw [nR_d]; exact D_sz (by decide) (by omega) (by omega)) (by rw [nR_d]; exact D_sz (by decide) (by omega) (by omega)) (by omega)
    rw [nR_d, show D 1 0 - D 1 0 = 0 by decide +kernel] at this
    exact this
  have c36 : ∀ w1, Tab w1 → Calls Tryz.prog 58 #[.agg #[.bool (nR (D (-3) (-3))).neg, .string (nR (D (-3) (-3))).mag, .int .i64 (nR (D (-3) (-3))).e], .int .i64 (1)] w1 fun r w' => r = .returned (.agg #[.bool (nR (D (-1) (-1))).neg, .string (nR (D (-1) (-1))).mag, .int .i64 (nR (D (-1) (-1))).e]) ∧ Below w1.heap.size w1 w' := fun w1 hT1 => by
    have := dFloor_calls (nR (D (-3) (-3))) 1 w1 hT1 (ok (by decide) (by omega) (by omega)) (by omega) (by omega)
    rw [nR_d, show (D (-3) (-3)).roundDown 1 = D (-1) (-1) by decide +kernel] at this
    exact this
  have c42 : ∀ w1, Tab w1 → Calls Tryz.prog 59 #[.agg #[.bool (nR (D (-3) (-3))).neg, .string (nR (D (-3) (-3))).mag, .int .i64 (nR (D (-3) (-3))).e], .int .i64 (1)] w1 fun r w' => r = .returned (.agg #[.bool false, .string (ByteArray.mk #[]), .int .i64 0]) ∧ Below w1.heap.size w1 w' := fun w1 hT1 => by
    have := dCeil_calls (nR (D (-3) (-3))) 1 w1 hT1 (ok (by decide) (by omega) (by omega)) (by rw [nR_d]; exact ok (by decide) (by omega) (by omega)) (by omega) (by omega)
    rw [nR_d, show -((-(D (-3) (-3))).roundDown 1) = 0 by decide +kernel] at this
    exact this
  have c48 : ∀ w1, Tab w1 → Calls Tryz.prog 58 #[.agg #[.bool (nR (D (5) (0))).neg, .string (nR (D (5) (0))).mag, .int .i64 (nR (D (5) (0))).e], .int .i64 (-2)] w1 fun r w' => r = .returned (.agg #[.bool (nR (D 4 0)).neg, .string (nR (D 4 0)).mag, .int .i64 (nR (D 4 0)).e]) ∧ Below w1.heap.size w1 w' := fun w1 hT1 => by
    have := dFloor_calls (nR (D (5) (0))) (-2) w1 hT1 (ok (by decide) (by omega) (by omega)) (by omega) (by omega)
    rw [nR_d, show (D (5) (0)).roundDown (-2) = D 4 0 by decide +kernel] at this
    exact this
  have c56 : ∀ w1, Tab w1 → Calls Tryz.prog 13 #[.agg #[.bool (iN 2), .string (iM 2), .int .i64 (-3)], .agg #[.bool (nR (D 1 (-2))).neg, .string (nR (D 1 (-2))).mag, .int .i64 (nR (D 1 (-2))).e]] w1 fun r w' => r = .returned (.int .i64 0) ∧ Below w1.heap.size w1 w' := fun w1 hT1 => by
    have := dCmp_calls ⟨iN 2, iM 2, -3⟩ (nR (D 1 (-2))) w1 hT1 ⟨by show (iM 2).size ≤ 1000000; rw [iM_size]; decide, by decide, by decide⟩ (ok (by decide) (by omega) (by omega))
    rw [nR_d, show cmpD (NR.d ⟨iN 2, iM 2, -3⟩) (D 1 (-2)) = 0 by rw [NR.d, NR.i, iv_of]; decide +kernel] at this
    exact this
  have c61 : ∀ w1, Tab w1 → Calls Tryz.prog 14 #[.agg #[.bool (nR (D (3) (0))).neg, .string (nR (D (3) (0))).mag, .int .i64 (nR (D (3) (0))).e], .int .i64 (-2)] w1 fun r w' => r = .returned (.agg #[.bool (nR (D 3 (-2))).neg, .string (nR (D 3 (-2))).mag, .int .i64 (nR (D 3 (-2))).e]) ∧ Below w1.heap.size w1 w' := fun w1 hT1 => by
    have := dShift_calls (nR (D (3) (0))) (-2) w1 hT1 (by have := (ok (m := 3) (e := 0) (by decide) (by omega) (by omega)).1; omega) (by have := (ok (m := 3) (e := 0) (by decide) (by omega) (by omega)).2; omega) (by have := (ok (m := 3) (e := 0) (by decide) (by omega) (by omega)).2; omega) (by omega) (by omega)
    rw [nR_d, show D (3) (0) * twoD (-2) = D 3 (-2) by decide +kernel] at this
    exact this
  have c67 : ∀ w1, Tab w1 → Calls Tryz.prog 60 #[.agg #[.bool (nR (D (1) (-1))).neg, .string (nR (D (1) (-1))).mag, .int .i64 (nR (D (1) (-1))).e], .int .i64 (3)] w1 fun r w' => r = .returned (.agg #[.bool (nR (D 1 (-3))).neg, .string (nR (D 1 (-3))).mag, .int .i64 (nR (D 1 (-3))).e]) ∧ Below w1.heap.size w1 w' := fun w1 hT1 => by
    have := dPow_calls (nR (D (1) (-1))) 3 w1 hT1 (ok (by decide) (by omega) (by omega)) (by decide) (by omega)
    rw [nR_d, show D (1) (-1) ^ Int.toNat 3 = D 1 (-3) by decide +kernel] at this
    exact this
  refine calls_vc (N := 71) (l := []) Tryz.func12 rfl rfl (by simp) ?_
  refine sr (aB (wl_end (sr ?_)))
  refine s_callf (xOf_calls 12 _ (by omega) (by omega)) FnIs.out rfl (by decide) ?_
  rintro e_ w1 ⟨rfl, hb_⟩
  refine ⟨_, rfl, ?_⟩
  replace hh := hh.ext hb_
  refine s_callf (c2 _ (hT.hp hh)) FnIs.out rfl (by decide) ?_
  rintro e_ w2 ⟨rfl, hb_⟩
  refine ⟨_, rfl, ?_⟩
  replace hh := hh.ext hb_
  refine s_callf (num_calls (3) (1) _ (by omega) (by omega) (by omega) (by omega)) FnIs.out rfl (by decide) ?_
  rintro e_ w3 ⟨rfl, hb_⟩
  refine ⟨_, rfl, ?_⟩
  replace hh := hh.ext hb_
  first | refine s_eqN_t rfl rfl (by first | assumption | rfl) (by decide) ?_ | refine s_eqN_f rfl rfl (by assumption) (by decide) ?_
  refine mB ?_
  first | refine gS ?_ | (refine gT ?_; refine bdC [_,_] ?_) | refine gV ?_
  refine wl_guard_take rfl rfl ?_
  refine s_callf (c7 _ (hT.hp hh)) FnIs.out rfl (by decide) ?_
  rintro e_ w7 ⟨rfl, hb_⟩
  refine ⟨_, rfl, ?_⟩
  replace hh := hh.ext hb_
  first | refine gS ?_ | (refine gT ?_; refine bdC [_,_,_] ?_) | refine gV ?_
  first | refine gS ?_ | (refine gT ?_; (first | refine s_eqN_t rfl rfl (by first | assumption | rfl) (by decide) ?_ | refine s_eqN_f rfl rfl (by assumption) (by decide) ?_)) | refine gV ?_
  first | refine pkT ?_ | refine pkF ?_
  refine mB ?_
  refine wl_guard_take rfl rfl ?_
  refine s_callf (num_calls (1) (-1) _ (by omega) (by omega) (by omega) (by omega)) FnIs.out rfl (by decide) ?_
  rintro e_ w12 ⟨rfl, hb_⟩
  refine ⟨_, rfl, ?_⟩
  replace hh := hh.ext hb_
  refine wl_guard_take rfl rfl ?_
  refine s_callf (num_calls (1) (-2) _ (by omega) (by omega) (by omega) (by omega)) FnIs.out rfl (by decide) ?_
  rintro e_ w13 ⟨rfl, hb_⟩
  refine ⟨_, rfl, ?_⟩
  replace hh := hh.ext hb_
  first | (refine wl_guard_skip (by decide) rfl rfl (by decide) ?_) | (refine wl_guard_take rfl rfl ?_; (refine wl_buildSlice hh (cs := [_, _, _, _, _, _]) UIs.out TIs.out (evp_cons (ev_agg rfl) (evp_cons (ev_agg rfl) evp_nil)) rfl rfl (by decide) (by decide) (by decide) rfl (by decide) ?_); (intro b14 w14 hh)) | (refine wl_guard_skipV (by decide) rfl rfl ?_)
  refine wl_guard_take rfl rfl ?_
  refine s_callf (c15 _ _ _ (hT.hp hh) (hh.sl_row (i := 0) rfl)) FnIs.out rfl (by decide) ?_
  rintro e_ w15 ⟨rfl, hb_⟩
  refine ⟨_, rfl, ?_⟩
  replace hh := hh.ext hb_
  refine wl_guard_take rfl rfl ?_
  refine s_callf (num_calls (3) (-2) _ (by omega) (by omega) (by omega) (by omega)) FnIs.out rfl (by decide) ?_
  rintro e_ w16 ⟨rfl, hb_⟩
  refine ⟨_, rfl, ?_⟩
  replace hh := hh.ext hb_
  first | refine gS ?_ | (refine gT ?_; (first | refine s_eqN_t rfl rfl (by first | assumption | rfl) (by decide) ?_ | refine s_eqN_f rfl rfl (by assumption) (by decide) ?_)) | refine gV ?_
  first | refine pkT ?_ | refine pkF ?_
  refine mB ?_
  refine wl_guard_take rfl rfl ?_
  refine s_callf (num_calls (3) (-2) _ (by omega) (by omega) (by omega) (by omega)) FnIs.out rfl (by decide) ?_
  rintro e_ w20 ⟨rfl, hb_⟩
  refine ⟨_, rfl, ?_⟩
  replace hh := hh.ext hb_
  refine wl_guard_take rfl rfl ?_
  refine s_callf (num_calls (-1) (1) _ (by omega) (by omega) (by omega) (by omega)) FnIs.out rfl (by decide) ?_
  rintro e_ w21 ⟨rfl, hb_⟩
  refine ⟨_, rfl, ?_⟩
  replace hh := hh.ext hb_
  first | (refine wl_guard_skip (by decide) rfl rfl (by decide) ?_) | (refine wl_guard_take rfl rfl ?_; (refine wl_buildSlice hh (cs := [_, _, _, _, _, _]) UIs.out TIs.out (evp_cons (ev_agg rfl) (evp_cons (ev_agg rfl) evp_nil)) rfl rfl (by decide) (by decide) (by decide) rfl (by decide) ?_); (intro b22 w22 hh)) | (refine wl_guard_skipV (by decide) rfl rfl ?_)
  refine wl_guard_take rfl rfl ?_
  refine s_callf (c23 _ _ _ (hT.hp hh) (hh.sl_row (i := 0) rfl)) FnIs.out rfl (by decide) ?_
  rintro e_ w23 ⟨rfl, hb_⟩
  refine ⟨_, rfl, ?_⟩
  replace hh := hh.ext hb_
  refine wl_guard_take rfl rfl ?_
  refine s_callf (num_calls (-3) (-1) _ (by omega) (by omega) (by omega) (by omega)) FnIs.out rfl (by decide) ?_
  rintro e_ w24 ⟨rfl, hb_⟩
  refine ⟨_, rfl, ?_⟩
  replace hh := hh.ext hb_
  first | refine gS ?_ | (refine gT ?_; (first | refine s_eqN_t rfl rfl (by first | assumption | rfl) (by decide) ?_ | refine s_eqN_f rfl rfl (by assumption) (by decide) ?_)) | refine gV ?_
  first | refine pkT ?_ | refine pkF ?_
  refine mB ?_
  refine wl_guard_take rfl rfl ?_
  refine s_callf (num_calls (1) (0) _ (by omega) (by omega) (by omega) (by omega)) FnIs.out rfl (by decide) ?_
  rintro e_ w28 ⟨rfl, hb_⟩
  refine ⟨_, rfl, ?_⟩
  replace hh := hh.ext hb_
  refine wl_guard_take rfl rfl ?_
  refine s_callf (num_calls (1) (0) _ (by omega) (by omega) (by omega) (by omega)) FnIs.out rfl (by decide) ?_
  rintro e_ w29 ⟨rfl, hb_⟩
  refine ⟨_, rfl, ?_⟩
  replace hh := hh.ext hb_
  refine wl_guard_take rfl rfl ?_
  refine s_callf (c30 _ (hT.hp hh)) FnIs.out rfl (by decide) ?_
  rintro e_ w30 ⟨rfl, hb_⟩
  refine ⟨_, rfl, ?_⟩
  replace hh := hh.ext hb_
  first | refine gS ?_ | (refine gT ?_; refine bdC [_,_,_] ?_) | refine gV ?_
  first | refine gS ?_ | (refine gT ?_; (first | refine s_eqN_t rfl rfl (by first | assumption | rfl) (by decide) ?_ | refine s_eqN_f rfl rfl (by assumption) (by decide) ?_)) | refine gV ?_
  first | refine pkT ?_ | refine pkF ?_
  refine mB ?_
  refine wl_guard_take rfl rfl ?_
  refine s_callf (num_calls (-3) (-3) _ (by omega) (by omega) (by omega) (by omega)) FnIs.out rfl (by decide) ?_
  rintro e_ w35 ⟨rfl, hb_⟩
  refine ⟨_, rfl, ?_⟩
  replace hh := hh.ext hb_
  refine wl_guard_take rfl rfl ?_
  refine s_callf (c36 _ (hT.hp hh)) FnIs.out rfl (by decide) ?_
  rintro e_ w36 ⟨rfl, hb_⟩
  refine ⟨_, rfl, ?_⟩
  replace hh := hh.ext hb_
  refine wl_guard_take rfl rfl ?_
  refine s_callf (num_calls (-1) (-1) _ (by omega) (by omega) (by omega) (by omega)) FnIs.out rfl (by decide) ?_
  rintro e_ w37 ⟨rfl, hb_⟩
  refine ⟨_, rfl, ?_⟩
  replace hh := hh.ext hb_
  first | refine gS ?_ | (refine gT ?_; (first | refine s_eqN_t rfl rfl (by first | assumption | rfl) (by decide) ?_ | refine s_eqN_f rfl rfl (by assumption) (by decide) ?_)) | refine gV ?_
  first | refine pkT ?_ | refine pkF ?_
  refine mB ?_
  refine wl_guard_take rfl rfl ?_
  refine s_callf (num_calls (-3) (-3) _ (by omega) (by omega) (by omega) (by omega)) FnIs.out rfl (by decide) ?_
  rintro e_ w41 ⟨rfl, hb_⟩
  refine ⟨_, rfl, ?_⟩
  replace hh := hh.ext hb_
  refine wl_guard_take rfl rfl ?_
  refine s_callf (c42 _ (hT.hp hh)) FnIs.out rfl (by decide) ?_
  rintro e_ w42 ⟨rfl, hb_⟩
  refine ⟨_, rfl, ?_⟩
  replace hh := hh.ext hb_
  first | refine gS ?_ | (refine gT ?_; refine bdC [_,_,_] ?_) | refine gV ?_
  first | refine gS ?_ | (refine gT ?_; (first | refine s_eqN_t rfl rfl (by first | assumption | rfl) (by decide) ?_ | refine s_eqN_f rfl rfl (by assumption) (by decide) ?_)) | refine gV ?_
  first | refine pkT ?_ | refine pkF ?_
  refine mB ?_
  refine wl_guard_take rfl rfl ?_
  refine s_callf (num_calls (5) (0) _ (by omega) (by omega) (by omega) (by omega)) FnIs.out rfl (by decide) ?_
  rintro e_ w47 ⟨rfl, hb_⟩
  refine ⟨_, rfl, ?_⟩
  replace hh := hh.ext hb_
  refine wl_guard_take rfl rfl ?_
  refine s_callf (c48 _ (hT.hp hh)) FnIs.out rfl (by decide) ?_
  rintro e_ w48 ⟨rfl, hb_⟩
  refine ⟨_, rfl, ?_⟩
  replace hh := hh.ext hb_
  refine wl_guard_take rfl rfl ?_
  refine s_callf (num_calls (4) (0) _ (by omega) (by omega) (by omega) (by omega)) FnIs.out rfl (by decide) ?_
  rintro e_ w49 ⟨rfl, hb_⟩
  refine ⟨_, rfl, ?_⟩
  replace hh := hh.ext hb_
  first | refine gS ?_ | (refine gT ?_; (first | refine s_eqN_t rfl rfl (by first | assumption | rfl) (by decide) ?_ | refine s_eqN_f rfl rfl (by assumption) (by decide) ?_)) | refine gV ?_
  first | refine pkT ?_ | refine pkF ?_
  refine mB ?_
  refine wl_guard_take rfl rfl ?_
  refine s_callf (xOf_calls 2 _ (by omega) (by omega)) FnIs.out rfl (by decide) ?_
  rintro e_ w53 ⟨rfl, hb_⟩
  refine ⟨_, rfl, ?_⟩
  replace hh := hh.ext hb_
  first | refine gS ?_ | (refine gT ?_; refine bdC [_,_,_] ?_) | refine gV ?_
  refine wl_guard_take rfl rfl ?_
  refine s_callf (num_calls (1) (-2) _ (by omega) (by omega) (by omega) (by omega)) FnIs.out rfl (by decide) ?_
  rintro e_ w55 ⟨rfl, hb_⟩
  refine ⟨_, rfl, ?_⟩
  replace hh := hh.ext hb_
  refine wl_guard_take rfl rfl ?_
  refine s_callf (c56 _ (hT.hp hh)) FnIs.out rfl (by decide) ?_
  rintro e_ w56 ⟨rfl, hb_⟩
  refine ⟨_, rfl, ?_⟩
  replace hh := hh.ext hb_
  first | refine gS ?_ | (refine gT ?_; refine eqlC ?_) | refine gV ?_
  first | refine pkT ?_ | refine pkF ?_
  refine mB ?_
  refine wl_guard_take rfl rfl ?_
  refine s_callf (num_calls (3) (0) _ (by omega) (by omega) (by omega) (by omega)) FnIs.out rfl (by decide) ?_
  rintro e_ w60 ⟨rfl, hb_⟩
  refine ⟨_, rfl, ?_⟩
  replace hh := hh.ext hb_
  refine wl_guard_take rfl rfl ?_
  refine s_callf (c61 _ (hT.hp hh)) FnIs.out rfl (by decide) ?_
  rintro e_ w61 ⟨rfl, hb_⟩
  refine ⟨_, rfl, ?_⟩
  replace hh := hh.ext hb_
  refine wl_guard_take rfl rfl ?_
  refine s_callf (num_calls (3) (-2) _ (by omega) (by omega) (by omega) (by omega)) FnIs.out rfl (by decide) ?_
  rintro e_ w62 ⟨rfl, hb_⟩
  refine ⟨_, rfl, ?_⟩
  replace hh := hh.ext hb_
  first | refine gS ?_ | (refine gT ?_; (first | refine s_eqN_t rfl rfl (by first | assumption | rfl) (by decide) ?_ | refine s_eqN_f rfl rfl (by assumption) (by decide) ?_)) | refine gV ?_
  first | refine pkT ?_ | refine pkF ?_
  refine mB ?_
  refine wl_guard_take rfl rfl ?_
  refine s_callf (num_calls (1) (-1) _ (by omega) (by omega) (by omega) (by omega)) FnIs.out rfl (by decide) ?_
  rintro e_ w66 ⟨rfl, hb_⟩
  refine ⟨_, rfl, ?_⟩
  replace hh := hh.ext hb_
  refine wl_guard_take rfl rfl ?_
  refine s_callf (c67 _ (hT.hp hh)) FnIs.out rfl (by decide) ?_
  rintro e_ w67 ⟨rfl, hb_⟩
  refine ⟨_, rfl, ?_⟩
  replace hh := hh.ext hb_
  refine wl_guard_take rfl rfl ?_
  refine s_callf (num_calls (1) (-3) _ (by omega) (by omega) (by omega) (by omega)) FnIs.out rfl (by decide) ?_
  rintro e_ w68 ⟨rfl, hb_⟩
  refine ⟨_, rfl, ?_⟩
  replace hh := hh.ext hb_
  first | refine gS ?_ | (refine gT ?_; (first | refine s_eqN_t rfl rfl (by first | assumption | rfl) (by decide) ?_ | refine s_eqN_f rfl rfl (by assumption) (by decide) ?_)) | refine gV ?_
  first | refine pkT ?_ | refine pkF ?_
  refine aB (wl_end (wc_ret ?_))
  refine ret1 (by first | exact .inr rfl | exact .inl rfl) rfl (v_bool rfl) ?_
  exact ⟨rfl, hh.below⟩
end Go.Proofs.YthmmofllajkejaaGreatDoor
