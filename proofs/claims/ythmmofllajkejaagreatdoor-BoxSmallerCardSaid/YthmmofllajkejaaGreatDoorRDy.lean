/- Several texts in one: RDyA, RDyB, RDyC. -/
import Derived.Test.YthmmofllajkejaaGreatDoorShD
import Derived.Test.YthmmofllajkejaaGreatDoorWholeR
import Derived.Test.YthmmofllajkejaaGreatDoorDraws
import Derived.Test.YthmmofllajkejaaGreatDoorDyads
/- The walks through the document's answer for dyadic numbers (ogeeref04): the form. -/
namespace Go.Proofs.YthmmofllajkejaaGreatDoor
open Go.RowKit
-- umode
theorem sb_snoc {n : Nat} (h : n ≠ 0) : sb n = sb (n / 256) ++ [UInt8.ofNat (n % 256)] := by
  rw [sb, digs_step (by omega) h, List.map_cons, List.reverse_cons]
  rfl
theorem sN_last {n : Nat} (h : n ≠ 0) : 1 ≤ (sN n).size ∧ ∃ c : UInt8, (sN n).data.toList[(((sN n).size : Int) - 1).toNat]? = some c ∧ c.toNat = n % 256 := by
  have hl : (sN n).data.toList = sb (n / 256) ++ [UInt8.ofNat (n % 256)] := by rw [sN, str_toList, sb_snoc h]
  have hs : (sN n).size = (sb (n / 256)).length + 1 := by rw [ba_size, hl, List.length_append]; rfl
  refine ⟨by omega, UInt8.ofNat (n % 256), ?_, ?_⟩
  · rw [hl, hs, List.getElem?_append_right (by omega)]
    have : (((sb (n / 256)).length + 1 : Nat) - 1 : Int).toNat - (sb (n / 256)).length = 0 := by omega
    rw [this]
    rfl
  · simp
theorem sN_cut {n : Nat} (h : n ≠ 0) : (sN n).extract 0 ((sN n).size - 1) = sN (n / 256) := by
  have hl : (sN n).data = (sb (n / 256) ++ [UInt8.ofNat (n % 256)]).toArray := by rw [sN, ← sb_snoc h]; rfl
  have hs : (sN n).size = (sb (n / 256)).length + 1 := by rw [ba_size, hl, List.length_append]; rfl
  apply ByteArray.ext
  rw [ByteArray.data_extract, hl, hs]
  show _ = (sb (n / 256)).toArray
  simp
theorem iN_mul {k : Int} (h : 0 < k) (y : Int) : iN (y * k) = iN y := by
  unfold iN
  rw [decide_eq_decide]
  constructor
  · intro h1
    rcases Int.lt_trichotomy y 0 with h2 | h2 | h2
    · exact h2
    · rw [h2] at h1; simp at h1
    · have := Int.mul_pos h2 h; omega
  · intro h1
    exact Int.mul_neg_of_neg_of_pos h1 h
theorem tz_odd {n : Nat} (h : n % 2 = 1) : tz n = 0 := by
  have := tz_eq 0 (n / 2)
  rwa [show 2 ^ 0 * (2 * (n / 2) + 1) = n by omega] at this
/-- The form, as soon as the number is odd. -/
theorem make_odd {y z e : Int} {j : Nat} (hy : y.natAbs % 2 = 1) (hz : y * 2 ^ j = z) : nR (Dyadic.ofIntWithPrec z (-e)) = ⟨iN y, iM y, e + j⟩ := by
  have h1 := make_spec (s := iN y) (a := iM y) (e := e + j) (by rw [iv_of]; omega)
  rw [iv_of, iM, bN_sN, tz_odd hy] at h1
  have h2 := owp_scale y (-(e + j)) j
  rw [hz, show -(e + (j : Int)) + j = -e by omega] at h2
  rw [h2, h1]
  simp
theorem half_bd {y z : Int} {j m : Nat} (hy : y ≠ 0) (hz : y * 2 ^ j = z) (hm : z.natAbs < 2 ^ m) : j < m := by
  have h1 : z.natAbs = y.natAbs * 2 ^ j := by rw [← hz, Int.natAbs_mul, Int.natAbs_pow]; rfl
  have h2 : 1 * 2 ^ j ≤ y.natAbs * 2 ^ j := Nat.mul_le_mul_right _ (by omega)
  have h3 : 2 ^ j < 2 ^ m := by omega
  exact (Nat.pow_lt_pow_iff_right (by omega)).1 h3
theorem yMake_calls (s : Bool) (a : ByteArray) (e : Int) (w : World) (ha : a.size ≤ 10000000) (h1 : -1000000000000 ≤ e) (h2 : e ≤ 1000000000000) :
    Calls Tryz.prog 112 #[.agg #[.bool s, .string a], .int .i64 e] w fun r w' => r = .returned (.agg #[.bool (nR (Dyadic.ofIntWithPrec (iv s a) (-e))).neg, .string (nR (Dyadic.ofIntWithPrec (iv s a) (-e))).mag, .int .i64 (nR (Dyadic.ofIntWithPrec (iv s a) (-e))).e]) ∧ Below w.heap.size w w' := by
  have hh := Hp.start w
  by_cases h0 : iv s a = 0
  · have hm := iM_zero.2 h0
    rw [h0] at hm
    refine calls_vc (N := 50) (l := [.agg #[.bool s, .string a], .int .i64 e]) Tryz.func112 rfl rfl (by simp) ?_
    refine sr ?_
    refine bxC hh [_,_] ?_
    intro b2 w2 hh
    refine alC hh ?_
    intro b4 w4 hh
    refine wl_end (sr ?_)
    refine lgC hh 1 [_,_] ?_
    refine s_callf (xform_calls s a _ (by omega)) FnIs.out rfl (by decide) ?_
    rintro e_ w6 ⟨rfl, hb_⟩
    refine ⟨_, rfl, ?_⟩
    replace hh := hh.ext hb_
    rw [h0]
    refine stC hh 1 [_,_] ?_
    intro ws hh
    replace hh : Hp _ (_ :: .blk _ _ [_, _] _ :: _) _ := hh
    refine wl_end (wc_seq (sr (faC ?_)))
    refine l1C hh 1 ?_
    first | refine s_eql_str_t rfl rfl (by first | rfl | assumption | decide) (by decide) ?_ | refine s_eql_str_f rfl rfl (by first | assumption | decide) (by decide) ?_
    refine wl_end (cT (sr ?_))
    refine bdC [_,_,_] ?_
    refine stC hh 0 [_,_,_] ?_
    intro ws hh
    replace hh : Hp _ (.blk _ _ [_, _, _] _ :: _) _ := hh
    refine wl_end (wc_ret (k_ret ?_))
    refine retc1 (by first | exact .inr rfl | exact .inl rfl) rfl (r_cell rfl (lv_agg (vs := [_, _, _]) TIs.out (hh.rd_blk_at (i := 0) (n := 3) rfl rfl) rfl) r_nil) ?_
    rw [owp_zero, nR_zero]
    exact ⟨rfl, hh.below⟩
  · have hm : ¬ iM (iv s a) = ByteArray.mk #[] := fun h => h0 (iM_zero.1 h)
    have hzb : (iv s a).natAbs < 2 ^ (8 * a.size) := by
      rw [iv_abs, Nat.pow_mul]
      exact bN_lt a
    refine calls_vc (N := 50) (l := [.agg #[.bool s, .string a], .int .i64 e]) Tryz.func112 rfl rfl (by simp) ?_
    refine sr ?_
    refine bxC hh [_,_] ?_
    intro b2 w2 hh
    refine alC hh ?_
    intro b4 w4 hh
    refine wl_end (sr ?_)
    refine lgC hh 1 [_,_] ?_
    refine s_callf (xform_calls s a _ (by omega)) FnIs.out rfl (by decide) ?_
    rintro e_ w6 ⟨rfl, hb_⟩
    refine ⟨_, rfl, ?_⟩
    replace hh := hh.ext hb_
    refine stC hh 1 [_,_] ?_
    intro ws hh
    replace hh : Hp _ (_ :: .blk _ _ [_, _] _ :: _) _ := hh
    refine wl_end (wc_seq (sr (faC ?_)))
    refine l1C hh 1 ?_
    first | refine s_eql_str_t rfl rfl (by first | rfl | assumption | decide) (by decide) ?_ | refine s_eql_str_f rfl rfl (by first | assumption | decide) (by decide) ?_
    refine wl_end (cF (wc_skip (k_then (wc_seq (wc_block ?_)))))
    generalize hz : iv s a = z at *
    refine wc_loop1 [1, 11, 12, 13, 14, 15, 16, 17, 18, 19, 20, 21, 22, 23, 24, 25, 26, 27, 28] 1
      (fun v w' => ∃ (y : Int) (j : Nat), y ≠ 0 ∧ y * 2 ^ j = z ∧ v = .int .i64 (e + j) ∧ Hp w [.blk b4 25 [.bool false, .string (ByteArray.mk #[]), .int .i64 0] (0, 0), .blk b2 23 [.bool (iN y), .string (iM y)] (0, 0)] w')
      (fun v _ => (e + 8 * a.size + 1 - intOf v).toNat) ?_ ?_
    · exact ⟨z, 0, h0, by simp, by show Value.int _ _ = Value.int _ _; congr 1; omega, hh⟩
    · clear hh
      rintro ρ' v w' ⟨y, j, hy, hyz, rfl, hh⟩
      have hj := half_bd hy hyz hzb
      obtain ⟨hs1, c, hc, hcn⟩ := sN_last (n := y.natAbs) (by omega)
      have hcut := sN_cut (n := y.natAbs) (by omega)
      have hsz : (sN y.natAbs).size ≤ 10000000 := by
        have h1 : z.natAbs = y.natAbs * 2 ^ j := by rw [← hyz, Int.natAbs_mul, Int.natAbs_pow]; rfl
        have h2 : y.natAbs * 1 ≤ y.natAbs * 2 ^ j := Nat.mul_le_mul_left _ (Nat.pow_pos (by omega))
        have h3 : blen y.natAbs ≤ 8 * a.size := blen_le (by omega)
        rw [sN_size]
        omega
      change (iM y).data.toList[(((iM y).size : Int) - 1).toNat]? = some c at hc
      change 1 ≤ (iM y).size at hs1
      change (iM y).extract 0 ((iM y).size - 1) = _ at hcut
      change (iM y).size ≤ _ at hsz
      by_cases hb : y.natAbs % 256 = 0
      · obtain ⟨x, rfl⟩ : ∃ x, y = x * 256 := ⟨y / 256, by omega⟩
        have hx : x ≠ 0 := fun h => hy (by rw [h]; rfl)
        have e1 : iN (x * 256) = iN x := iN_mul (by omega) x
        have e2 : sN ((x * 256).natAbs / 256) = iM x := by rw [iM]; congr 1; omega
        have hxz : x * 2 ^ (j + 8) = z := by rw [← hyz, Int.pow_add, Int.mul_assoc, Int.mul_comm (2 ^ j)]; rfl
        have hj2 := half_bd hx hxz hzb
        refine wc_seq (sr (faC ?_))
        refine l1C hh 1 ?_
        refine faC ?_
        refine l1C hh 1 ?_
        refine s_len_str UIs.out rfl (by decide) ?_
        refine subC ?_
        refine s_index_str UIs.out rfl rfl (by omega) (by assumption) (by decide) ?_
        refine eqlC (wl_end (cT (wc_skip (k_then (wc_block (sr (faC ?_)))))))
        refine l1C hh 1 ?_
        refine faC ?_
        refine l1C hh 1 ?_
        refine s_len_str UIs.out rfl (by decide) ?_
        refine subC ?_
        refine s_slice_str (l := 0) (h := ((iM (x * 256)).size - 1)) UIs.out rfl rfl ⟨_, _, rfl, by omega⟩ (by omega) (by omega) (by decide) ?_
        refine faC ?_
        refine stC hh 1 [_] ?_
        intro ws hh
        replace hh : Hp _ (_ :: .blk _ _ [_, _] _ :: _) _ := hh
        refine wl_end (wc_region (mI ?_))
        refine addC (aI (wl_nil (b_norm (k_then ?_))))
        rw [hcut, e2, e1] at hh
        refine ⟨⟨x, j + 8, hx, hxz, by show Value.int _ _ = Value.int _ _; congr 1; omega, hh⟩, by show (e + 8 * a.size + 1 - (e + j + 8)).toNat < (e + 8 * a.size + 1 - (e + j)).toNat; omega, ?_⟩
        (repeat (first | exact agree_mask _ _ _ | refine agree_upd rfl ?_ | refine agree_mask2 rfl ?_))
      · refine wc_seq (sr (faC ?_))
        refine l1C hh 1 ?_
        refine faC ?_
        refine l1C hh 1 ?_
        refine s_len_str UIs.out rfl (by decide) ?_
        refine subC ?_
        refine s_index_str UIs.out rfl rfl (by omega) (by assumption) (by decide) ?_
        refine eqlC (wl_end (cF ?_))
        refine wc_exit ?_
        refine k_exit (k_exit (b_here (k_then (wc_seq (wc_block ?_)))))
        refine wc_loop1 [1, 29, 30, 31, 32, 33, 34, 35, 36, 37, 38, 39, 40, 41, 42, 43, 44, 45, 46] 1
          (fun v w' => ∃ (y : Int) (j : Nat), y ≠ 0 ∧ y * 2 ^ j = z ∧ v = .int .i64 (e + j) ∧ Hp w [.blk b4 25 [.bool false, .string (ByteArray.mk #[]), .int .i64 0] (0, 0), .blk b2 23 [.bool (iN y), .string (iM y)] (0, 0)] w')
          (fun v _ => (e + 8 * a.size + 1 - intOf v).toNat) ?_ ?_
        · exact ⟨y, j, hy, hyz, rfl, hh⟩
        · clear hh hb hcut hcn hc hs1 hsz hj hy hyz
          rintro ρ2 v w2 ⟨y, j, hy, hyz, rfl, hh⟩
          have hj := half_bd hy hyz hzb
          obtain ⟨hs1, c, hc, hcn⟩ := sN_last (n := y.natAbs) (by omega)
          have hsz : (sN y.natAbs).size ≤ 10000000 := by
            have h1 : z.natAbs = y.natAbs * 2 ^ j := by rw [← hyz, Int.natAbs_mul, Int.natAbs_pow]; rfl
            have h2 : y.natAbs * 1 ≤ y.natAbs * 2 ^ j := Nat.mul_le_mul_left _ (Nat.pow_pos (by omega))
            have h3 : blen y.natAbs ≤ 8 * a.size := blen_le (by omega)
            rw [sN_size]
            omega
          change (iM y).data.toList[(((iM y).size : Int) - 1).toNat]? = some c at hc
          change 1 ≤ (iM y).size at hs1
          change (iM y).size ≤ _ at hsz
          by_cases hb : y.natAbs % 2 = 0
          · obtain ⟨x, rfl⟩ : ∃ x, y = x * 2 := ⟨y / 2, by omega⟩
            have hx : x ≠ 0 := fun h => hy (by rw [h]; rfl)
            have hxz : x * 2 ^ (j + 1) = z := by rw [← hyz, Int.pow_add, Int.mul_assoc, Int.mul_comm (2 ^ j)]; rfl
            have hj2 := half_bd hx hxz hzb
            have hof : ∀ w1, Calls Tryz.prog 55 #[.int .i64 2] w1 fun e w' => e = .returned (.agg #[.bool false, .string (iM 2)]) ∧ Below w1.heap.size w1 w' := fun w1 => xOf_calls 2 w1 (by omega) (by omega)
            have hdv : ∀ w1, Calls Tryz.prog 145 #[.agg #[.bool (iN (x * 2)), .string (iM (x * 2))], .agg #[.bool false, .string (iM 2)]] w1 fun e w' => e = .returned (.tuple #[.agg #[.bool (iN x), .string (iM x)], .agg #[.bool (iN 0), .string (iM 0)], .bool true]) ∧ Below w1.heap.size w1 w' := fun w1 => by
              have h2 : bN (iM 2) = 2 := bN_sN 2
              have h3 : (iM 2).size ≤ 10000000 := by rw [iM_size]; decide
              have := xdiv_calls (iN (x * 2)) (iM (x * 2)) (iM 2) w1 hsz h3 (by omega)
              rw [iv_of, h2, show x * 2 / ((2 : Nat) : Int) = x by omega, show x * 2 % ((2 : Nat) : Int) = 0 by omega] at this
              exact this
            refine wc_seq (sr (faC ?_))
            refine l1C hh 1 ?_
            refine faC ?_
            refine l1C hh 1 ?_
            refine s_len_str UIs.out rfl (by decide) ?_
            refine subC ?_
            refine s_index_str UIs.out rfl rfl (by omega) (by assumption) (by decide) ?_
            refine s_remu (b := 2) rfl rfl (by omega) (by decide) ?_
            refine eqlC (wl_end (cT (wc_skip (k_then (wc_block (wc_seq ?_))))))
            refine wc_drawn2 [] [5, 6] [0, 0, 3, 7, 15, 15, 15, 31] 7 [[(2, none)], [], [(39, some 0), (40, some 1)], [(41, some 2)], [(38, some 3)], [(38, some 3)], [(38, some 3)]] [(6, 44), (5, 43), (4, 42), (3, 38), (2, 41), (1, 40), (0, 39)] hh mixed (by kernel_rfl) alok_nil rfl (by repeat (first | exact np_ret | refine np_then ?_ | refine np_blk ?_)) ?_
            refine dlg 1 [_,_] ?_
            refine dC (fun _ hj => hof _) ?_
            refine dC (fun _ hj => hdv _) ?_
            refine dmT ?_
            refine dex ?_
            refine dex ?_
            refine dex ?_
            refine dx_nil ?_
            intro f W hJ hV _
            have hb_8 := hJ.bl
            obtain ⟨v44, v43, v42, v38, v41, v40, v39, _⟩ := hV
            replace hh := hJ.hp
            refine wl_cast (updL_K (eql_cons v44 (eql_cons v43 (eql_cons v42 (eql_cons v38 (eql_cons v41 (eql_cons v40 (eql_cons v39 eql_nil)))))))) ?_
            dsimp only [updK]
            clear hJ
            refine stC hh 1 [_,_] ?_
            intro ws hh
            replace hh : Hp _ (_ :: .blk _ _ [_, _] _ :: _) _ := hh
            refine wl_end (wc_region (mI ?_))
            refine addC (aI (wl_nil (b_norm (k_then ?_))))
            refine ⟨⟨x, j + 1, hx, hxz, by show Value.int _ _ = Value.int _ _; congr 1; omega, hh⟩, by show (e + 8 * a.size + 1 - (e + j + 1)).toNat < (e + 8 * a.size + 1 - (e + j)).toNat; omega, ?_⟩
            (repeat (first | exact agree_mask _ _ _ | refine agree_upd rfl ?_ | refine agree_mask2 rfl ?_))
          · have hfin := make_odd (e := e) (show y.natAbs % 2 = 1 by omega) hyz
            refine wc_seq (sr (faC ?_))
            refine l1C hh 1 ?_
            refine faC ?_
            refine l1C hh 1 ?_
            refine s_len_str UIs.out rfl (by decide) ?_
            refine subC ?_
            refine s_index_str UIs.out rfl rfl (by omega) (by assumption) (by decide) ?_
            refine s_remu (b := 2) rfl rfl (by omega) (by decide) ?_
            refine eqlC (wl_end (cF ?_))
            refine wc_exit ?_
            refine k_exit (k_exit (b_here (k_then (sr ?_))))
            refine lgC hh 1 [_,_] (mI ?_)
            refine bdC [_,_,_] ?_
            refine stC hh 0 [_,_,_] ?_
            intro ws hh
            replace hh : Hp _ (.blk _ _ [_, _, _] _ :: _) _ := hh
            refine wl_end (wc_ret ?_)
            refine retc1 (by first | exact .inr rfl | exact .inl rfl) rfl (r_cell rfl (lv_agg (vs := [_, _, _]) TIs.out (hh.rd_blk_at (i := 0) (n := 3) rfl rfl) rfl) r_nil) ?_
            rw [hfin]
            exact ⟨rfl, hh.below⟩
/-- Make, at a number whose value one knows. -/
theorem yMake_at {z e : Int} {x : Dyadic} (w : World) (hx : Dyadic.ofIntWithPrec z (-e) = x) (hz : (iM z).size ≤ 10000000) (h1 : -1000000000000 ≤ e) (h2 : e ≤ 1000000000000) :
    Calls Tryz.prog 112 #[.agg #[.bool (iN z), .string (iM z)], .int .i64 e] w fun r w' => r = .returned (.agg #[.bool (nR x).neg, .string (nR x).mag, .int .i64 (nR x).e]) ∧ Below w.heap.size w w' := by
  have := yMake_calls (iN z) (iM z) e w hz h1 h2
  rw [iv_of, hx] at this
  exact this
theorem yOf_calls (n : Int) (w : World) (h1 : -9223372036854775808 ≤ n) (h2 : n ≤ 9223372036854775807) :
    Calls Tryz.prog 96 #[.int .i64 n] w fun r w' => r = .returned (.agg #[.bool (nR (n : Dyadic)).neg, .string (nR (n : Dyadic)).mag, .int .i64 (nR (n : Dyadic)).e]) ∧ Below w.heap.size w w' := by
  have hh := Hp.start w
  have hsz : (iM n).size ≤ 10000000 := by
    rw [iM_size]
    have : blen n.natAbs ≤ 64 := blen_le (by omega)
    omega
  have hc := fun w1 => yMake_at (z := n) (e := 0) (x := (n : Dyadic)) w1 rfl hsz (by omega) (by omega)
  refine calls_vc (N := 6) (l := [.int .i64 n]) Tryz.func96 rfl rfl (by simp) ?_
  refine sr ?_
  refine alC hh ?_
  intro b2 w2 hh
  refine wl_end (sr (mI ?_))
  refine s_callf (xOf_calls n _ h1 h2) FnIs.out rfl (by decide) ?_
  rintro e_ w4 ⟨rfl, hb_⟩
  refine ⟨_, rfl, ?_⟩
  replace hh := hh.ext hb_
  refine s_callf (hc _) FnIs.out rfl (by decide) ?_
  rintro e_ w5 ⟨rfl, hb_⟩
  refine ⟨_, rfl, ?_⟩
  replace hh := hh.ext hb_
  refine stC hh 0 [_,_,_] ?_
  intro ws hh
  replace hh : Hp _ (.blk _ _ [_, _, _] _ :: _) _ := hh
  refine wl_end (wc_ret ?_)
  refine retc1 (by first | exact .inr rfl | exact .inl rfl) rfl (r_cell rfl (lv_agg (vs := [_, _, _]) TIs.out (hh.rd_blk_at (i := 0) (n := 3) rfl rfl) rfl) r_nil) ?_
  exact ⟨rfl, hh.below⟩
theorem yForm_calls (a : NR) (w : World) (ha : a.mag.size ≤ 10000000) (h1 : -1000000000000 ≤ a.e) (h2 : a.e ≤ 1000000000000) :
    Calls Tryz.prog 127 #[.agg #[.bool a.neg, .string a.mag, .int .i64 a.e]] w fun r w' => r = .returned (.agg #[.bool (nR a.d).neg, .string (nR a.d).mag, .int .i64 (nR a.d).e]) ∧ Below w.heap.size w w' := by
  have hh := Hp.start w
  refine calls_vc (N := 8) (l := [.agg #[.bool a.neg, .string a.mag, .int .i64 a.e]]) Tryz.func127 rfl rfl (by simp) ?_
  refine sr ?_
  refine bxC hh [_,_,_] ?_
  intro b1 w1 hh
  refine alC hh ?_
  intro b2 w2 hh
  refine wl_end (sr (faC ?_))
  refine lgC hh 1 [_,_] (faC ?_)
  refine l1C hh 1 ?_
  refine s_callf (yMake_calls a.neg a.mag a.e _ ha h1 h2) FnIs.out rfl (by decide) ?_
  rintro e_ w7 ⟨rfl, hb_⟩
  refine ⟨_, rfl, ?_⟩
  replace hh := hh.ext hb_
  refine stC hh 0 [_,_,_] ?_
  intro ws hh
  replace hh : Hp _ (.blk _ _ [_, _, _] _ :: _) _ := hh
  refine wl_end (wc_ret ?_)
  refine retc1 (by first | exact .inr rfl | exact .inl rfl) rfl (r_cell rfl (lv_agg (vs := [_, _, _]) TIs.out (hh.rd_blk_at (i := 0) (n := 3) rfl rfl) rfl) r_nil) ?_
  exact ⟨rfl, hh.below⟩
theorem ySign_calls (a : NR) (w : World) (ha : a.mag.size ≤ 10000000) :
    Calls Tryz.prog 130 #[.agg #[.bool a.neg, .string a.mag, .int .i64 a.e]] w fun r w' => r = .returned (.int .i64 a.i.sign) ∧ Below w.heap.size w w' := by
  have hh := Hp.start w
  refine calls_vc (N := 6) (l := [.agg #[.bool a.neg, .string a.mag, .int .i64 a.e]]) Tryz.func130 rfl rfl (by simp) ?_
  refine sr ?_
  refine bxC hh [_,_,_] ?_
  intro b1 w1 hh
  refine aI (wl_end (sr (faC ?_)))
  refine lgC hh 0 [_,_] ?_
  refine s_callf (xsign_calls a.neg a.mag _ (by omega)) FnIs.out rfl (by decide) ?_
  rintro e_ w5 ⟨rfl, hb_⟩
  refine ⟨_, rfl, ?_⟩
  replace hh := hh.ext hb_
  refine aI (wl_end (wc_ret ?_))
  refine ret1 (by first | exact .inr rfl | exact .inl rfl) rfl (v_int rfl) ?_
  exact ⟨rfl, hh.below⟩
theorem yNeg_calls (a : NR) (w : World) (ha : a.mag.size ≤ 10000000) (h1 : -1000000000000 ≤ a.e) (h2 : a.e ≤ 1000000000000) :
    Calls Tryz.prog 152 #[.agg #[.bool a.neg, .string a.mag, .int .i64 a.e]] w fun r w' => r = .returned (.agg #[.bool (nR (-a.d)).neg, .string (nR (-a.d)).mag, .int .i64 (nR (-a.d)).e]) ∧ Below w.heap.size w w' := by
  have hh := Hp.start w
  have hs := iM_neg_size a.neg a.mag
  have hc := fun w1 => yMake_at (z := -(iv a.neg a.mag)) (e := a.e) (x := -a.d) w1 (owp_neg _ _).symm (by omega) h1 h2
  refine calls_vc (N := 9) (l := [.agg #[.bool a.neg, .string a.mag, .int .i64 a.e]]) Tryz.func152 rfl rfl (by simp) ?_
  refine sr ?_
  refine bxC hh [_,_,_] ?_
  intro b1 w1 hh
  refine alC hh ?_
  intro b2 w2 hh
  refine wl_end (wc_seq ?_)
  refine wc_drawn 5 [[(1, none)], [(3, some 0)], [(4, some 1)], [(1, none)], [(6, some 3)]] [(4, 7), (3, 6), (2, 5), (1, 4), (0, 3)] hh mixed (by kernel_rfl) ?_
  refine dfa ?_
  refine dlg 1 [_,_] ?_
  refine dC (fun _ hj => xneg_calls a.neg a.mag _ (by omega)) ?_
  refine dfa ?_
  refine dl1 1 ?_
  refine dx_nil ?_
  intro f W hJ hV
  have hb_1 := hJ.bl
  obtain ⟨v7, v6, v5, v4, v3, _⟩ := hV
  replace hh := hJ.hp
  refine wl_cast (updL_K (eql_cons v7 (eql_cons v6 (eql_cons v5 (eql_cons v4 (eql_cons v3 eql_nil)))))) ?_
  dsimp only [updK]
  clear hJ
  refine s_callf (hc _) FnIs.out rfl (by decide) ?_
  rintro e_ w8 ⟨rfl, hb_⟩
  refine ⟨_, rfl, ?_⟩
  replace hh := hh.ext hb_
  refine stC hh 0 [_,_,_] ?_
  intro ws hh
  replace hh : Hp _ (.blk _ _ [_, _, _] _ :: _) _ := hh
  refine wl_end (wc_ret ?_)
  refine retc1 (by first | exact .inr rfl | exact .inl rfl) rfl (r_cell rfl (lv_agg (vs := [_, _, _]) TIs.out (hh.rd_blk_at (i := 0) (n := 3) rfl rfl) rfl) r_nil) ?_
  exact ⟨rfl, hh.below⟩
theorem yShift_calls (a : NR) (n : Int) (w : World) (ha : a.mag.size ≤ 10000000) (h1 : -100000000000 ≤ a.e) (h2 : a.e ≤ 100000000000) (h3 : -100000000000 ≤ n) (h4 : n ≤ 100000000000) :
    Calls Tryz.prog 133 #[.agg #[.bool a.neg, .string a.mag, .int .i64 a.e], .int .i64 n] w fun r w' => r = .returned (.agg #[.bool (nR (a.d * twoD n)).neg, .string (nR (a.d * twoD n)).mag, .int .i64 (nR (a.d * twoD n)).e]) ∧ Below w.heap.size w w' := by
  have hh := Hp.start w
  have e1 : Dyadic.ofIntWithPrec (iv a.neg a.mag) (-(a.e + n)) = a.d * twoD n := by
    rw [Int.neg_add]
    exact owp_two _ _ _
  have hc := fun w1 => yMake_calls a.neg a.mag (a.e + n) w1 ha (by omega) (by omega)
  rw [e1] at hc
  refine calls_vc (N := 12) (l := [.agg #[.bool a.neg, .string a.mag, .int .i64 a.e], .int .i64 n]) Tryz.func133 rfl rfl (by simp) ?_
  refine sr ?_
  refine bxC hh [_,_,_] ?_
  intro b2 w2 hh
  refine alC hh ?_
  intro b4 w4 hh
  refine wl_end (sr (faC ?_))
  refine lgC hh 1 [_,_] (faC ?_)
  refine l1C hh 1 ?_
  refine mI ?_
  refine addC ?_
  refine s_callf (hc _) FnIs.out rfl (by decide) ?_
  rintro e_ w11 ⟨rfl, hb_⟩
  refine ⟨_, rfl, ?_⟩
  replace hh := hh.ext hb_
  refine stC hh 0 [_,_,_] ?_
  intro ws hh
  replace hh : Hp _ (.blk _ _ [_, _, _] _ :: _) _ := hh
  refine wl_end (wc_ret ?_)
  refine retc1 (by first | exact .inr rfl | exact .inl rfl) rfl (r_cell rfl (lv_agg (vs := [_, _, _]) TIs.out (hh.rd_blk_at (i := 0) (n := 3) rfl rfl) rfl) r_nil) ?_
  exact ⟨rfl, hh.below⟩
theorem nR_i (x : Dyadic) : Dyadic.ofIntWithPrec (nR x).i (-(nR x).e) = x := nR_d x
theorem yTimes_calls (a b : NR) (w : World) (ha : a.mag.size ≤ 4000000) (hb : b.mag.size ≤ 4000000) (h1 : -100000000000 ≤ a.e) (h2 : a.e ≤ 100000000000) (h3 : -100000000000 ≤ b.e) (h4 : b.e ≤ 100000000000) :
    Calls Tryz.prog 97 #[.agg #[.bool a.neg, .string a.mag, .int .i64 a.e], .agg #[.bool b.neg, .string b.mag, .int .i64 b.e]] w fun r w' => r = .returned (.agg #[.bool (nR (a.d * b.d)).neg, .string (nR (a.d * b.d)).mag, .int .i64 (nR (a.d * b.d)).e]) ∧ Below w.heap.size w w' := by
  have hh := Hp.start w
  have e2 : Dyadic.ofIntWithPrec (iv a.neg a.mag * iv b.neg b.mag) (-(a.e + b.e)) = a.d * b.d := by
    rw [Int.neg_add]
    exact (owp_mul _ _ _ _).symm
  have hb1 := blen_iv a.neg a.mag
  have hb2 := blen_iv b.neg b.mag
  have hb3 := blen_mul_int (iv a.neg a.mag) (iv b.neg b.mag)
  have hc := fun w1 => yMake_at (z := iv a.neg a.mag * iv b.neg b.mag) (e := a.e + b.e) w1 e2 (by rw [iM_size]; omega) (by omega) (by omega)
  refine calls_vc (N := 16) (l := [.agg #[.bool a.neg, .string a.mag, .int .i64 a.e], .agg #[.bool b.neg, .string b.mag, .int .i64 b.e]]) Tryz.func97 rfl rfl (by simp) ?_
  refine sr ?_
  refine bxC hh [_,_,_] ?_
  intro b2 w2 hh
  refine bxC hh [_,_,_] ?_
  intro b3 w3 hh
  refine alC hh ?_
  intro b4 w4 hh
  refine wl_end (wc_seq ?_)
  refine wc_drawn 10 [[(2, none)], [(5, some 0)], [(3, none)], [(7, some 2)], [(6, some 1), (8, some 3)], [(2, none)], [(10, some 5)], [(3, none)], [(12, some 7)], [(11, some 6), (13, some 8)]] [(9, 14), (8, 13), (7, 12), (6, 11), (5, 10), (4, 9), (3, 8), (2, 7), (1, 6), (0, 5)] hh mixed (by kernel_rfl) ?_
  refine dfa ?_
  refine dlg 2 [_,_] ?_
  refine dfa ?_
  refine dlg 1 [_,_] ?_
  refine dC (fun _ hj => xtimes_calls a.neg b.neg a.mag b.mag _ (by omega) (by omega)) ?_
  refine dfa ?_
  refine dl1 2 ?_
  refine dfa ?_
  refine dl1 1 ?_
  refine dadd ?_
  refine dx_nil ?_
  intro f W hJ hV
  have hb_1 := hJ.bl
  obtain ⟨v14, v13, v12, v11, v10, v9, v8, v7, v6, v5, _⟩ := hV
  replace hh := hJ.hp
  refine wl_cast (updL_K (eql_cons v14 (eql_cons v13 (eql_cons v12 (eql_cons v11 (eql_cons v10 (eql_cons v9 (eql_cons v8 (eql_cons v7 (eql_cons v6 (eql_cons v5 eql_nil))))))))))) ?_
  dsimp only [updK]
  clear hJ
  refine s_callf (hc _) FnIs.out rfl (by decide) ?_
  rintro e_ w15 ⟨rfl, hb_⟩
  refine ⟨_, rfl, ?_⟩
  replace hh := hh.ext hb_
  refine stC hh 0 [_,_,_] ?_
  intro ws hh
  replace hh : Hp _ (.blk _ _ [_, _, _] _ :: _) _ := hh
  refine wl_end (wc_ret ?_)
  refine retc1 (by first | exact .inr rfl | exact .inl rfl) rfl (r_cell rfl (lv_agg (vs := [_, _, _]) TIs.out (hh.rd_blk_at (i := 0) (n := 3) rfl rfl) rfl) r_nil) ?_
  exact ⟨rfl, hh.below⟩
end Go.Proofs.YthmmofllajkejaaGreatDoor

/- The walks through the document's answer for dyadic numbers (ogeeref04): sums, order, products. -/
namespace Go.Proofs.YthmmofllajkejaaGreatDoor
open Go.RowKit
-- umode
theorem plus_up {u v : NR} {k : Nat} (h : u.e = v.e + k) : Dyadic.ofIntWithPrec (u.i * 2 ^ k + v.i) (-v.e) = u.d + v.d := by
  rw [← owp_add]
  congr 1
  have := owp_scale u.i (-u.e) k
  rw [show -u.e + (k : Int) = -v.e by omega] at this
  exact this
theorem plus_parts {u v : NR} {k : Nat} (hk : u.e = v.e + k) (hu : u.mag.size ≤ 1000000) (hv : v.mag.size ≤ 1000000) (hk2 : k ≤ 40000000) (h1 : -100000000000 ≤ v.e) (h2 : v.e ≤ 100000000000) :
    (∀ w, Calls Tryz.prog 135 #[.agg #[.bool u.neg, .string u.mag], .int .i64 (u.e - v.e)] w fun e w' => e = .returned (.agg #[.bool (iN (u.i * 2 ^ k)), .string (iM (u.i * 2 ^ k))]) ∧ Below w.heap.size w w') ∧
    (∀ w, Calls Tryz.prog 134 #[.agg #[.bool (iN (u.i * 2 ^ k)), .string (iM (u.i * 2 ^ k))], .agg #[.bool v.neg, .string v.mag]] w fun e w' => e = .returned (.agg #[.bool (iN (u.i * 2 ^ k + v.i)), .string (iM (u.i * 2 ^ k + v.i))]) ∧ Below w.heap.size w w') ∧
    ∀ w, Calls Tryz.prog 112 #[.agg #[.bool (iN (u.i * 2 ^ k + v.i)), .string (iM (u.i * 2 ^ k + v.i))], .int .i64 v.e] w fun r w' => r = .returned (.agg #[.bool (nR (u.d + v.d)).neg, .string (nR (u.d + v.d)).mag, .int .i64 (nR (u.d + v.d)).e]) ∧ Below w.heap.size w w' := by
  have hb1 : blen (u.i * 2 ^ k).natAbs ≤ 8000000 + k := by
    rw [Int.natAbs_mul, Int.natAbs_pow]
    have := blen_mul_pow u.i.natAbs k
    have h3 := blen_iv u.neg u.mag
    unfold NR.i at this ⊢
    exact Nat.le_trans this (by omega)
  have hb2 := blen_iv v.neg v.mag
  have hb3 := blen_add_int (u.i * 2 ^ k) v.i
  refine ⟨fun w => ?_, fun w => ?_, fun w => ?_⟩
  · rw [show u.e - v.e = k by omega]
    exact xshl_calls u.neg u.mag k w (by omega) (by omega)
  · have := xplus_calls (iN (u.i * 2 ^ k)) v.neg (iM (u.i * 2 ^ k)) v.mag w (by rw [iM_size]; omega) (by omega)
    rw [iv_of] at this
    exact this
  · exact yMake_at w (plus_up hk) (by rw [iM_size]; unfold NR.i at hb1 hb3 ⊢; omega) (by omega) (by omega)
theorem yPlus_calls (a b : NR) (w : World) (ha : a.ok) (hb : b.ok) :
    Calls Tryz.prog 104 #[.agg #[.bool a.neg, .string a.mag, .int .i64 a.e], .agg #[.bool b.neg, .string b.mag, .int .i64 b.e]] w fun r w' => r = .returned (.agg #[.bool (nR (a.d + b.d)).neg, .string (nR (a.d + b.d)).mag, .int .i64 (nR (a.d + b.d)).e]) ∧ Below w.heap.size w w' := by
  have hh := Hp.start w
  obtain ⟨ha1, ha2, ha3⟩ := ha
  obtain ⟨hb1, hb2, hb3⟩ := hb
  obtain ⟨_, fa1, fa2, fa3⟩ := raw_form (a := a) ⟨ha1, ha2, ha3⟩
  obtain ⟨_, fb1, fb2, fb3⟩ := raw_form (a := b) ⟨hb1, hb2, hb3⟩
  have hsg : ∀ x : Dyadic, (nR x).i.sign = 0 ↔ x = 0 := fun x => by
    rw [Int.sign_eq_zero_iff_zero]
    constructor
    · intro h; rw [← nR_i x, h, owp_zero]
    · intro h; rw [h]; rfl
  by_cases h0 : a.d = 0
  · have hs0 := (hsg a.d).2 h0
    refine calls_vc (N := 38) (l := [.agg #[.bool a.neg, .string a.mag, .int .i64 a.e], .agg #[.bool b.neg, .string b.mag, .int .i64 b.e]]) Tryz.func104 rfl rfl (by simp) ?_
    refine sr ?_
    refine bxC hh [_,_,_] ?_
    intro b2 w2 hh
    refine bxC hh [_,_,_] ?_
    intro b3 w3 hh
    refine alC hh ?_
    intro b4 w4 hh
    refine wl_end (wc_seq ?_)
    refine wc_drawn 3 [[(2, none)], [(5, some 0)], [(3, none)]] [(2, 7), (1, 6), (0, 5)] hh mixed (by kernel_rfl) ?_
    refine dlg 2 [_,_,_] ?_
    refine dC (fun _ hj => yForm_calls a _ (by omega) (by omega) (by omega)) ?_
    refine dlg 1 [_,_,_] ?_
    refine dx_nil ?_
    intro f W hJ hV
    have hb_1 := hJ.bl
    obtain ⟨v7, v6, v5, _⟩ := hV
    replace hh := hJ.hp
    refine wl_cast (updL_K (eql_cons v7 (eql_cons v6 (eql_cons v5 eql_nil)))) ?_
    dsimp only [updK]
    clear hJ
    refine s_callf (yForm_calls b _ (by omega) (by omega) (by omega)) FnIs.out rfl (by decide) ?_
    rintro e_ w8 ⟨rfl, hb_⟩
    refine ⟨_, rfl, ?_⟩
    replace hh := hh.ext hb_
    refine stC hh 2 [_,_,_] ?_
    intro ws hh
    replace hh : Hp _ (_ :: _ :: .blk _ _ [_, _, _] _ :: _) _ := hh
    refine stC hh 1 [_,_,_] ?_
    intro ws hh
    replace hh : Hp _ (_ :: .blk _ _ [_, _, _] _ :: _) _ := hh
    refine wl_end (wc_seq (sr ?_))
    refine lgC hh 2 [_,_,_] ?_
    refine s_callf (ySign_calls (nR a.d) _ (by omega)) FnIs.out rfl (by decide) ?_
    rintro e_ w10 ⟨rfl, hb_⟩
    refine ⟨_, rfl, ?_⟩
    replace hh := hh.ext hb_
    refine eqlC (wl_end (cT (sr ?_)))
    refine lgC hh 1 [_,_,_] ?_
    refine stC hh 0 [_,_,_] ?_
    intro ws hh
    replace hh : Hp _ (.blk _ _ [_, _, _] _ :: _) _ := hh
    refine wl_end (wc_ret (k_ret ?_))
    refine retc1 (by first | exact .inr rfl | exact .inl rfl) rfl (r_cell rfl (lv_agg (vs := [_, _, _]) TIs.out (hh.rd_blk_at (i := 0) (n := 3) rfl rfl) rfl) r_nil) ?_
    rw [h0, Dyadic.zero_add]
    exact ⟨rfl, hh.below⟩
  · have hs0 : ¬ (nR a.d).i.sign = 0 := fun h => h0 ((hsg a.d).1 h)
    by_cases h1 : b.d = 0
    · have hs1 := (hsg b.d).2 h1
      refine calls_vc (N := 38) (l := [.agg #[.bool a.neg, .string a.mag, .int .i64 a.e], .agg #[.bool b.neg, .string b.mag, .int .i64 b.e]]) Tryz.func104 rfl rfl (by simp) ?_
      refine sr ?_
      refine bxC hh [_,_,_] ?_
      intro b2 w2 hh
      refine bxC hh [_,_,_] ?_
      intro b3 w3 hh
      refine alC hh ?_
      intro b4 w4 hh
      refine wl_end (wc_seq ?_)
      refine wc_drawn 3 [[(2, none)], [(5, some 0)], [(3, none)]] [(2, 7), (1, 6), (0, 5)] hh mixed (by kernel_rfl) ?_
      refine dlg 2 [_,_,_] ?_
      refine dC (fun _ hj => yForm_calls a _ (by omega) (by omega) (by omega)) ?_
      refine dlg 1 [_,_,_] ?_
      refine dx_nil ?_
      intro f W hJ hV
      have hb_1 := hJ.bl
      obtain ⟨v7, v6, v5, _⟩ := hV
      replace hh := hJ.hp
      refine wl_cast (updL_K (eql_cons v7 (eql_cons v6 (eql_cons v5 eql_nil)))) ?_
      dsimp only [updK]
      clear hJ
      refine s_callf (yForm_calls b _ (by omega) (by omega) (by omega)) FnIs.out rfl (by decide) ?_
      rintro e_ w8 ⟨rfl, hb_⟩
      refine ⟨_, rfl, ?_⟩
      replace hh := hh.ext hb_
      refine stC hh 2 [_,_,_] ?_
      intro ws hh
      replace hh : Hp _ (_ :: _ :: .blk _ _ [_, _, _] _ :: _) _ := hh
      refine stC hh 1 [_,_,_] ?_
      intro ws hh
      replace hh : Hp _ (_ :: .blk _ _ [_, _, _] _ :: _) _ := hh
      refine wl_end (wc_seq (sr ?_))
      refine lgC hh 2 [_,_,_] ?_
      refine s_callf (ySign_calls (nR a.d) _ (by omega)) FnIs.out rfl (by decide) ?_
      rintro e_ w10 ⟨rfl, hb_⟩
      refine ⟨_, rfl, ?_⟩
      replace hh := hh.ext hb_
      refine eqlC (wl_end (cF (wc_skip (k_then (wc_seq (sr ?_))))))
      refine lgC hh 1 [_,_,_] ?_
      refine s_callf (ySign_calls (nR b.d) _ (by omega)) FnIs.out rfl (by decide) ?_
      rintro e_ w14 ⟨rfl, hb_⟩
      refine ⟨_, rfl, ?_⟩
      replace hh := hh.ext hb_
      refine eqlC (wl_end (cT (sr ?_)))
      refine lgC hh 2 [_,_,_] ?_
      refine stC hh 0 [_,_,_] ?_
      intro ws hh
      replace hh : Hp _ (.blk _ _ [_, _, _] _ :: _) _ := hh
      refine wl_end (wc_ret (k_ret ?_))
      refine retc1 (by first | exact .inr rfl | exact .inl rfl) rfl (r_cell rfl (lv_agg (vs := [_, _, _]) TIs.out (hh.rd_blk_at (i := 0) (n := 3) rfl rfl) rfl) r_nil) ?_
      rw [h1, Dyadic.add_zero]
      exact ⟨rfl, hh.below⟩
    · have hs1 : ¬ (nR b.d).i.sign = 0 := fun h => h1 ((hsg b.d).1 h)
      by_cases hlt : (nR a.d).e < (nR b.d).e
      · obtain ⟨k, hk⟩ : ∃ k : Nat, (nR b.d).e = (nR a.d).e + k := ⟨((nR b.d).e - (nR a.d).e).toNat, by omega⟩
        obtain ⟨hshl, hpl, hmk⟩ := plus_parts hk fb1 fa1 (by omega) (by omega) (by omega)
        rw [nR_d, nR_d, Dyadic.add_comm] at hmk
        refine calls_vc (N := 38) (l := [.agg #[.bool a.neg, .string a.mag, .int .i64 a.e], .agg #[.bool b.neg, .string b.mag, .int .i64 b.e]]) Tryz.func104 rfl rfl (by simp) ?_
        refine sr ?_
        refine bxC hh [_,_,_] ?_
        intro b2 w2 hh
        refine bxC hh [_,_,_] ?_
        intro b3 w3 hh
        refine alC hh ?_
        intro b4 w4 hh
        refine wl_end (wc_seq ?_)
        refine wc_drawn 3 [[(2, none)], [(5, some 0)], [(3, none)]] [(2, 7), (1, 6), (0, 5)] hh mixed (by kernel_rfl) ?_
        refine dlg 2 [_,_,_] ?_
        refine dC (fun _ hj => yForm_calls a _ (by omega) (by omega) (by omega)) ?_
        refine dlg 1 [_,_,_] ?_
        refine dx_nil ?_
        intro f W hJ hV
        have hb_1 := hJ.bl
        obtain ⟨v7, v6, v5, _⟩ := hV
        replace hh := hJ.hp
        refine wl_cast (updL_K (eql_cons v7 (eql_cons v6 (eql_cons v5 eql_nil)))) ?_
        dsimp only [updK]
        clear hJ
        refine s_callf (yForm_calls b _ (by omega) (by omega) (by omega)) FnIs.out rfl (by decide) ?_
        rintro e_ w8 ⟨rfl, hb_⟩
        refine ⟨_, rfl, ?_⟩
        replace hh := hh.ext hb_
        refine stC hh 2 [_,_,_] ?_
        intro ws hh
        replace hh : Hp _ (_ :: _ :: .blk _ _ [_, _, _] _ :: _) _ := hh
        refine stC hh 1 [_,_,_] ?_
        intro ws hh
        replace hh : Hp _ (_ :: .blk _ _ [_, _, _] _ :: _) _ := hh
        refine wl_end (wc_seq (sr ?_))
        refine lgC hh 2 [_,_,_] ?_
        refine s_callf (ySign_calls (nR a.d) _ (by omega)) FnIs.out rfl (by decide) ?_
        rintro e_ w10 ⟨rfl, hb_⟩
        refine ⟨_, rfl, ?_⟩
        replace hh := hh.ext hb_
        refine eqlC (wl_end (cF (wc_skip (k_then (wc_seq (sr ?_))))))
        refine lgC hh 1 [_,_,_] ?_
        refine s_callf (ySign_calls (nR b.d) _ (by omega)) FnIs.out rfl (by decide) ?_
        rintro e_ w14 ⟨rfl, hb_⟩
        refine ⟨_, rfl, ?_⟩
        replace hh := hh.ext hb_
        refine eqlC (wl_end (cF (wc_skip (k_then (wc_seq (sr (faC ?_)))))))
        refine l1C hh 2 ?_
        refine faC ?_
        refine l1C hh 1 ?_
        refine lssC (wl_end (cT (wc_region ?_)))
        refine lgC hh 1 [_,_,_] ?_
        refine lgC hh 2 [_,_,_] ?_
        refine stC hh 2 [_,_,_] ?_
        intro ws hh
        replace hh : Hp _ (_ :: _ :: .blk _ _ [_, _, _] _ :: _) _ := hh
        refine stC hh 1 [_,_,_] ?_
        intro ws hh
        replace hh : Hp _ (_ :: .blk _ _ [_, _, _] _ :: _) _ := hh
        refine wl_end (wc_seq ?_)
        refine wc_drawn 13 [[(2, none)], [(24, some 0)], [(2, none)], [(26, some 2)], [(3, none)], [(28, some 4)], [(27, some 3), (29, some 5)], [(25, some 1), (30, some 6)], [(3, none)], [(32, some 8)], [(31, some 7), (33, some 9)], [(3, none)], [(35, some 11)]] [(12, 36), (11, 35), (10, 34), (9, 33), (8, 32), (7, 31), (6, 30), (5, 29), (4, 28), (3, 27), (2, 26), (1, 25), (0, 24)] hh mixed (by kernel_rfl) ?_
        refine dfa ?_
        refine dlg 2 [_,_] ?_
        refine dfa ?_
        refine dl1 2 ?_
        refine dfa ?_
        refine dl1 1 ?_
        refine dsub ?_
        refine dC (fun _ hj => hshl _) ?_
        refine dfa ?_
        refine dlg 1 [_,_] ?_
        refine dC (fun _ hj => hpl _) ?_
        refine dfa ?_
        refine dl1 1 ?_
        refine dx_nil ?_
        intro f W hJ hV
        have hb_8 := hJ.bl
        obtain ⟨v36, v35, v34, v33, v32, v31, v30, v29, v28, v27, v26, v25, v24, _⟩ := hV
        replace hh := hJ.hp
        refine wl_cast (updL_K (eql_cons v36 (eql_cons v35 (eql_cons v34 (eql_cons v33 (eql_cons v32 (eql_cons v31 (eql_cons v30 (eql_cons v29 (eql_cons v28 (eql_cons v27 (eql_cons v26 (eql_cons v25 (eql_cons v24 eql_nil)))))))))))))) ?_
        dsimp only [updK]
        clear hJ
        refine s_callf (hmk _) FnIs.out rfl (by decide) ?_
        rintro e_ w37 ⟨rfl, hb_⟩
        refine ⟨_, rfl, ?_⟩
        replace hh := hh.ext hb_
        refine stC hh 0 [_,_,_] ?_
        intro ws hh
        replace hh : Hp _ (.blk _ _ [_, _, _] _ :: _) _ := hh
        refine wl_end (wc_ret ?_)
        refine retc1 (by first | exact .inr rfl | exact .inl rfl) rfl (r_cell rfl (lv_agg (vs := [_, _, _]) TIs.out (hh.rd_blk_at (i := 0) (n := 3) rfl rfl) rfl) r_nil) ?_
        exact ⟨rfl, hh.below⟩
      · obtain ⟨k, hk⟩ : ∃ k : Nat, (nR a.d).e = (nR b.d).e + k := ⟨((nR a.d).e - (nR b.d).e).toNat, by omega⟩
        obtain ⟨hshl, hpl, hmk⟩ := plus_parts hk fa1 fb1 (by omega) (by omega) (by omega)
        rw [nR_d, nR_d] at hmk
        refine calls_vc (N := 38) (l := [.agg #[.bool a.neg, .string a.mag, .int .i64 a.e], .agg #[.bool b.neg, .string b.mag, .int .i64 b.e]]) Tryz.func104 rfl rfl (by simp) ?_
        refine sr ?_
        refine bxC hh [_,_,_] ?_
        intro b2 w2 hh
        refine bxC hh [_,_,_] ?_
        intro b3 w3 hh
        refine alC hh ?_
        intro b4 w4 hh
        refine wl_end (wc_seq ?_)
        refine wc_drawn 3 [[(2, none)], [(5, some 0)], [(3, none)]] [(2, 7), (1, 6), (0, 5)] hh mixed (by kernel_rfl) ?_
        refine dlg 2 [_,_,_] ?_
        refine dC (fun _ hj => yForm_calls a _ (by omega) (by omega) (by omega)) ?_
        refine dlg 1 [_,_,_] ?_
        refine dx_nil ?_
        intro f W hJ hV
        have hb_1 := hJ.bl
        obtain ⟨v7, v6, v5, _⟩ := hV
        replace hh := hJ.hp
        refine wl_cast (updL_K (eql_cons v7 (eql_cons v6 (eql_cons v5 eql_nil)))) ?_
        dsimp only [updK]
        clear hJ
        refine s_callf (yForm_calls b _ (by omega) (by omega) (by omega)) FnIs.out rfl (by decide) ?_
        rintro e_ w8 ⟨rfl, hb_⟩
        refine ⟨_, rfl, ?_⟩
        replace hh := hh.ext hb_
        refine stC hh 2 [_,_,_] ?_
        intro ws hh
        replace hh : Hp _ (_ :: _ :: .blk _ _ [_, _, _] _ :: _) _ := hh
        refine stC hh 1 [_,_,_] ?_
        intro ws hh
        replace hh : Hp _ (_ :: .blk _ _ [_, _, _] _ :: _) _ := hh
        refine wl_end (wc_seq (sr ?_))
        refine lgC hh 2 [_,_,_] ?_
        refine s_callf (ySign_calls (nR a.d) _ (by omega)) FnIs.out rfl (by decide) ?_
        rintro e_ w10 ⟨rfl, hb_⟩
        refine ⟨_, rfl, ?_⟩
        replace hh := hh.ext hb_
        refine eqlC (wl_end (cF (wc_skip (k_then (wc_seq (sr ?_))))))
        refine lgC hh 1 [_,_,_] ?_
        refine s_callf (ySign_calls (nR b.d) _ (by omega)) FnIs.out rfl (by decide) ?_
        rintro e_ w14 ⟨rfl, hb_⟩
        refine ⟨_, rfl, ?_⟩
        replace hh := hh.ext hb_
        refine eqlC (wl_end (cF (wc_skip (k_then (wc_seq (sr (faC ?_)))))))
        refine l1C hh 2 ?_
        refine faC ?_
        refine l1C hh 1 ?_
        refine lssC (wl_end (cF (wc_skip (k_then (wc_seq ?_)))))
        refine wc_drawn 13 [[(2, none)], [(24, some 0)], [(2, none)], [(26, some 2)], [(3, none)], [(28, some 4)], [(27, some 3), (29, some 5)], [(25, some 1), (30, some 6)], [(3, none)], [(32, some 8)], [(31, some 7), (33, some 9)], [(3, none)], [(35, some 11)]] [(12, 36), (11, 35), (10, 34), (9, 33), (8, 32), (7, 31), (6, 30), (5, 29), (4, 28), (3, 27), (2, 26), (1, 25), (0, 24)] hh mixed (by kernel_rfl) ?_
        refine dfa ?_
        refine dlg 2 [_,_] ?_
        refine dfa ?_
        refine dl1 2 ?_
        refine dfa ?_
        refine dl1 1 ?_
        refine dsub ?_
        refine dC (fun _ hj => hshl _) ?_
        refine dfa ?_
        refine dlg 1 [_,_] ?_
        refine dC (fun _ hj => hpl _) ?_
        refine dfa ?_
        refine dl1 1 ?_
        refine dx_nil ?_
        intro f W hJ hV
        have hb_8 := hJ.bl
        obtain ⟨v36, v35, v34, v33, v32, v31, v30, v29, v28, v27, v26, v25, v24, _⟩ := hV
        replace hh := hJ.hp
        refine wl_cast (updL_K (eql_cons v36 (eql_cons v35 (eql_cons v34 (eql_cons v33 (eql_cons v32 (eql_cons v31 (eql_cons v30 (eql_cons v29 (eql_cons v28 (eql_cons v27 (eql_cons v26 (eql_cons v25 (eql_cons v24 eql_nil)))))))))))))) ?_
        dsimp only [updK]
        clear hJ
        refine s_callf (hmk _) FnIs.out rfl (by decide) ?_
        rintro e_ w37 ⟨rfl, hb_⟩
        refine ⟨_, rfl, ?_⟩
        replace hh := hh.ext hb_
        refine stC hh 0 [_,_,_] ?_
        intro ws hh
        replace hh : Hp _ (.blk _ _ [_, _, _] _ :: _) _ := hh
        refine wl_end (wc_ret ?_)
        refine retc1 (by first | exact .inr rfl | exact .inl rfl) rfl (r_cell rfl (lv_agg (vs := [_, _, _]) TIs.out (hh.rd_blk_at (i := 0) (n := 3) rfl rfl) rfl) r_nil) ?_
        exact ⟨rfl, hh.below⟩
theorem ySub_calls (a b : NR) (w : World) (ha : a.ok) (hb : b.ok) (hb' : (nR b.d).ok) :
    Calls Tryz.prog 131 #[.agg #[.bool a.neg, .string a.mag, .int .i64 a.e], .agg #[.bool b.neg, .string b.mag, .int .i64 b.e]] w fun r w' => r = .returned (.agg #[.bool (nR (a.d - b.d)).neg, .string (nR (a.d - b.d)).mag, .int .i64 (nR (a.d - b.d)).e]) ∧ Below w.heap.size w w' := by
  have hh := Hp.start w
  obtain ⟨hb1, hb2, hb3⟩ := hb
  obtain ⟨n1, n2⟩ := neg_bd b.d
  obtain ⟨o1, o2, o3⟩ := hb'
  have hp := fun w1 => yPlus_calls a (nR (-b.d)) w1 ha ⟨by rw [n1]; exact o1, by rw [n2]; exact o2, by rw [n2]; exact o3⟩
  rw [nR_d] at hp
  refine calls_vc (N := 9) (l := [.agg #[.bool a.neg, .string a.mag, .int .i64 a.e], .agg #[.bool b.neg, .string b.mag, .int .i64 b.e]]) Tryz.func131 rfl rfl (by simp) ?_
  refine sr ?_
  refine bxC hh [_,_,_] ?_
  intro b2 w2 hh
  refine bxC hh [_,_,_] ?_
  intro b3 w3 hh
  refine alC hh ?_
  intro b4 w4 hh
  refine wl_end (wc_seq ?_)
  refine wc_drawn 3 [[(2, none)], [(3, none)], [(6, some 1)]] [(2, 7), (1, 6), (0, 5)] hh mixed (by kernel_rfl) ?_
  refine dlg 2 [_,_,_] ?_
  refine dlg 1 [_,_,_] ?_
  refine dC (fun _ hj => yNeg_calls b _ (by omega) (by omega) (by omega)) ?_
  refine dx_nil ?_
  intro f W hJ hV
  have hb_1 := hJ.bl
  obtain ⟨v7, v6, v5, _⟩ := hV
  replace hh := hJ.hp
  refine wl_cast (updL_K (eql_cons v7 (eql_cons v6 (eql_cons v5 eql_nil)))) ?_
  dsimp only [updK]
  clear hJ
  refine s_callf (hp _) FnIs.out rfl (by decide) ?_
  rintro e_ w8 ⟨rfl, hb_⟩
  refine ⟨_, rfl, ?_⟩
  replace hh := hh.ext hb_
  refine stC hh 0 [_,_,_] ?_
  intro ws hh
  replace hh : Hp _ (.blk _ _ [_, _, _] _ :: _) _ := hh
  refine wl_end (wc_ret ?_)
  refine retc1 (by first | exact .inr rfl | exact .inl rfl) rfl (r_cell rfl (lv_agg (vs := [_, _, _]) TIs.out (hh.rd_blk_at (i := 0) (n := 3) rfl rfl) rfl) r_nil) ?_
  exact ⟨rfl, hh.below⟩
theorem sub_sign (x y : Dyadic) : (nR (x - y)).i.sign = cmpD x y := by
  rw [NR.sign, nR_d]
  unfold cmpD
  have e1 : x - y < 0 ↔ x < y := by grind
  have e2 : 0 < x - y ↔ y < x := by grind
  simp only [e1, e2]
theorem yCmp_calls (a b : NR) (w : World) (ha : a.ok) (hb : b.ok) (hb' : (nR b.d).ok) (hs : (nR (a.d - b.d)).mag.size ≤ 10000000) :
    Calls Tryz.prog 90 #[.agg #[.bool a.neg, .string a.mag, .int .i64 a.e], .agg #[.bool b.neg, .string b.mag, .int .i64 b.e]] w fun r w' => r = .returned (.int .i64 (cmpD a.d b.d)) ∧ Below w.heap.size w w' := by
  have hh := Hp.start w
  refine calls_vc (N := 9) (l := [.agg #[.bool a.neg, .string a.mag, .int .i64 a.e], .agg #[.bool b.neg, .string b.mag, .int .i64 b.e]]) Tryz.func90 rfl rfl (by simp) ?_
  refine sr ?_
  refine bxC hh [_,_,_] ?_
  intro b2 w2 hh
  refine bxC hh [_,_,_] ?_
  intro b3 w3 hh
  refine aI (wl_end (sr ?_))
  refine lgC hh 1 [_,_,_] ?_
  refine lgC hh 0 [_,_,_] ?_
  refine s_callf (ySub_calls a b _ ha hb hb') FnIs.out rfl (by decide) ?_
  rintro e_ w7 ⟨rfl, hb_⟩
  refine ⟨_, rfl, ?_⟩
  replace hh := hh.ext hb_
  refine s_callf (ySign_calls (nR (a.d - b.d)) _ hs) FnIs.out rfl (by decide) ?_
  rintro e_ w8 ⟨rfl, hb_⟩
  refine ⟨_, rfl, ?_⟩
  replace hh := hh.ext hb_
  rw [sub_sign]
  refine aI (wl_end (wc_ret ?_))
  refine ret1 (by first | exact .inr rfl | exact .inl rfl) rfl (v_int rfl) ?_
  exact ⟨rfl, hh.below⟩
end Go.Proofs.YthmmofllajkejaaGreatDoor

/- The walks through the document's answer for dyadic numbers (ogeeref04): powers, floors, the least and the greatest. -/
namespace Go.Proofs.YthmmofllajkejaaGreatDoor
open Go.RowKit
-- umode
theorem Sz.pow {k : Nat} {x : Dyadic} (h : Sz k x) (n : Nat) : Sz (1 + k * n) (x ^ n) := by
  induction n with
  | zero => rw [Dyadic.pow_zero]; exact Sz.one
  | succ n ih => rw [Dyadic.pow_succ]; exact (ih.mul h).mono (by rw [Nat.mul_succ]; omega)
theorem ceil_cut {x : Dyadic} {p : Int} (hx : x ≠ 0) (h : ¬ -p ≤ (nR x).e) : -((-x).roundDown p) = x.roundDown p + Dyadic.ofIntWithPrec 1 p ∧ x.roundDown p ≠ x := by
  have h2 : ¬ -p ≤ (nR (-x)).e := by rw [(neg_bd x).2]; exact h
  rw [floor_cut h, floor_cut h2, owp_neg, owp_add]
  cases x with
  | zero => exact absurd rfl hx
  | ofOdd n k hn =>
    simp only [nR] at h
    obtain ⟨l, hl⟩ := Int.eq_ofNat_of_zero_le (show 0 ≤ k - p - 1 by omega)
    have e1 : intAt (.ofOdd n k hn) p = n / 2 ^ (l + 1) := by
      simp only [intAt, shI]
      rw [if_neg (by omega), show (-(p - k)).toNat = l + 1 by omega]
    have e2 : intAt (-.ofOdd n k hn) p = (-n) / 2 ^ (l + 1) := by
      show intAt (.ofOdd (-n) k _) p = _
      simp only [intAt, shI]
      rw [if_neg (by omega), show (-(p - k)).toNat = l + 1 by omega]
    have hpos : (0 : Int) < 2 ^ (l + 1) := Int.pow_pos (by omega)
    have hdm : 2 ^ (l + 1) * (n / 2 ^ (l + 1)) + n % 2 ^ (l + 1) = n := Int.mul_ediv_add_emod _ _
    have hm0 : n % 2 ^ (l + 1) ≠ 0 := fun h0 => by
      rw [h0, Int.pow_succ, Int.mul_comm (2 ^ l), Int.mul_assoc] at hdm
      omega
    have hm1 : 0 ≤ n % 2 ^ (l + 1) := Int.emod_nonneg _ (by omega)
    have hm2 : n % 2 ^ (l + 1) < 2 ^ (l + 1) := Int.emod_lt_of_pos _ hpos
    have e3 : (-n) / 2 ^ (l + 1) = -(n / 2 ^ (l + 1)) - 1 := by
      refine ((Int.ediv_emod_unique (r := 2 ^ (l + 1) - n % 2 ^ (l + 1)) hpos).2 ⟨?_, by omega, by omega⟩).1
      rw [Int.mul_sub, Int.mul_neg, Int.mul_one]
      omega
    rw [e1, e2, e3]
    refine ⟨by congr 1; omega, fun he => ?_⟩
    rw [odd_owp, owp_scale' (n / 2 ^ (l + 1)) (show k = p + ((l + 1 : Nat) : Int) by omega)] at he
    have h3 := owp_inj he
    rw [Int.mul_comm] at h3
    omega
theorem ceil_keep {x : Dyadic} {p : Int} (h : x.roundDown p = x) : -((-x).roundDown p) = x := by
  have hn : -(-x) = x := by grind
  by_cases hx : x = 0
  · rw [hx]; rfl
  · by_cases hk : -p ≤ (nR x).e
    · rw [floor_keep (by rw [(neg_bd x).2]; exact hk), hn]
    · exact absurd h (ceil_cut hx hk).2
theorem ceil_step {x : Dyadic} {p : Int} (h : x.roundDown p ≠ x) : -((-x).roundDown p) = x.roundDown p + Dyadic.ofIntWithPrec 1 p := by
  refine (ceil_cut (fun h0 => h (by rw [h0]; rfl)) fun hk => h (floor_keep hk)).1
theorem Sz.floor {k : Nat} {x : Dyadic} {p : Int} (h : Sz k x) (h1 : -(k : Int) ≤ p) (h2 : p ≤ k) : Sz (3 * k + 14) (x.roundDown p) := by
  by_cases hk : -p ≤ (nR x).e
  · rw [floor_keep hk]; exact h.mono (by omega)
  · rw [floor_cut hk]
    have hb := intAt_blen x p
    have hn := h.nr
    have := Sz.raw (a := ⟨iN (intAt x p), iM (intAt x p), -p⟩) (m := 2 * k + 14) (E := k) (by simp only [iM_size]; omega) (by simp only []; omega) (by simp only []; omega)
    rw [NR.d, NR.i, iv_of, Int.neg_neg] at this
    exact this.mono (by omega)
theorem Sz.two {k : Nat} {p : Int} (h1 : -(k : Int) ≤ p) (h2 : p ≤ k) : Sz (k + 8) (Dyadic.ofIntWithPrec 1 p) := by
  have := Sz.raw (a := ⟨iN 1, iM 1, -p⟩) (m := 8) (E := k) (by show 8 * (iM 1).size ≤ 8; decide) (by simp only []; omega) (by simp only []; omega)
  rw [NR.d, NR.i, iv_of, Int.neg_neg] at this
  exact this.mono (by omega)
theorem cmpD_zero (x y : Dyadic) : cmpD x y = 0 ↔ x = y := by
  unfold cmpD
  constructor
  · intro h
    split at h
    · omega
    · split at h
      · omega
      · grind
  · rintro rfl
    have : ¬ x < x := by grind
    simp [this]
end Go.Proofs.YthmmofllajkejaaGreatDoor
