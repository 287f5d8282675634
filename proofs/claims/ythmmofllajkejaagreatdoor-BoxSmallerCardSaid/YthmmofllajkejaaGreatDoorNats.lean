/- Several texts in one: Nat, NatB, NatC, NatD, NatE, NatF. -/
import Derived.Test.YthmmofllajkejaaGreatDoorShD
import Derived.Test.YthmmofllajkejaaGreatDoorBits
import Derived.Test.YthmmofllajkejaaGreatDoorBase
/- The walks through the program's natural numbers (nat): limbs. -/
namespace Go.Proofs.YthmmofllajkejaaGreatDoor
open Go.RowKit
-- umode
theorem Dg.at2 {B : Nat} {l : List Nat} (h : Dg B l) {i d : Nat} (hi : l[i]? = some d) : d < B := h.at_ hi
theorem cut_calls (A : Option Addr) (n c : Nat) (xs : List Nat) (w : World) (hx : Sl w A n 1 (u64s xs)) (hc : n ≤ c) (hn : n ≤ 1000000000000) :
    Calls Tryz.prog 159 #[.slice A n c] w fun e w' => e = .returned (.slice A (cutL xs).length c) ∧ Below w.heap.size w w' := by
  have hlen : xs.length = n := by have := hx.1; rw [length_u64s] at this; omega
  have hh := Hp.start w
  refine calls_vc (N := 21) (l := [.slice A n c]) Tryz.func159 rfl rfl (by simp) ?_
  refine sr (aL (wl_end (wc_seq (wc_block ?_))))
  refine wc_loop1 [0, 3, 4, 5, 6, 7, 8, 9, 10, 11, 12, 13, 14, 15, 16, 17, 18, 19] 0
    (fun v w' => ∃ k : Nat, k ≤ n ∧ v = .slice A k c ∧ cutL (xs.take k) = cutL xs ∧ w' = w)
    (fun v _ => lenOf v) ?_ ?_
  · exact ⟨n, Nat.le_refl _, rfl, by rw [List.take_of_length_le (by omega)], rfl⟩
  · rintro ρ' v w' ⟨k, hk, rfl, hcut, rfl⟩
    by_cases h0 : k = 0
    · subst h0
      refine wc_seq (sr (mL (lenC ?_)))
      refine gtrC (mB ?_)
      first | refine gS ?_ | (refine gT ?_; refine mL ?_) | refine gV ?_
      first | refine gS ?_ | (refine gT ?_; refine mL ?_) | refine gV ?_
      first | refine gS ?_ | (refine gT ?_; refine lenC ?_) | refine gV ?_
      first | refine gS ?_ | (refine gT ?_; refine subC ?_) | refine gV ?_
      first | refine gS ?_ | (refine gT ?_; refine s_indexAddr UIs.out TIs.size rfl rfl (by omega) (by omega) (by decide) ?_) | refine gV ?_
      first | (refine wl_guard_skip (by decide) rfl rfl (by decide) ?_) | (refine wl_guard_skipV (by decide) rfl rfl ?_)
      first | refine gS ?_ | (refine gT ?_; refine eqlC ?_) | refine gV ?_
      first | refine pkT ?_ | refine pkF ?_
      refine wl_end (cF ?_)
      refine wc_exit ?_
      refine k_exit (k_exit (b_here (k_then (sr (mL (aL (wl_end (wc_ret ?_))))))))
      refine ret1 (by first | exact .inr rfl | exact .inl rfl) rfl (v_sl rfl) ?_
      rw [← hcut]
      exact ⟨rfl, hh.below⟩
    · obtain ⟨j, rfl⟩ : ∃ j, k = j + 1 := ⟨k - 1, by omega⟩
      obtain ⟨d, hd⟩ := get_of_lt (l := xs) (k := j) (by omega)
      obtain ⟨ad, rfl, hr⟩ := hx.at_ (by omega)
      have hd2 := u64s_at hd
      rw [take_snoc hd] at hcut
      by_cases hz : d = 0
      · subst hz
        rw [cutL_snoc0] at hcut
        refine wc_seq (sr (mL (lenC ?_)))
        refine gtrC (mB ?_)
        first | refine gS ?_ | (refine gT ?_; refine mL ?_) | refine gV ?_
        first | refine gS ?_ | (refine gT ?_; refine mL ?_) | refine gV ?_
        first | refine gS ?_ | (refine gT ?_; refine lenC ?_) | refine gV ?_
        first | refine gS ?_ | (refine gT ?_; refine subC ?_) | refine gV ?_
        first | refine gS ?_ | (refine gT ?_; refine s_indexSl (k := j) UIs.out TIs.size rfl rfl (by omega) (by omega) (by decide) ?_) | refine gV ?_
        first | refine gS ?_ | (refine gT ?_; refine s_load1 TIs.out rfl ((hr.ext hh.below).at1 (by assumption)) (by decide) ?_) | refine gV ?_
        first | refine gS ?_ | (refine gT ?_; refine eqlC ?_) | refine gV ?_
        first | refine pkT ?_ | refine pkF ?_
        refine wl_end (cT (wc_skip (k_then (wc_block (wc_region (mL (mL (lenC ?_))))))))
        refine subC ?_
        refine s_cutEnd (h := j) UIs.out TIs.size rfl rfl (by omega) (by omega) (by decide) ?_
        refine aL (wl_nil (b_norm (k_then ?_)))
        refine ⟨⟨j, by omega, rfl, hcut, rfl⟩, by show j < j + 1; omega, ?_⟩
        (repeat (first | exact agree_mask _ _ _ | refine agree_upd rfl ?_ | refine agree_mask2 rfl ?_))
      · rw [cutL_snoc hz] at hcut
        refine wc_seq (sr (mL (lenC ?_)))
        refine gtrC (mB ?_)
        first | refine gS ?_ | (refine gT ?_; refine mL ?_) | refine gV ?_
        first | refine gS ?_ | (refine gT ?_; refine mL ?_) | refine gV ?_
        first | refine gS ?_ | (refine gT ?_; refine lenC ?_) | refine gV ?_
        first | refine gS ?_ | (refine gT ?_; refine subC ?_) | refine gV ?_
        first | refine gS ?_ | (refine gT ?_; refine s_indexSl (k := j) UIs.out TIs.size rfl rfl (by omega) (by omega) (by decide) ?_) | refine gV ?_
        first | refine gS ?_ | (refine gT ?_; refine s_load1 TIs.out rfl ((hr.ext hh.below).at1 (by assumption)) (by decide) ?_) | refine gV ?_
        first | refine gS ?_ | (refine gT ?_; refine eqlC ?_) | refine gV ?_
        first | refine pkT ?_ | refine pkF ?_
        refine wl_end (cF ?_)
        refine wc_exit ?_
        refine k_exit (k_exit (b_here (k_then (sr (mL (aL (wl_end (wc_ret ?_))))))))
        refine ret1 (by first | exact .inr rfl | exact .inl rfl) rfl (v_sl rfl) ?_
        rw [← hcut, List.length_append, List.length_take, Nat.min_eq_left (by omega)]
        exact ⟨rfl, hh.below⟩
theorem dig_take_snoc {B : Nat} {l : List Nat} {i c : Nat} (h : l[i]? = some c) : dig B (l.take (i + 1)) = dig B (l.take i) + B ^ i * c := by
  have hi := (List.getElem?_eq_some_iff.1 h).1
  rw [take_snoc h, dig_append, List.length_take, Nat.min_eq_left (by omega)]
  simp [dig]
theorem Hp.cut64 {w0 w : World} {H : List HE} {A : Option Addr} {n c : Nat} {t : TypeId} {xs : List Nat} (h : Hp w0 (.row A n c t 1 (u64s xs) :: H) w) (hl : xs.length = n) : Hp w0 (.row A (cutL xs).length c t 1 (u64s (cutL xs)) :: H) w := by
  have h1 := cutL_len xs
  have h2 := h.cutRow (k := (cutL xs).length) (by omega)
  rw [Nat.mul_one, ← u64s_take, ← cutL_take] at h2
  exact h2
theorem nof_calls (a : ByteArray) (w : World) (ha : a.size ≤ 100000000000) :
    Calls Tryz.prog 138 #[.string a] w fun e w' => ∃ b c, e = .returned (.slice (some ⟨b, 0, none⟩) (digs 18446744073709551616 (bn a.data.toList)).length c) ∧ w'.ownsRow w.heap.size 124 1 (.slice (some ⟨b, 0, none⟩) (digs 18446744073709551616 (bn a.data.toList)).length c) (digs 18446744073709551616 (bn a.data.toList)).length (u64s (digs 18446744073709551616 (bn a.data.toList))) ∧ Below w.heap.size w w' := by
  have hsz := ba_size a
  have hh := Hp.start w
  refine calls_vc (N := 39) (l := [.string a]) Tryz.func138 rfl rfl (by simp) ?_
  refine sr (aL (wl_end (sr (mS ?_))))
  refine s_len_str UIs.out rfl (by decide) ?_
  refine addC ?_
  refine s_quoi rfl rfl (by omega) (by omega) (by omega) (by decide) ?_
  refine wl_make (n := (a.size + 7) / 8) hh rfl rfl (by omega) (by omega) UIs.out TIs.out rfl (by omega) (by omega) (by decide) ?_
  intro b10 w10 hh
  refine aL (wl_end (wc_seq (sr (mS ?_))))
  refine s_len_str UIs.out rfl (by decide) ?_
  refine mI (wl_end (wc_block ?_))
  rw [zrep_u64] at hh
  refine wc_loop1 [4, 5, 13, 14, 15, 16, 17, 18, 19, 20, 21, 22, 23, 24, 25, 26, 27, 28, 29, 30, 31, 32, 33, 34, 35, 36] 13
    (fun v w' => ∃ i : Nat, i ≤ a.size ∧ v = .int .i64 i ∧ Hp w [.row (some ⟨b10, 0, none⟩) ((a.size + 7) / 8) ((a.size + 7) / 8) 124 1 (u64s (digK 18446744073709551616 ((a.size + 7) / 8) (dig 256 ((lo8 a.data.toList).take i))))] w')
    (fun v _ => a.size - (intOf v).toNat) ?_ ?_
  · exact ⟨0, Nat.zero_le _, rfl, by rw [List.take_zero, dig, digK_zero]; exact hh⟩
  · clear hh
    rintro ρ' v w' ⟨i, hi, rfl, hh⟩
    by_cases hlt : i < a.size
    · obtain ⟨c, hc⟩ := get_of_lt (l := a.data.toList) (k := ((a.size : Int) - 1 - i).toNat) (by omega)
      have hlo := lo8_at (s := a.data.toList) (i := i) (c := c) (by omega) (by rw [← hc]; congr 1; omega)
      have hc8 := c.toNat_lt
      have hn := dig_lt ((dg_lo8 a.data.toList).take i)
      rw [List.length_take, length_lo8, Nat.min_eq_left (by omega)] at hn
      obtain ⟨s1, s2, s3⟩ := of_step (k := (a.size + 7) / 8) (dig 256 ((lo8 a.data.toList).take i)) hn hc8 (by omega)
      have hg := u64s_at (digK_get (B := 18446744073709551616) ((a.size + 7) / 8) (dig 256 ((lo8 a.data.toList).take i)) (i / 8) (by omega))
      have e1 : ((i : Int) % 8 * 8).toNat = i % 8 * 8 := by omega
      refine sr ?_
      refine lssC (wl_end (wc_seq (cT (wc_skip (k_then (wc_seq (wc_block (sr (mI (aI (wl_end ?_)))))))))))
      refine sr (mS ?_)
      refine s_len_str UIs.out rfl (by decide) ?_
      refine subC (mI ?_)
      refine subC (aI (wl_end ?_))
      refine wc_drawn 13 [[(3, none)], [(4, none)], [(22, some 1)], [(21, some 0), (23, some 2)], [(24, some 3)], [(0, none)], [(5, none)], [(26, some 5), (27, some 6)], [(28, some 7)], [(4, none)], [(30, some 9)], [(31, some 10)], [(29, some 8), (32, some 11)]] [(12, 33), (11, 32), (10, 31), (9, 30), (8, 29), (7, 28), (6, 27), (5, 26), (4, 25), (3, 24), (2, 23), (1, 22), (0, 21)] hh mixed (by kernel_rfl) ?_
      refine dmL ?_
      refine dmI ?_
      refine dx_val (i := 2) (fun ρ1 w1 hj hR => x_quoi (show ρ1 22 = Value.int _ _ from hR.1) rfl (by omega) (by omega) (by omega)) ?_
      refine dix (i / 8) ?_
      refine dx_val (i := 4) (fun ρ1 w1 hj hR => x_load1 TIs.out (show ρ1 24 = Value.pointer _ from hR.1) (hj.hp.cell_row (i := 0) rfl (by first | assumption | (simp only [Nat.mul_one]; assumption)))) ?_
      refine dmS ?_
      refine dmI ?_
      refine dx_val (i := 7) (fun ρ1 w1 hj hR => x_index_str UIs.out (show ρ1 26 = Value.string _ from hR.1) (show ρ1 27 = Value.int _ _ from hR.2.1) (by omega) (by assumption)) ?_
      first | refine dx_val (i := 8) (fun ρ1 w1 hj hR => x_convu_lt UIs.out UIs.out (show ρ1 28 = Value.int _ _ from hR.1) (by first | assumption | omega)) ?_ | refine dx_val (i := 8) (fun ρ1 w1 hj hR => x_convu UIs.out UIs.out (show ρ1 28 = Value.int _ _ from hR.1)) ?_
      refine dmI ?_
      refine dx_val (i := 10) (fun ρ1 w1 hj hR => x_remi (show ρ1 30 = Value.int _ _ from hR.1) rfl (by omega) (by omega)) ?_
      refine dmul ?_
      refine dx_val (i := 12) (fun ρ1 w1 hj hR => x_shlu (show ρ1 29 = Value.int _ _ from hR.1) (show ρ1 32 = Value.int _ _ from hR.2.1) (by omega)) ?_
      refine dx_nil ?_
      intro f W hJ hV
      have hb_6 := hJ.bl
      obtain ⟨v33, v32, v31, v30, v29, v28, v27, v26, v25, v24, v23, v22, v21, _⟩ := hV
      replace hh := hJ.hp
      refine wl_cast (updL_K (eql_cons v33 (eql_cons v32 (eql_cons v31 (eql_cons v30 (eql_cons v29 (eql_cons v28 (eql_cons v27 (eql_cons v26 (eql_cons v25 (eql_cons v24 (eql_cons v23 (eql_cons v22 (eql_cons v21 eql_nil)))))))))))))) ?_
      dsimp only [updK]
      clear hJ
      refine s_oru rfl rfl (by first | assumption | omega) (by first | assumption | omega) (by decide) ?_
      refine s_indexRow (k := i / 8) UIs.out TIs.size rfl rfl (by omega) (by omega) (by decide) ?_
      refine wl_store_row hh (i := 0) (vs := [_]) rfl rfl (ev_int rfl) rfl TIs.out rfl (by rw [length_u64s, length_digK]; omega) rfl ?_
      intro ws hh
      simp only [List.set_cons_zero] at hh
      rw [e1, Nat.mod_eq_of_lt s2, or_add s1, splice_one (by rw [length_u64s, length_digK]; omega), Nat.mul_one, u64s_set, s3, ← dig_take_snoc hlo] at hh
      refine wl_nil (b_norm (k_then (wc_region ?_)))
      refine addC (mI (wl_nil (k_then ?_)))
      refine ⟨⟨i + 1, by omega, rfl, hh⟩, by show a.size - (i + 1) < a.size - i; omega, ?_⟩
      (repeat (first | exact agree_mask _ _ _ | refine agree_upd rfl ?_ | refine agree_mask2 rfl ?_))
    · refine sr ?_
      refine lssC (wl_end (wc_seq (cF ?_)))
      refine wc_exit ?_
      refine k_exit (k_exit (b_here (k_then (sr (mL ?_)))))
      rw [List.take_of_length_le (by rw [length_lo8]; omega)] at hh
      refine s_callf (cut_calls _ _ _ (digK 18446744073709551616 ((a.size + 7) / 8) (bn a.data.toList)) _ (hh.sl_row (i := 0) rfl) (Nat.le_refl _) (by omega)) FnIs.out rfl (by decide) ?_
      rintro e_ w38 ⟨rfl, hb_⟩
      refine ⟨_, rfl, ?_⟩
      replace hh := hh.ext hb_
      refine aL (wl_end (wc_ret ?_))
      refine ret1 (by first | exact .inr rfl | exact .inl rfl) rfl (v_sl rfl) ?_
      have hbd : bn a.data.toList < 18446744073709551616 ^ ((a.size + 7) / 8) := by
        refine Nat.lt_of_lt_of_le (bn_lt _) ?_
        rw [← hsz, show (256 : Nat) = 2 ^ 8 from rfl, show (18446744073709551616 : Nat) = 2 ^ 64 from rfl, ← Nat.pow_mul, ← Nat.pow_mul]
        exact Nat.pow_le_pow_right (by omega) (by omega)
      have hd : cutL (digK 18446744073709551616 ((a.size + 7) / 8) (bn a.data.toList)) = digs 18446744073709551616 (bn a.data.toList) := by
        rw [cutL_digs (by omega) (dg_digK (by omega) _ _), dig_digK_lt hbd]
      have h1 := (Hp.cut64 (xs := digK 18446744073709551616 ((a.size + 7) / 8) (bn a.data.toList)) hh (length_digK _ _)).at_ (i := 0) rfl
      rw [hd] at h1
      rw [hd]
      exact ⟨_, _, rfl, h1, hh.below⟩
theorem Sl.take64 {w : World} {A : Option Addr} {n : Nat} {xs : List Nat} (h : Sl w A n 1 (u64s xs)) {k : Nat} (hk : k ≤ n) : Sl w A k 1 (u64s (xs.take k)) := by
  have hl := h.1
  rw [length_u64s] at hl
  refine ⟨by rw [length_u64s, List.length_take]; omega, fun h0 => ?_⟩
  obtain ⟨ad, he, hr⟩ := h.2 (by omega)
  exact ⟨ad, he, by rw [u64s_take]; exact hr.take k⟩
theorem Sl.cutL64 {w : World} {A : Option Addr} {n : Nat} {xs : List Nat} (h : Sl w A n 1 (u64s xs)) : Sl w A (cutL xs).length 1 (u64s (cutL xs)) := by
  have hl := h.1
  rw [length_u64s] at hl
  have := cutL_len xs
  have h2 := h.take64 (k := (cutL xs).length) (by omega)
  rwa [← cutL_take] at h2
theorem blen_limbs {xs : List Nat} (h : Dg 18446744073709551616 xs) : blen (dig 18446744073709551616 xs) ≤ 64 * xs.length := by
  apply blen_le
  rw [Nat.pow_mul]
  exact dig_lt h
theorem nlen_calls (A : Option Addr) (n c : Nat) (xs : List Nat) (w : World) (hx : Sl w A n 1 (u64s xs)) (hd : Dg 18446744073709551616 xs) (hc : n ≤ c) (hn : n ≤ 100000000000) :
    Calls Tryz.prog 162 #[.slice A n c] w fun e w' => e = .returned (.int .i64 (blen (dig 18446744073709551616 xs))) ∧ Below w.heap.size w w' := by
  have hl := hx.1
  rw [length_u64s] at hl
  have hcl := cutL_len xs
  have hcx := hx.cutL64
  have hcd := hd.cut
  have hlast := cutL_last xs
  rw [← dig_cutL]
  generalize hcs : cutL xs = cs at *
  have hh := Hp.start w
  refine calls_vc (N := 19) (l := [.slice A n c]) Tryz.func162 rfl rfl (by simp) ?_
  refine sr (aI (wl_end (sr (mL ?_))))
  refine s_callf (cut_calls _ _ _ xs _ hx hc (by omega)) FnIs.out rfl (by decide) ?_
  rintro e_ w4 ⟨rfl, hb_⟩
  refine ⟨_, rfl, ?_⟩
  replace hh := hh.ext hb_
  rw [hcs]
  by_cases h0 : cs.length = 0
  · refine aL (wl_end (wc_seq (sr (mL (lenC ?_)))))
    refine eqlC (wl_end (cT (sr (aI (wl_end (wc_ret (k_ret ?_)))))))
    refine ret1 (by first | exact .inr rfl | exact .inl rfl) rfl (v_int rfl) ?_
    have : cs = [] := List.eq_nil_of_length_eq_zero h0
    subst this
    exact ⟨by rw [dig, blen_zero]; rfl, hh.below⟩
  · obtain ⟨ad, rfl, hr⟩ := hcx.at_ (by omega)
    obtain ⟨d, hd⟩ := get_of_lt (l := cs) (k := cs.length - 1) (by omega)
    have hd2 := u64s_at hd
    have hd3 := hcd.at_ hd
    have e1 : cs.take (cs.length - 1) ++ [d] = cs := by rw [← take_snoc hd, List.take_of_length_le (by omega)]
    have hnz : d ≠ 0 := by
      intro h
      subst h
      apply hlast
      rw [List.getLast?_eq_getElem?]
      exact hd
    have hb := blen_top (B := 18446744073709551616) (b := 64) (m := cs.length - 1) (by decide) (hcd.take (cs.length - 1)) (by rw [List.length_take]; omega) hnz
    rw [e1] at hb
    have hb2 : blen d ≤ 64 := blen_le (by simpa using hd3)
    refine aL (wl_end (wc_seq (sr (mL (lenC ?_)))))
    refine eqlC (wl_end (cF (wc_skip (k_then (sr (mL (lenC ?_)))))))
    refine mulC (mL (mL (lenC ?_)))
    refine subC ?_
    refine s_indexSl (k := cs.length - 1) UIs.out TIs.size rfl rfl (by omega) (by omega) (by decide) ?_
    refine s_load1 TIs.out rfl ((hr.ext hh.below).at1 (by assumption)) (by decide) ?_
    refine s_callf (lz64_calls _ _ hd3) FnIs.out rfl (by decide) ?_
    rintro e_ w17 ⟨rfl, hb_⟩
    refine ⟨_, rfl, ?_⟩
    replace hh := hh.ext hb_
    refine subC (aI (wl_end (wc_ret ?_)))
    refine ret1 (by first | exact .inr rfl | exact .inl rfl) rfl (v_int rfl) ?_
    refine ⟨?_, hh.below⟩
    congr 2
    omega
theorem len256 (N : Nat) : (digs 256 N).length = (blen N + 7) / 8 := by
  have h256 : (256 : Nat) = 2 ^ 8 := rfl
  have h1 : (digs 256 N).length ≤ (blen N + 7) / 8 := by
    apply digs_len_le (by omega)
    refine Nat.lt_of_lt_of_le (lt_blen N) ?_
    rw [h256, ← Nat.pow_mul]
    exact Nat.pow_le_pow_right (by omega) (by omega)
  have h2 := digs_lt (B := 256) (by omega) N
  have h3 : blen N ≤ 8 * (digs 256 N).length := by
    apply blen_le
    rw [Nat.pow_mul]
    exact h2
  omega
theorem digK_snoc {B : Nat} (i N : Nat) : digK B (i + 1) N = digK B i N ++ [N / B ^ i % B] := by
  apply List.ext_getElem?
  intro j
  rcases Nat.lt_trichotomy j i with h | h | h
  · rw [digK_get _ _ _ (by omega), List.getElem?_append_left (by rw [length_digK]; exact h), digK_get _ _ _ h]
  · subst h
    rw [digK_get _ _ _ (by omega), List.getElem?_append_right (by rw [length_digK]; omega), length_digK]
    simp
  · rw [List.getElem?_eq_none (by rw [length_digK]; omega), List.getElem?_eq_none (by rw [List.length_append, length_digK]; simp; omega)]
theorem rep_set {R : List Nat} {k x : Nat} : (List.replicate (k + 1) 0 ++ R).set k x = List.replicate k 0 ++ (x :: R) := by
  rw [List.replicate_succ', List.append_assoc, List.set_append_right _ _ (by simp)]
  simp
theorem ntext_calls (A : Option Addr) (n c : Nat) (xs : List Nat) (w : World) (hx : Sl w A n 1 (u64s xs)) (hd : Dg 18446744073709551616 xs) (hc : n ≤ c) (hn : n ≤ 10000000000) :
    Calls Tryz.prog 158 #[.slice A n c] w fun e w' => e = .returned (.string (str (sb (dig 18446744073709551616 xs)))) ∧ Below w.heap.size w w' := by
  have hl := hx.1
  rw [length_u64s] at hl
  have hcl := cutL_len xs
  have hcx := hx.cutL64
  have hcd := hd.cut
  have hbl := blen_limbs hcd
  have hcan := cutL_digs (by omega) hd
  have hlen := len256 (dig 18446744073709551616 xs)
  rw [dig_cutL] at hbl
  have hh := Hp.start w
  refine calls_vc (N := 37) (l := [.slice A n c]) Tryz.func158 rfl rfl (by simp) ?_
  refine sr (aS (wl_end (sr (mL ?_))))
  refine s_callf (cut_calls _ _ _ xs _ hx hc (by omega)) FnIs.out rfl (by decide) ?_
  rintro e_ w7 ⟨rfl, hb_⟩
  refine ⟨_, rfl, ?_⟩
  replace hh := hh.ext hb_
  rw [hcan] at hcl hcx hcd hbl
  rw [hcan]
  refine aL (wl_end (sr (mL ?_)))
  refine s_callf (nlen_calls _ _ _ (digs 18446744073709551616 (dig 18446744073709551616 xs)) _ (hcx.ext hh.below) hcd (by omega) (by omega)) FnIs.out rfl (by decide) ?_
  rintro e_ w9 ⟨rfl, hb_⟩
  refine ⟨_, rfl, ?_⟩
  replace hh := hh.ext hb_
  rw [dig_digs (by omega)]
  generalize dig 18446744073709551616 xs = M at *
  refine addC ?_
  refine s_quoi rfl rfl (by omega) (by omega) (by omega) (by decide) ?_
  refine aI (wl_end (sr (mI ?_)))
  refine wl_make (n := (blen M + 7) / 8) hh rfl rfl (by omega) (by omega) UIs.out TIs.out rfl (by omega) (by omega) (by decide) ?_
  intro b13 w13 hh
  refine aL (wl_end (wc_seq (sr (mI (mI (wl_end (wc_block ?_)))))))
  rw [zrep_u8] at hh
  refine wc_loop1 [5, 15, 16, 17, 18, 19, 20, 21, 22, 23, 24, 25, 26, 27, 28, 29, 30, 31, 32, 33, 34] 15
    (fun v w' => ∃ i : Nat, i ≤ (blen M + 7) / 8 ∧ v = .int .i64 i ∧ Hp w [.row (some ⟨b13, 0, none⟩) ((blen M + 7) / 8) ((blen M + 7) / 8) 5 1 (u8n (List.replicate ((blen M + 7) / 8 - i) 0 ++ (digK 256 i M).reverse))] w')
    (fun v _ => (blen M + 7) / 8 - (intOf v).toNat) ?_ ?_
  · exact ⟨0, Nat.zero_le _, rfl, by simpa [digK] using hh⟩
  · clear hh
    rintro ρ' v w' ⟨i, hi, rfl, hh⟩
    by_cases hlt : i < (blen M + 7) / 8
    · obtain ⟨ad, rfl, hr⟩ := hcx.at_ (by omega)
      have hg := digs_get (B := 18446744073709551616) (n := M) (i := i / 8) (by omega) (by omega)
      have hg2 := u64s_at hg
      have e1 : ((i : Int) % 8 * 8).toNat = i % 8 * 8 := by omega
      refine sr ?_
      refine lssC (wl_end (wc_seq (cT (wc_skip (k_then (wc_seq (wc_block (sr (mI (aI (wl_end ?_)))))))))))
      refine wc_region (mL (mI ?_))
      refine subC (mI ?_)
      refine subC (mL (mI ?_))
      refine s_quoi rfl rfl (by omega) (by omega) (by omega) (by decide) ?_
      refine s_indexSl (k := i / 8) UIs.out TIs.size rfl rfl (by omega) (by omega) (by decide) ?_
      refine s_load1 TIs.out rfl ((hr.ext hh.below).at1 (by assumption)) (by decide) ?_
      refine mI ?_
      refine s_remi rfl rfl (by omega) (by omega) (by decide) ?_
      refine mulC ?_
      refine s_shru rfl rfl (by omega) (by decide) ?_
      first | refine s_convu_lt UIs.out UIs.out rfl (by first | assumption | omega) (by decide) ?_ | refine s_convu UIs.out UIs.out rfl (by decide) ?_
      refine s_indexRow (k := (blen M + 7) / 8 - 1 - i) UIs.out TIs.size rfl rfl (by omega) (by omega) (by decide) ?_
      refine wl_store_row hh (i := 0) (vs := [_]) rfl rfl (ev_int rfl) rfl TIs.out rfl (by rw [length_u8n, List.length_append, List.length_reverse, List.length_replicate, length_digK]; omega) rfl ?_
      intro ws hh
      simp only [List.set_cons_zero] at hh
      obtain ⟨k, hk⟩ : ∃ k, (blen M + 7) / 8 - i = k + 1 := ⟨(blen M + 7) / 8 - i - 1, by omega⟩
      rw [e1, text_step, Nat.mul_one, splice_one (by rw [length_u8n, List.length_append, List.length_reverse, List.length_replicate, length_digK]; omega), u8n_set, hk, show (blen M + 7) / 8 - 1 - i = k by omega, rep_set, ← List.reverse_concat, ← digK_snoc] at hh
      refine wl_nil (b_norm (k_then (wc_region ?_)))
      refine addC (mI (wl_nil (k_then ?_)))
      refine ⟨⟨i + 1, by omega, rfl, by rw [show (blen M + 7) / 8 - (i + 1) = k by omega]; exact hh⟩, by show (blen M + 7) / 8 - (i + 1) < (blen M + 7) / 8 - i; omega, ?_⟩
      (repeat (first | exact agree_mask _ _ _ | refine agree_upd rfl ?_ | refine agree_mask2 rfl ?_))
    · obtain rfl : i = (blen M + 7) / 8 := by omega
      have hfin : u8n (List.replicate ((blen M + 7) / 8 - (blen M + 7) / 8) 0 ++ (digK 256 ((blen M + 7) / 8) M).reverse) = u8s (sb M) := by
        rw [Nat.sub_self, List.replicate_zero, List.nil_append, ← hlen]
        have h1 : M < 256 ^ (digs 256 M).length := digs_lt (by omega) M
        rw [digs_pad (by omega) h1, Nat.sub_self, List.replicate_zero, List.append_nil, u8n_bytes (fun d hd => (can_digs (B := 256) (by omega) M).1 d (List.mem_reverse.1 hd)), sb, List.map_reverse]
      rw [hfin] at hh
      refine sr ?_
      refine lssC (wl_end (wc_seq (cF ?_)))
      refine wc_exit ?_
      refine k_exit (k_exit (b_here (k_then (sr (mL ?_)))))
      refine s_bytes_str UIs.out UIs.out UIs.out rfl (hh.sl_row (i := 0) rfl) (by decide) ?_
      refine aS (wl_end (wc_ret ?_))
      refine ret1 (by first | exact .inr rfl | exact .inl rfl) rfl (v_str rfl) ?_
      exact ⟨rfl, hh.below⟩
theorem ncopied_calls (A : Option Addr) (n c m : Nat) (xs : List Nat) (w : World) (hx : Sl w A n 1 (u64s xs)) (hn : n ≤ 10000000000) (hm : m ≤ 10000000000) :
    Calls Tryz.prog 165 #[.slice A n c, .int .i64 m] w fun e w' => ∃ b, e = .returned (.slice (some ⟨b, 0, none⟩) (max m n) (max m n)) ∧ w'.ownsRow w.heap.size 124 1 (.slice (some ⟨b, 0, none⟩) (max m n) (max m n)) (max m n) (u64s (xs ++ List.replicate (max m n - n) 0)) ∧ Below w.heap.size w w' := by
  have hl := hx.1
  rw [length_u64s] at hl
  have hh := Hp.start w
  refine calls_vc (N := 15) (l := [.slice A n c, .int .i64 m]) Tryz.func165 rfl rfl (by simp) ?_
  refine sr (aL (wl_end (sr (mI (mL (lenC ?_))))))
  refine s_max rfl rfl (by decide) ?_
  refine wl_make (n := max m n) hh rfl rfl (by omega) (by omega) UIs.out TIs.out rfl (by omega) (by omega) (by decide) ?_
  intro b10 w10 hh
  refine aL (wl_end (sr (mL (mL ?_))))
  rw [zrep_u64] at hh
  refine wl_copy hh (i := 0) (o := 0) rfl rfl rfl (hx.ext hh.below) UIs.out TIs.out (by rw [length_u64s, List.length_replicate]; omega) (oneCells_u64s _) (by decide) ?_
  intro w13 hh
  skip
  have e1 : splice (u64s (List.replicate (max m n) 0)) 0 ((u64s xs).take (min n (max m n) * 1)) = u64s (xs ++ List.replicate (max m n - n) 0) := by
    rw [List.take_of_length_le (by rw [length_u64s]; omega), splice, List.take_zero, List.nil_append, length_u64s, ← u64s_drop, ← u64s_append, List.drop_replicate]
    congr 3
    omega
  simp only [List.set_cons_zero, e1] at hh
  refine wl_end (sr (mL (aL (wl_end (wc_ret ?_)))))
  refine ret1 (by first | exact .inr rfl | exact .inl rfl) rfl (v_sl rfl) ?_
  exact ⟨_, rfl, hh.at_ (i := 0) rfl, hh.below⟩
theorem ncmp_calls (A B : Option Addr) (n c m c' : Nat) (xs ys : List Nat) (w : World) (hx : Sl w A n 1 (u64s xs)) (hy : Sl w B m 1 (u64s ys)) (hdx : Dg 18446744073709551616 xs) (hdy : Dg 18446744073709551616 ys) (hc : n ≤ c) (hc' : m ≤ c') (hn : n ≤ 100000000000) (hm : m ≤ 100000000000) :
    Calls Tryz.prog 168 #[.slice A n c, .slice B m c'] w fun e w' => e = .returned (.int .i64 (cmpN (dig 18446744073709551616 xs) (dig 18446744073709551616 ys))) ∧ Below w.heap.size w w' := by
  have hlx := hx.1
  have hly := hy.1
  rw [length_u64s] at hlx hly
  have hcx := hx.cutL64
  have hcy := hy.cutL64
  have hxl := cutL_len xs
  have hyl := cutL_len ys
  have hx2 := Can.cut hdx
  have hy2 := Can.cut hdy
  have hh := Hp.start w
  rw [← dig_cutL xs, ← dig_cutL ys]
  refine calls_vc (N := 47) (l := [.slice A n c, .slice B m c']) Tryz.func168 rfl rfl (by simp) ?_
  refine sr (aI (wl_end (sr (mL ?_))))
  refine s_callf (cut_calls _ _ _ xs _ hx hc (by omega)) FnIs.out rfl (by decide) ?_
  rintro e_ w7 ⟨rfl, hb_⟩
  refine ⟨_, rfl, ?_⟩
  replace hh := hh.ext hb_
  refine mL ?_
  refine s_callf (cut_calls _ _ _ ys _ (hy.ext hh.below) hc' (by omega)) FnIs.out rfl (by decide) ?_
  rintro e_ w9 ⟨rfl, hb_⟩
  refine ⟨_, rfl, ?_⟩
  replace hh := hh.ext hb_
  generalize cutL xs = us at *
  generalize cutL ys = vs at *
  by_cases hlen : us.length = vs.length
  · refine aL (aL (wl_end (wc_seq (sr (mL (lenC (mL (lenC ?_))))))))
    refine neqC (wl_end (cF (wc_skip (k_then (wc_seq (sr (mL (lenC ?_))))))))
    refine subC (aI (wl_end (wc_block ?_)))
    refine wc_loop1 [4, 5, 23, 24, 25, 26, 27, 28, 29, 30, 31, 32, 33, 34, 35, 36, 37, 38, 39, 40, 41, 42, 43, 44, 45, 46] 5
      (fun v w' => ∃ k : Nat, k ≤ us.length ∧ v = .int .i64 ((k : Int) - 1) ∧ us.drop k = vs.drop k ∧ Hp w [] w')
      (fun v _ => (intOf v + 1).toNat) ?_ ?_
    · exact ⟨us.length, Nat.le_refl _, rfl, by rw [List.drop_length, List.drop_eq_nil_of_le (by omega)], hh⟩
    · clear hh
      rintro ρ' v w' ⟨k, hk, rfl, hd, hh⟩
      by_cases h0 : k = 0
      · subst h0
        refine wc_seq (sr (mI ?_))
        refine geqC (wl_end (cF ?_))
        refine wc_exit ?_
        refine k_exit (k_exit (b_here (k_then (sr (aI (wl_end (wc_ret ?_)))))))
        refine ret1 (by first | exact .inr rfl | exact .inl rfl) rfl (v_int rfl) ?_
        rw [List.drop_zero, List.drop_zero] at hd
        rw [hd]
        exact ⟨by rw [cmpN_eq rfl], hh.below⟩
      · obtain ⟨j, rfl⟩ : ∃ j, k = j + 1 := ⟨k - 1, by omega⟩
        obtain ⟨x, hxj⟩ := get_of_lt (l := us) (k := j) (by omega)
        obtain ⟨y, hyj⟩ := get_of_lt (l := vs) (k := j) (by omega)
        obtain ⟨ad, rfl, hr⟩ := hcx.at_ (by omega)
        obtain ⟨ad2, rfl, hs⟩ := hcy.at_ (by omega)
        have hx3 := u64s_at hxj
        have hy3 := u64s_at hyj
        by_cases hlt : x < y
        · have hf := cmpN_drop hx2.1 hxj hyj hd hlt
          refine wc_seq (sr (mI ?_))
          refine geqC (wl_end (cT (wc_skip (k_then (wc_seq (wc_block (wc_block (wc_seq ?_))))))))
          refine wc_drawn 8 [[(0, none)], [(5, none)], [(28, some 0), (29, some 1)], [(30, some 2)], [(1, none)], [(5, none)], [(32, some 4), (33, some 5)], [(34, some 6)]] [(7, 35), (6, 34), (5, 33), (4, 32), (3, 31), (2, 30), (1, 29), (0, 28)] hh mixed (by kernel_rfl) ?_
          refine dmL ?_
          refine dmI ?_
          refine dis (j) ?_
          refine dlF (fun _ hj => (hr.ext hj.hp.below).at1 hx3) ?_
          refine dmL ?_
          refine dmI ?_
          refine dis (j) ?_
          refine dlF (fun _ hj => (hs.ext hj.hp.below).at1 hy3) ?_
          refine dx_nil ?_
          intro f W hJ hV
          have hb_9 := hJ.bl
          obtain ⟨v35, v34, v33, v32, v31, v30, v29, v28, _⟩ := hV
          replace hh := hJ.hp
          refine wl_cast (updL_K (eql_cons v35 (eql_cons v34 (eql_cons v33 (eql_cons v32 (eql_cons v31 (eql_cons v30 (eql_cons v29 (eql_cons v28 eql_nil))))))))) ?_
          dsimp only [updK]
          clear hJ
          refine lssC (aB (wl_end (cT (sr (aI (wl_end (wc_ret (b_ret (b_ret (k_ret (k_ret ?_)))))))))))
          refine b_ret (k_ret ?_)
          refine ret1 (by first | exact .inr rfl | exact .inl rfl) rfl (v_int rfl) ?_
          exact ⟨by rw [cmpN_lt hf], hh.below⟩
        · by_cases hgt : y < x
          · have hf := cmpN_drop hy2.1 hyj hxj hd.symm hgt
            refine wc_seq (sr (mI ?_))
            refine geqC (wl_end (cT (wc_skip (k_then (wc_seq (wc_block (wc_block (wc_seq ?_))))))))
            refine wc_drawn 8 [[(0, none)], [(5, none)], [(28, some 0), (29, some 1)], [(30, some 2)], [(1, none)], [(5, none)], [(32, some 4), (33, some 5)], [(34, some 6)]] [(7, 35), (6, 34), (5, 33), (4, 32), (3, 31), (2, 30), (1, 29), (0, 28)] hh mixed (by kernel_rfl) ?_
            refine dmL ?_
            refine dmI ?_
            refine dis (j) ?_
            refine dlF (fun _ hj => (hr.ext hj.hp.below).at1 hx3) ?_
            refine dmL ?_
            refine dmI ?_
            refine dis (j) ?_
            refine dlF (fun _ hj => (hs.ext hj.hp.below).at1 hy3) ?_
            refine dx_nil ?_
            intro f W hJ hV
            have hb_9 := hJ.bl
            obtain ⟨v35, v34, v33, v32, v31, v30, v29, v28, _⟩ := hV
            replace hh := hJ.hp
            refine wl_cast (updL_K (eql_cons v35 (eql_cons v34 (eql_cons v33 (eql_cons v32 (eql_cons v31 (eql_cons v30 (eql_cons v29 (eql_cons v28 eql_nil))))))))) ?_
            dsimp only [updK]
            clear hJ
            refine lssC (aB (wl_end (cF (wc_seq ?_))))
            refine wc_drawn 8 [[(0, none)], [(5, none)], [(38, some 0), (39, some 1)], [(40, some 2)], [(1, none)], [(5, none)], [(42, some 4), (43, some 5)], [(44, some 6)]] [(7, 45), (6, 44), (5, 43), (4, 42), (3, 41), (2, 40), (1, 39), (0, 38)] hh mixed (by kernel_rfl) ?_
            refine dmL ?_
            refine dmI ?_
            refine dis (j) ?_
            refine dlF (fun _ hj => (hr.ext hj.hp.below).at1 hx3) ?_
            refine dmL ?_
            refine dmI ?_
            refine dis (j) ?_
            refine dlF (fun _ hj => (hs.ext hj.hp.below).at1 hy3) ?_
            refine dx_nil ?_
            intro f W hJ hV
            have hb_11 := hJ.bl
            obtain ⟨v45, v44, v43, v42, v41, v40, v39, v38, _⟩ := hV
            replace hh := hJ.hp
            refine wl_cast (updL_K (eql_cons v45 (eql_cons v44 (eql_cons v43 (eql_cons v42 (eql_cons v41 (eql_cons v40 (eql_cons v39 (eql_cons v38 eql_nil))))))))) ?_
            dsimp only [updK]
            clear hJ
            refine gtrC (aB (wl_end (cT (sr (aI (wl_end (wc_ret (b_ret (b_ret (k_ret (k_ret ?_)))))))))))
            refine b_ret (k_ret ?_)
            refine ret1 (by first | exact .inr rfl | exact .inl rfl) rfl (v_int rfl) ?_
            exact ⟨by rw [cmpN_gt hf], hh.below⟩
          · refine wc_seq (sr (mI ?_))
            refine geqC (wl_end (cT (wc_skip (k_then (wc_seq (wc_block (wc_block (wc_seq ?_))))))))
            refine wc_drawn 8 [[(0, none)], [(5, none)], [(28, some 0), (29, some 1)], [(30, some 2)], [(1, none)], [(5, none)], [(32, some 4), (33, some 5)], [(34, some 6)]] [(7, 35), (6, 34), (5, 33), (4, 32), (3, 31), (2, 30), (1, 29), (0, 28)] hh mixed (by kernel_rfl) ?_
            refine dmL ?_
            refine dmI ?_
            refine dis (j) ?_
            refine dlF (fun _ hj => (hr.ext hj.hp.below).at1 hx3) ?_
            refine dmL ?_
            refine dmI ?_
            refine dis (j) ?_
            refine dlF (fun _ hj => (hs.ext hj.hp.below).at1 hy3) ?_
            refine dx_nil ?_
            intro f W hJ hV
            have hb_9 := hJ.bl
            obtain ⟨v35, v34, v33, v32, v31, v30, v29, v28, _⟩ := hV
            replace hh := hJ.hp
            refine wl_cast (updL_K (eql_cons v35 (eql_cons v34 (eql_cons v33 (eql_cons v32 (eql_cons v31 (eql_cons v30 (eql_cons v29 (eql_cons v28 eql_nil))))))))) ?_
            dsimp only [updK]
            clear hJ
            refine lssC (aB (wl_end (cF (wc_seq ?_))))
            refine wc_drawn 8 [[(0, none)], [(5, none)], [(38, some 0), (39, some 1)], [(40, some 2)], [(1, none)], [(5, none)], [(42, some 4), (43, some 5)], [(44, some 6)]] [(7, 45), (6, 44), (5, 43), (4, 42), (3, 41), (2, 40), (1, 39), (0, 38)] hh mixed (by kernel_rfl) ?_
            refine dmL ?_
            refine dmI ?_
            refine dis (j) ?_
            refine dlF (fun _ hj => (hr.ext hj.hp.below).at1 hx3) ?_
            refine dmL ?_
            refine dmI ?_
            refine dis (j) ?_
            refine dlF (fun _ hj => (hs.ext hj.hp.below).at1 hy3) ?_
            refine dx_nil ?_
            intro f W hJ hV
            have hb_11 := hJ.bl
            obtain ⟨v45, v44, v43, v42, v41, v40, v39, v38, _⟩ := hV
            replace hh := hJ.hp
            refine wl_cast (updL_K (eql_cons v45 (eql_cons v44 (eql_cons v43 (eql_cons v42 (eql_cons v41 (eql_cons v40 (eql_cons v39 (eql_cons v38 eql_nil))))))))) ?_
            dsimp only [updK]
            clear hJ
            refine gtrC (aB (wl_end (cF (wc_skip (b_norm (b_norm (k_then (wc_region (mI ?_)))))))))
            refine subC (aI (wl_nil (k_then ?_)))
            refine ⟨⟨j, by omega, by show Value.int _ _ = Value.int _ _; congr 1; omega, drop_eq_step hxj hyj hd (by omega), hh⟩, by show ((((j + 1 : Nat) : Int) - 1 - 1) + 1).toNat < ((((j + 1 : Nat) : Int) - 1) + 1).toNat; omega, ?_⟩
            (repeat (first | exact agree_mask _ _ _ | refine agree_upd rfl ?_ | refine agree_mask2 rfl ?_))
  · by_cases hlt : us.length < vs.length
    · have hf : dig 18446744073709551616 us < dig 18446744073709551616 vs := by
        refine Nat.lt_of_not_le fun h => ?_
        have := hy2.len_le hx2 (by omega) h
        omega
      refine aL (aL (wl_end (wc_seq (sr (mL (lenC (mL (lenC ?_))))))))
      refine neqC (wl_end (cT (wc_seq (sr (mL (lenC (mL (lenC ?_))))))))
      refine lssC (wl_end (cT (sr (aI (wl_end (wc_ret (k_ret (k_ret ?_))))))))
      refine ret1 (by first | exact .inr rfl | exact .inl rfl) rfl (v_int rfl) ?_
      exact ⟨by rw [cmpN_lt hf], hh.below⟩
    · have hf : dig 18446744073709551616 vs < dig 18446744073709551616 us := by
        refine Nat.lt_of_not_le fun h => ?_
        have := hx2.len_le hy2 (by omega) h
        omega
      refine aL (aL (wl_end (wc_seq (sr (mL (lenC (mL (lenC ?_))))))))
      refine neqC (wl_end (cT (wc_seq (sr (mL (lenC (mL (lenC ?_))))))))
      refine lssC (wl_end (cF (wc_skip (k_then (sr (aI (wl_end (wc_ret (k_ret ?_)))))))))
      refine ret1 (by first | exact .inr rfl | exact .inl rfl) rfl (v_int rfl) ?_
      exact ⟨by rw [cmpN_gt hf], hh.below⟩
end Go.Proofs.YthmmofllajkejaaGreatDoor

/- The walks through the program's natural numbers (nat): what turns limbs in place. -/
namespace Go.Proofs.YthmmofllajkejaaGreatDoor
open Go.RowKit
-- umode
theorem mulW {y m : Nat} (hy : y < 18446744073709551616) (hm : m < 18446744073709551616) : y * m ≤ 340282366920938463426481119284349108225 := Nat.mul_le_mul (by omega : y ≤ 18446744073709551615) (by omega : m ≤ 18446744073709551615)
theorem plus_math {x y m c P : Nat} (hx : x < 18446744073709551616) (hc : c < 18446744073709551616) (hP : P ≤ 340282366920938463426481119284349108225) (he : P = y * m) :
    (x + (P % 18446744073709551616 + c + 0) % 18446744073709551616 + 0) % 18446744073709551616 = (x + y * m + c) % 18446744073709551616 ∧ ((P / 18446744073709551616 + (P % 18446744073709551616 + c + 0) / 18446744073709551616) % 18446744073709551616 + (x + (P % 18446744073709551616 + c + 0) % 18446744073709551616 + 0) / 18446744073709551616) % 18446744073709551616 = (x + y * m + c) / 18446744073709551616 ∧ (x + y * m + c) / 18446744073709551616 < 18446744073709551616 := by
  rw [← he]
  omega
theorem nplus_calls {w0 : World} {H : List HE} {b M C c' ny cy m : Nat} {Y : Option Addr} (pre xs post ys : List Nat) (w : World) (hh : Hp w0 (.row (some ⟨b, 0, none⟩) M C 124 1 (u64s (pre ++ xs ++ post)) :: H) w)
    (hy : ∀ w1 cs, Hp w0 (.row (some ⟨b, 0, none⟩) M C 124 1 cs :: H) w1 → Sl w1 Y ny 1 (u64s ys)) (hxd : Dg 18446744073709551616 xs) (hyd : Dg 18446744073709551616 ys) (hm : m < 18446744073709551616) (hM : xs.length ≤ 100000000000) (hny : ny ≤ 100000000000) :
    Calls Tryz.prog 171 #[.slice (some ⟨b, pre.length, none⟩) xs.length c', .slice Y ny cy, .int .u64 (m : Int)] w fun e w' => e = .returned (.tuple #[]) ∧ Hp w0 (.row (some ⟨b, 0, none⟩) M C 124 1 (u64s (pre ++ plusL 18446744073709551616 xs ys m 0 ++ post)) :: H) w' := by
  have hly := (hy _ _ hh).1
  rw [length_u64s] at hly
  refine calls_vc (N := 56) (l := [.slice (some ⟨b, pre.length, none⟩) xs.length c', .slice Y ny cy, .int .u64 (m : Int)]) Tryz.func171 rfl rfl (by simp) ?_
  refine sr (aI (wl_end (sr (mL (lenC (mI (wl_end (wc_block ?_))))))))
  refine wc_loop2 [6, 7, 8, 9, 10, 11, 14, 15, 16, 17, 18, 19, 20, 21, 22, 23, 24, 25, 26, 27, 28, 29, 30, 31, 32, 33, 34, 35, 36, 37, 38, 39, 40, 41, 42, 43, 44, 45, 46, 47, 48, 49, 50, 51, 52, 53, 54, 55] 6 14
    (fun c i w' => ∃ (done rest : List Nat) (cr : Nat), done.length + rest.length = xs.length ∧ i = .int .i64 done.length ∧ c = .int .u64 (cr : Int) ∧ cr < 18446744073709551616 ∧ Dg 18446744073709551616 rest ∧ done ++ plusL 18446744073709551616 rest (ys.drop done.length) m cr = plusL 18446744073709551616 xs ys m 0 ∧ Hp w0 (.row (some ⟨b, 0, none⟩) M C 124 1 (u64s (pre ++ (done ++ rest) ++ post)) :: H) w')
    (fun _ i _ => xs.length - (intOf i).toNat) ?_ ?_
  · exact ⟨[], xs, 0, by simp, rfl, rfl, by omega, hxd, rfl, hh⟩
  · clear hh
    rintro ρ' c i w' ⟨done, rest, cr, hlen, rfl, rfl, hcr, hrd, heq, hh⟩
    by_cases hlt : done.length < xs.length
    · obtain ⟨x, r, rfl⟩ : ∃ x r, rest = x :: r := by
        cases rest with
        | nil => simp at hlen; omega
        | cons x r => exact ⟨x, r, rfl⟩
      have hx := hrd.head
      have hg := u64s_at (get_mid (pre := pre) (done := done) (r := r) (post := post) (x := x))
      have hlr : done.length + (r.length + 1) = xs.length := by simpa using hlen
      simp only [plusL, tail_drop, hd0_drop] at heq
      by_cases hiy : done.length < ny
      · obtain ⟨y, hyk⟩ := get_of_lt (l := ys) (k := done.length) (by omega)
        obtain ⟨ad, rfl, _⟩ := (hy _ _ hh).at_ (by omega)
        rw [hyk, Option.getD_some] at heq
        have hyw := hyd.at_ hyk
        refine sr ?_
        refine lssC (wl_end (wc_seq (cT (wc_skip (k_then (wc_seq (wc_block (sr (mI (aI (wl_end ?_)))))))))))
        refine sr (aI (wl_end (wc_seq (sr (mI (mL (lenC ?_)))))))
        refine lssC (wl_end (cT (wc_region (mL (mI ?_)))))
        refine s_indexSl (k := done.length) UIs.out TIs.size rfl rfl (by omega) (by omega) (by decide) ?_
        refine s_load1 TIs.out rfl ((hy _ _ hh).at64 hyk) (by decide) ?_
        refine aI (wl_end (sr (mI (mI ?_))))
        obtain ⟨p1, p2, p3⟩ := plus_math (y := y) (m := m) hx hcr (mulW hyw hm) rfl
        refine s_callf (mul64_calls y m _ hyw hm) FnIs.out rfl (by decide) ?_
        rintro e_ w28 ⟨rfl, hb_⟩
        refine ⟨_, rfl, ?_⟩
        replace hh := hh.ext hb_
        refine mT ?_
        refine exC ?_
        refine exC ?_
        refine aI (aI (wl_end (sr (mI (mI ?_)))))
        refine s_callx (add64_run (y * m % 18446744073709551616) cr 0 (by omega) _) (evs_cons (ev_int rfl) (evs_cons (ev_int rfl) (evs_cons rfl evs_nil))) (by decide) ?_
        refine mT ?_
        refine exC ?_
        refine exC ?_
        refine aI (aI (wl_end (sr (mI (mI ?_)))))
        refine s_addu rfl rfl (by decide) ?_
        refine aI (wl_end (sr (mL (mI (mL (mI ?_))))))
        refine s_indexOff UIs.out TIs.size rfl rfl rfl (by omega) (by decide) ?_
        refine s_load1 TIs.out rfl (hh.cell_row (i := 0) rfl (by first | assumption | (simp only [Nat.mul_one]; assumption))) (by decide) ?_
        refine mI ?_
        refine s_callx (add64_run x ((y * m % 18446744073709551616 + cr + 0) % 18446744073709551616) 0 (by omega) _) (evs_cons (ev_int rfl) (evs_cons (ev_int rfl) (evs_cons rfl evs_nil))) (by decide) ?_
        refine mT ?_
        refine exC ?_
        refine exC ?_
        refine s_indexOff (k := done.length) UIs.out TIs.size rfl rfl (by omega) (by omega) (by decide) ?_
        refine wl_store_row hh (i := 0) (vs := [_]) rfl rfl (ev_int rfl) rfl TIs.out rfl (by rw [length_u64s]; simp only [List.length_append, List.length_cons]; omega) rfl ?_
        intro ws hh
        simp only [List.set_cons_zero] at hh
        rw [p1, Nat.mul_one, splice_one (by rw [length_u64s]; simp only [List.length_append, List.length_cons]; omega), u64s_set, set_mid] at hh
        refine aI (wl_end (wc_region (mI (mI ?_))))
        refine s_addu rfl rfl (by decide) ?_
        refine aI (wl_nil (b_norm (k_then (wc_region ?_))))
        refine addC (mI (wl_nil (k_then ?_)))
        rw [p2]
        refine ⟨⟨done ++ [(x + y * m + cr) % 18446744073709551616], r, _, by simp; omega, by rw [List.length_append]; rfl, rfl, p3, hrd.tail, ?_, hh⟩, by show xs.length - (done.length + 1) < xs.length - done.length; omega, ?_⟩
        · rw [← heq, List.append_assoc, List.length_append]; rfl
        (repeat (first | exact agree_mask _ _ _ | refine agree_upd rfl ?_ | refine agree_mask2 rfl ?_))
      · rw [List.getElem?_eq_none (by omega), Option.getD_none] at heq
        have h0w : (0 : Nat) < 18446744073709551616 := by omega
        refine sr ?_
        refine lssC (wl_end (wc_seq (cT (wc_skip (k_then (wc_seq (wc_block (sr (mI (aI (wl_end ?_)))))))))))
        refine sr (aI (wl_end (wc_seq (sr (mI (mL (lenC ?_)))))))
        refine lssC (wl_end (cF (wc_skip (k_then (sr (mI (mI ?_)))))))
        obtain ⟨p1, p2, p3⟩ := plus_math (y := 0) (m := m) hx hcr (mulW h0w hm) rfl
        refine s_callf (mul64_calls 0 m _ h0w hm) FnIs.out rfl (by decide) ?_
        rintro e_ w28 ⟨rfl, hb_⟩
        refine ⟨_, rfl, ?_⟩
        replace hh := hh.ext hb_
        refine mT ?_
        refine exC ?_
        refine exC ?_
        refine aI (aI (wl_end (sr (mI (mI ?_)))))
        refine s_callx (add64_run (0 * m % 18446744073709551616) cr 0 (by omega) _) (evs_cons (ev_int rfl) (evs_cons (ev_int rfl) (evs_cons rfl evs_nil))) (by decide) ?_
        refine mT ?_
        refine exC ?_
        refine exC ?_
        refine aI (aI (wl_end (sr (mI (mI ?_)))))
        refine s_addu rfl rfl (by decide) ?_
        refine aI (wl_end (sr (mL (mI (mL (mI ?_))))))
        refine s_indexOff UIs.out TIs.size rfl rfl rfl (by omega) (by decide) ?_
        refine s_load1 TIs.out rfl (hh.cell_row (i := 0) rfl (by first | assumption | (simp only [Nat.mul_one]; assumption))) (by decide) ?_
        refine mI ?_
        refine s_callx (add64_run x ((0 * m % 18446744073709551616 + cr + 0) % 18446744073709551616) 0 (by omega) _) (evs_cons (ev_int rfl) (evs_cons (ev_int rfl) (evs_cons rfl evs_nil))) (by decide) ?_
        refine mT ?_
        refine exC ?_
        refine exC ?_
        refine s_indexOff (k := done.length) UIs.out TIs.size rfl rfl (by omega) (by omega) (by decide) ?_
        refine wl_store_row hh (i := 0) (vs := [_]) rfl rfl (ev_int rfl) rfl TIs.out rfl (by rw [length_u64s]; simp only [List.length_append, List.length_cons]; omega) rfl ?_
        intro ws hh
        simp only [List.set_cons_zero] at hh
        rw [p1, Nat.mul_one, splice_one (by rw [length_u64s]; simp only [List.length_append, List.length_cons]; omega), u64s_set, set_mid] at hh
        refine aI (wl_end (wc_region (mI (mI ?_))))
        refine s_addu rfl rfl (by decide) ?_
        refine aI (wl_nil (b_norm (k_then (wc_region ?_))))
        refine addC (mI (wl_nil (k_then ?_)))
        rw [p2]
        refine ⟨⟨done ++ [(x + 0 * m + cr) % 18446744073709551616], r, _, by simp; omega, by rw [List.length_append]; rfl, rfl, p3, hrd.tail, ?_, hh⟩, by show xs.length - (done.length + 1) < xs.length - done.length; omega, ?_⟩
        · rw [← heq, List.append_assoc, List.length_append]; rfl
        (repeat (first | exact agree_mask _ _ _ | refine agree_upd rfl ?_ | refine agree_mask2 rfl ?_))
    · have hr0 : rest = [] := List.eq_nil_of_length_eq_zero (by omega)
      subst hr0
      refine sr ?_
      refine lssC (wl_end (wc_seq (cF ?_)))
      refine wc_exit ?_
      refine k_exit (k_exit (b_here ?_))
      refine ret0 (by first | exact .inr rfl | exact .inl rfl) rfl  ?_
      rw [List.append_nil, plusL, List.append_nil] at *
      rw [← heq]
      exact ⟨rfl, hh⟩
theorem ntake_calls {w0 : World} {H : List HE} {b M C c' ny cy : Nat} {Y : Option Addr} (pre xs post ys : List Nat) (w : World) (hh : Hp w0 (.row (some ⟨b, 0, none⟩) M C 124 1 (u64s (pre ++ xs ++ post)) :: H) w)
    (hy : ∀ w1 cs, Hp w0 (.row (some ⟨b, 0, none⟩) M C 124 1 cs :: H) w1 → Sl w1 Y ny 1 (u64s ys)) (hxd : Dg 18446744073709551616 xs) (hyd : Dg 18446744073709551616 ys) (hM : xs.length ≤ 100000000000) (hny : ny ≤ 100000000000) (hsub : subB 18446744073709551616 xs ys 0 = 0) :
    Calls Tryz.prog 169 #[.slice (some ⟨b, pre.length, none⟩) xs.length c', .slice Y ny cy] w fun e w' => e = .returned (.bool true) ∧ Hp w0 (.row (some ⟨b, 0, none⟩) M C 124 1 (u64s (pre ++ subL 18446744073709551616 xs ys 0 ++ post)) :: H) w' := by
  have hly := (hy _ _ hh).1
  rw [length_u64s] at hly
  refine calls_vc (N := 37) (l := [.slice (some ⟨b, pre.length, none⟩) xs.length c', .slice Y ny cy]) Tryz.func169 rfl rfl (by simp) ?_
  refine sr (aB (wl_end (sr (aI (wl_end (wc_seq (sr (mL (lenC (mI (wl_end ?_)))))))))))
  refine wc_block ?_
  refine wc_loop2 [5, 6, 7, 10, 11, 12, 13, 14, 15, 16, 17, 18, 19, 20, 21, 22, 23, 24, 25, 26, 27, 28, 29, 30, 31, 32, 33, 34] 5 10
    (fun c i w' => ∃ (done rest : List Nat) (cr : Nat), done.length + rest.length = xs.length ∧ i = .int .i64 done.length ∧ c = .int .u64 (cr : Int) ∧ cr ≤ 1 ∧ Dg 18446744073709551616 rest ∧ done ++ subL 18446744073709551616 rest (ys.drop done.length) cr = subL 18446744073709551616 xs ys 0 ∧ subB 18446744073709551616 rest (ys.drop done.length) cr = 0 ∧ Hp w0 (.row (some ⟨b, 0, none⟩) M C 124 1 (u64s (pre ++ (done ++ rest) ++ post)) :: H) w')
    (fun _ i _ => xs.length - (intOf i).toNat) ?_ ?_
  · exact ⟨[], xs, 0, by simp, rfl, rfl, by omega, hxd, rfl, hsub, hh⟩
  · clear hh
    rintro ρ' c i w' ⟨done, rest, cr, hlen, rfl, rfl, hcr, hrd, heq, hsb, hh⟩
    by_cases hlt : done.length < xs.length
    · obtain ⟨x, r, rfl⟩ : ∃ x r, rest = x :: r := by
        cases rest with
        | nil => simp at hlen; omega
        | cons x r => exact ⟨x, r, rfl⟩
      have hx := hrd.head
      have hg := u64s_at (get_mid (pre := pre) (done := done) (r := r) (post := post) (x := x))
      have hlr : done.length + (r.length + 1) = xs.length := by simpa using hlen
      simp only [subL, subB, tail_drop, hd0_drop] at heq hsb
      by_cases hiy : done.length < ny
      · obtain ⟨y, hyk⟩ := get_of_lt (l := ys) (k := done.length) (by omega)
        obtain ⟨ad, rfl, _⟩ := (hy _ _ hh).at_ (by omega)
        rw [hyk, Option.getD_some] at heq hsb
        have hyw := hyd.at_ hyk
        refine sr ?_
        refine lssC (wl_end (wc_seq (cT (wc_skip (k_then (wc_seq (wc_block (sr (mI (aI (wl_end ?_)))))))))))
        refine sr (aI (wl_end (wc_seq (sr (mI (mL (lenC ?_)))))))
        refine lssC (wl_end (cT (wc_region (mL (mI ?_)))))
        refine s_indexSl (k := done.length) UIs.out TIs.size rfl rfl (by omega) (by omega) (by decide) ?_
        refine s_load1 TIs.out rfl ((hy _ _ hh).at64 hyk) (by decide) ?_
        refine aI (wl_end (wc_region (mL (mI (mL (mI ?_))))))
        refine s_indexOff (k := done.length) UIs.out TIs.size rfl rfl (by omega) (by omega) (by decide) ?_
        refine s_load1 TIs.out rfl (hh.cell_row (i := 0) rfl (by first | assumption | (simp only [Nat.mul_one]; assumption))) (by decide) ?_
        refine mI (mI ?_)
        refine s_callx (sub64_run x y cr hcr _) (evs_cons (ev_int rfl) (evs_cons (ev_int rfl) (evs_cons (ev_int rfl) evs_nil))) (by decide) ?_
        refine mT ?_
        refine exC ?_
        refine exC ?_
        refine s_indexOff (k := done.length) UIs.out TIs.size rfl rfl (by omega) (by omega) (by decide) ?_
        refine wl_store_row hh (i := 0) (vs := [_]) rfl rfl (ev_int rfl) rfl TIs.out rfl (by rw [length_u64s]; simp only [List.length_append, List.length_cons]; omega) rfl ?_
        intro ws hh
        simp only [List.set_cons_zero] at hh
        rw [Nat.mul_one, splice_one (by rw [length_u64s]; simp only [List.length_append, List.length_cons]; omega), u64s_set, set_mid] at hh
        refine aI (wl_nil (b_norm (k_then (wc_region ?_))))
        refine addC (mI (wl_nil (k_then ?_)))
        refine ⟨⟨done ++ [(x + 18446744073709551616 - y - cr) % 18446744073709551616], r, _, by simp; omega, by rw [List.length_append]; rfl, rfl, by split <;> omega, hrd.tail, ?_, ?_, hh⟩, by show xs.length - (done.length + 1) < xs.length - done.length; omega, ?_⟩
        · rw [← heq, List.append_assoc, List.length_append]; rfl
        · rw [List.length_append]; exact hsb
        (repeat (first | exact agree_mask _ _ _ | refine agree_upd rfl ?_ | refine agree_mask2 rfl ?_))
      · rw [List.getElem?_eq_none (by omega), Option.getD_none] at heq hsb
        refine sr ?_
        refine lssC (wl_end (wc_seq (cT (wc_skip (k_then (wc_seq (wc_block (sr (mI (aI (wl_end ?_)))))))))))
        refine sr (aI (wl_end (wc_seq (sr (mI (mL (lenC ?_)))))))
        refine lssC (wl_end (cF (wc_skip (k_then (wc_region (mL (mI (mL (mI ?_)))))))))
        refine s_indexOff (k := done.length) UIs.out TIs.size rfl rfl (by omega) (by omega) (by decide) ?_
        refine s_load1 TIs.out rfl (hh.cell_row (i := 0) rfl (by first | assumption | (simp only [Nat.mul_one]; assumption))) (by decide) ?_
        refine mI (mI ?_)
        refine s_callx (sub64_run x 0 cr hcr _) (evs_cons (ev_int rfl) (evs_cons (ev_int rfl) (evs_cons (ev_int rfl) evs_nil))) (by decide) ?_
        refine mT ?_
        refine exC ?_
        refine exC ?_
        refine s_indexOff (k := done.length) UIs.out TIs.size rfl rfl (by omega) (by omega) (by decide) ?_
        refine wl_store_row hh (i := 0) (vs := [_]) rfl rfl (ev_int rfl) rfl TIs.out rfl (by rw [length_u64s]; simp only [List.length_append, List.length_cons]; omega) rfl ?_
        intro ws hh
        simp only [List.set_cons_zero] at hh
        rw [Nat.mul_one, splice_one (by rw [length_u64s]; simp only [List.length_append, List.length_cons]; omega), u64s_set, set_mid] at hh
        refine aI (wl_nil (b_norm (k_then (wc_region ?_))))
        refine addC (mI (wl_nil (k_then ?_)))
        refine ⟨⟨done ++ [(x + 18446744073709551616 - 0 - cr) % 18446744073709551616], r, _, by simp; omega, by rw [List.length_append]; rfl, rfl, by split <;> omega, hrd.tail, ?_, ?_, hh⟩, by show xs.length - (done.length + 1) < xs.length - done.length; omega, ?_⟩
        · rw [← heq, List.append_assoc, List.length_append]; rfl
        · rw [List.length_append]; exact hsb
        (repeat (first | exact agree_mask _ _ _ | refine agree_upd rfl ?_ | refine agree_mask2 rfl ?_))
    · have hr0 : rest = [] := List.eq_nil_of_length_eq_zero (by omega)
      subst hr0
      obtain rfl : cr = 0 := hsb
      refine sr ?_
      refine lssC (wl_end (wc_seq (cF ?_)))
      refine wc_exit ?_
      refine k_exit (k_exit (b_here (k_then (sr (mI ?_)))))
      refine eqlC (aB (wl_end (wc_ret ?_)))
      refine ret1 (by first | exact .inr rfl | exact .inl rfl) rfl (v_bool rfl) ?_
      rw [List.append_nil, subL, List.append_nil] at *
      rw [← heq]
      exact ⟨rfl, hh⟩
theorem nadd_calls {w0 : World} {H : List HE} {b M C c' ny cy : Nat} {Y : Option Addr} (pre xs post ys : List Nat) (w : World) (hh : Hp w0 (.row (some ⟨b, 0, none⟩) M C 124 1 (u64s (pre ++ xs ++ post)) :: H) w)
    (hy : ∀ w1 cs, Hp w0 (.row (some ⟨b, 0, none⟩) M C 124 1 cs :: H) w1 → Sl w1 Y ny 1 (u64s ys)) (hxd : Dg 18446744073709551616 xs) (hyd : Dg 18446744073709551616 ys) (hM : xs.length ≤ 100000000000) (hny : ny ≤ 100000000000) :
    Calls Tryz.prog 166 #[.slice (some ⟨b, pre.length, none⟩) xs.length c', .slice Y ny cy] w fun e w' => e = .returned (.tuple #[]) ∧ Hp w0 (.row (some ⟨b, 0, none⟩) M C 124 1 (u64s (pre ++ plusL 18446744073709551616 xs ys 1 0 ++ post)) :: H) w' := by
  have hly := (hy _ _ hh).1
  rw [length_u64s] at hly
  refine calls_vc (N := 34) (l := [.slice (some ⟨b, pre.length, none⟩) xs.length c', .slice Y ny cy]) Tryz.func166 rfl rfl (by simp) ?_
  refine sr (aI (wl_end (sr (mL (lenC (mI (wl_end (wc_block ?_))))))))
  refine wc_loop2 [4, 5, 6, 9, 10, 11, 12, 13, 14, 15, 16, 17, 18, 19, 20, 21, 22, 23, 24, 25, 26, 27, 28, 29, 30, 31, 32, 33] 4 9
    (fun c i w' => ∃ (done rest : List Nat) (cr : Nat), done.length + rest.length = xs.length ∧ i = .int .i64 done.length ∧ c = .int .u64 (cr : Int) ∧ cr ≤ 1 ∧ Dg 18446744073709551616 rest ∧ done ++ plusL 18446744073709551616 rest (ys.drop done.length) 1 cr = plusL 18446744073709551616 xs ys 1 0 ∧ Hp w0 (.row (some ⟨b, 0, none⟩) M C 124 1 (u64s (pre ++ (done ++ rest) ++ post)) :: H) w')
    (fun _ i _ => xs.length - (intOf i).toNat) ?_ ?_
  · exact ⟨[], xs, 0, by simp, rfl, rfl, by omega, hxd, rfl, hh⟩
  · clear hh
    rintro ρ' c i w' ⟨done, rest, cr, hlen, rfl, rfl, hcr, hrd, heq, hh⟩
    by_cases hlt : done.length < xs.length
    · obtain ⟨x, r, rfl⟩ : ∃ x r, rest = x :: r := by
        cases rest with
        | nil => simp at hlen; omega
        | cons x r => exact ⟨x, r, rfl⟩
      have hx := hrd.head
      have hg := u64s_at (get_mid (pre := pre) (done := done) (r := r) (post := post) (x := x))
      have hlr : done.length + (r.length + 1) = xs.length := by simpa using hlen
      simp only [plusL, tail_drop, hd0_drop, Nat.mul_one] at heq
      by_cases hiy : done.length < ny
      · obtain ⟨y, hyk⟩ := get_of_lt (l := ys) (k := done.length) (by omega)
        obtain ⟨ad, rfl, _⟩ := (hy _ _ hh).at_ (by omega)
        rw [hyk, Option.getD_some] at heq
        have hyw := hyd.at_ hyk
        refine sr ?_
        refine lssC (wl_end (wc_seq (cT (wc_skip (k_then (wc_seq (wc_block (sr (mI (aI (wl_end ?_)))))))))))
        refine sr (aI (wl_end (wc_seq (sr (mI (mL (lenC ?_)))))))
        refine lssC (wl_end (cT (wc_region (mL (mI ?_)))))
        refine s_indexSl (k := done.length) UIs.out TIs.size rfl rfl (by omega) (by omega) (by decide) ?_
        refine s_load1 TIs.out rfl ((hy _ _ hh).at64 hyk) (by decide) ?_
        refine aI (wl_end (wc_region (mL (mI (mL (mI ?_))))))
        refine s_indexOff (k := done.length) UIs.out TIs.size rfl rfl (by omega) (by omega) (by decide) ?_
        refine s_load1 TIs.out rfl (hh.cell_row (i := 0) rfl (by first | assumption | (simp only [Nat.mul_one]; assumption))) (by decide) ?_
        refine mI (mI ?_)
        refine s_callx (add64_run x y cr hcr _) (evs_cons (ev_int rfl) (evs_cons (ev_int rfl) (evs_cons (ev_int rfl) evs_nil))) (by decide) ?_
        refine mT ?_
        refine exC ?_
        refine exC ?_
        refine s_indexOff (k := done.length) UIs.out TIs.size rfl rfl (by omega) (by omega) (by decide) ?_
        refine wl_store_row hh (i := 0) (vs := [_]) rfl rfl (ev_int rfl) rfl TIs.out rfl (by rw [length_u64s]; simp only [List.length_append, List.length_cons]; omega) rfl ?_
        intro ws hh
        simp only [List.set_cons_zero] at hh
        rw [Nat.mul_one, splice_one (by rw [length_u64s]; simp only [List.length_append, List.length_cons]; omega), u64s_set, set_mid] at hh
        refine aI (wl_nil (b_norm (k_then (wc_region ?_))))
        refine addC (mI (wl_nil (k_then ?_)))
        refine ⟨⟨done ++ [(x + y + cr) % 18446744073709551616], r, _, by simp; omega, by rw [List.length_append]; rfl, rfl, by omega, hrd.tail, ?_, hh⟩, by show xs.length - (done.length + 1) < xs.length - done.length; omega, ?_⟩
        · rw [← heq, List.append_assoc, List.length_append]; rfl
        (repeat (first | exact agree_mask _ _ _ | refine agree_upd rfl ?_ | refine agree_mask2 rfl ?_))
      · rw [List.getElem?_eq_none (by omega), Option.getD_none] at heq
        refine sr ?_
        refine lssC (wl_end (wc_seq (cT (wc_skip (k_then (wc_seq (wc_block (sr (mI (aI (wl_end ?_)))))))))))
        refine sr (aI (wl_end (wc_seq (sr (mI (mL (lenC ?_)))))))
        refine lssC (wl_end (cF (wc_skip (k_then (wc_region (mL (mI (mL (mI ?_)))))))))
        refine s_indexOff (k := done.length) UIs.out TIs.size rfl rfl (by omega) (by omega) (by decide) ?_
        refine s_load1 TIs.out rfl (hh.cell_row (i := 0) rfl (by first | assumption | (simp only [Nat.mul_one]; assumption))) (by decide) ?_
        refine mI (mI ?_)
        refine s_callx (add64_run x 0 cr hcr _) (evs_cons (ev_int rfl) (evs_cons (ev_int rfl) (evs_cons (ev_int rfl) evs_nil))) (by decide) ?_
        refine mT ?_
        refine exC ?_
        refine exC ?_
        refine s_indexOff (k := done.length) UIs.out TIs.size rfl rfl (by omega) (by omega) (by decide) ?_
        refine wl_store_row hh (i := 0) (vs := [_]) rfl rfl (ev_int rfl) rfl TIs.out rfl (by rw [length_u64s]; simp only [List.length_append, List.length_cons]; omega) rfl ?_
        intro ws hh
        simp only [List.set_cons_zero] at hh
        rw [Nat.mul_one, splice_one (by rw [length_u64s]; simp only [List.length_append, List.length_cons]; omega), u64s_set, set_mid] at hh
        refine aI (wl_nil (b_norm (k_then (wc_region ?_))))
        refine addC (mI (wl_nil (k_then ?_)))
        refine ⟨⟨done ++ [(x + 0 + cr) % 18446744073709551616], r, _, by simp; omega, by rw [List.length_append]; rfl, rfl, by omega, hrd.tail, ?_, hh⟩, by show xs.length - (done.length + 1) < xs.length - done.length; omega, ?_⟩
        · rw [← heq, List.append_assoc, List.length_append]; rfl
        (repeat (first | exact agree_mask _ _ _ | refine agree_upd rfl ?_ | refine agree_mask2 rfl ?_))
    · have hr0 : rest = [] := List.eq_nil_of_length_eq_zero (by omega)
      subst hr0
      refine sr ?_
      refine lssC (wl_end (wc_seq (cF ?_)))
      refine wc_exit ?_
      refine k_exit (k_exit (b_here ?_))
      refine ret0 (by first | exact .inr rfl | exact .inl rfl) rfl  ?_
      rw [List.append_nil, plusL, List.append_nil] at *
      rw [← heq]
      exact ⟨rfl, hh⟩
end Go.Proofs.YthmmofllajkejaaGreatDoor

/- The walks through the program's natural numbers (nat): shifts. -/
namespace Go.Proofs.YthmmofllajkejaaGreatDoor
open Go.RowKit
-- umode
theorem up_step {k i n d : Nat} (D : Nat) (hD : D < 18446744073709551616 ^ i) (hd : d < 18446744073709551616) (hk : i + n / 64 + 1 < k) :
    (D * 2 ^ n) / 18446744073709551616 ^ (i + n / 64) % 18446744073709551616 < 2 ^ (n % 64) ∧ d * 2 ^ (n % 64) % 18446744073709551616 = (d % 2 ^ (64 - n % 64)) * 2 ^ (n % 64) ∧
    (digK 18446744073709551616 k (D * 2 ^ n)).set (i + n / 64) ((D * 2 ^ n) / 18446744073709551616 ^ (i + n / 64) % 18446744073709551616 + d * 2 ^ (n % 64) % 18446744073709551616) = digK 18446744073709551616 k (D * 2 ^ n + 18446744073709551616 ^ (i + n / 64) * (d * 2 ^ (n % 64) % 18446744073709551616)) ∧
    (D * 2 ^ n + 18446744073709551616 ^ (i + n / 64) * (d * 2 ^ (n % 64) % 18446744073709551616)) / 18446744073709551616 ^ (i + n / 64 + 1) % 18446744073709551616 = 0 ∧
    (digK 18446744073709551616 k (D * 2 ^ n + 18446744073709551616 ^ (i + n / 64) * (d * 2 ^ (n % 64) % 18446744073709551616))).set (i + n / 64 + 1) (d / 2 ^ (64 - n % 64)) = digK 18446744073709551616 k ((D + 18446744073709551616 ^ i * d) * 2 ^ n) ∧
    (n % 64 = 0 → D * 2 ^ n + 18446744073709551616 ^ (i + n / 64) * (d * 2 ^ (n % 64) % 18446744073709551616) = (D + 18446744073709551616 ^ i * d) * 2 ^ n) := by
  have hW : (18446744073709551616 : Nat) = 2 ^ 64 := by decide
  have hs : n % 64 < 64 := Nat.mod_lt _ (by omega)
  have hn : 2 ^ n = 18446744073709551616 ^ (n / 64) * 2 ^ (n % 64) := by
    rw [hW, ← Nat.pow_mul, ← Nat.pow_add]; congr 1; omega
  generalize hq : n / 64 = q at *
  generalize hse : n % 64 = s at *
  have e : (18446744073709551616 : Nat) = 2 ^ (64 - s) * 2 ^ s := by rw [← Nat.pow_add, hW]; congr 1; omega
  have hpos : 0 < 2 ^ s := Nat.pow_pos (by omega)
  have hwp : ∀ j : Nat, 0 < 18446744073709551616 ^ j := fun j => Nat.pow_pos (by decide)
  have hP : D * 2 ^ n < 18446744073709551616 ^ (i + q) * 2 ^ s := by
    rw [hn, ← Nat.mul_assoc, Nat.pow_add]
    exact Nat.mul_lt_mul_of_pos_right (Nat.mul_lt_mul_of_pos_right hD (hwp q)) hpos
  have h1 : (D * 2 ^ n) / 18446744073709551616 ^ (i + q) < 2 ^ s := by rw [Nat.div_lt_iff_lt_mul (hwp _), Nat.mul_comm (2 ^ s)]; exact hP
  have hsW : 2 ^ s ≤ 18446744073709551616 := by rw [hW]; exact Nat.pow_le_pow_right (by omega) (by omega)
  have h2 : d * 2 ^ s % 18446744073709551616 = (d % 2 ^ (64 - s)) * 2 ^ s := by rw [e, Nat.mul_mod_mul_right]
  have h3 : (d % 2 ^ (64 - s) + 1) * 2 ^ s ≤ 18446744073709551616 := by
    rw [e]
    exact Nat.mul_le_mul_right _ (Nat.mod_lt _ (Nat.pow_pos (by omega)))
  rw [Nat.succ_mul] at h3
  have h4 : (D * 2 ^ n) / 18446744073709551616 ^ (i + q) % 18446744073709551616 = (D * 2 ^ n) / 18446744073709551616 ^ (i + q) := Nat.mod_eq_of_lt (by omega)
  have hlt1 : D * 2 ^ n + 18446744073709551616 ^ (i + q) * (d * 2 ^ s % 18446744073709551616) < 18446744073709551616 ^ (i + q + 1) := by
    rw [h2, Nat.pow_succ]
    have : 18446744073709551616 ^ (i + q) * ((d % 2 ^ (64 - s)) * 2 ^ s + 2 ^ s) ≤ 18446744073709551616 ^ (i + q) * 18446744073709551616 := Nat.mul_le_mul_left _ h3
    rw [Nat.mul_add] at this
    omega
  have hup := up_shl (d := d) (s := s) hd (by omega)
  have hfin : D * 2 ^ n + 18446744073709551616 ^ (i + q) * (d * 2 ^ s % 18446744073709551616) + 18446744073709551616 ^ (i + q + 1) * (d / 2 ^ (64 - s)) = (D + 18446744073709551616 ^ i * d) * 2 ^ n := by
    have h5 : 18446744073709551616 ^ (i + q) * (d * 2 ^ s % 18446744073709551616) + 18446744073709551616 ^ (i + q + 1) * (d / 2 ^ (64 - s)) = 18446744073709551616 ^ (i + q) * (d * 2 ^ s) := by
      conv => rhs; rw [← hup.1, Nat.mul_add]
      rw [Nat.pow_succ, Nat.mul_assoc, Nat.mul_comm 18446744073709551616]
    rw [Nat.add_assoc, h5, Nat.add_mul, hn, Nat.pow_add]
    congr 1
    simp only [Nat.mul_assoc, Nat.mul_left_comm, Nat.mul_comm]
  have hbig : ∀ j, j < k → 18446744073709551616 ^ j * 18446744073709551616 ≤ 18446744073709551616 ^ k := fun j hj => by rw [← Nat.pow_succ]; exact Nat.pow_le_pow_right (by decide) hj
  have hb1 := hbig (i + q) (by omega)
  rw [← Nat.pow_succ] at hb1
  refine ⟨by rw [h4]; exact h1, h2, ?_, ?_, ?_, ?_⟩
  · exact digK_set (by decide) (by omega) (by omega) (by rw [h4, h2]; omega)
  · rw [Nat.div_eq_of_lt hlt1]
  · have h6 : (D * 2 ^ n + 18446744073709551616 ^ (i + q) * (d * 2 ^ s % 18446744073709551616)) / 18446744073709551616 ^ (i + q + 1) % 18446744073709551616 = 0 := by rw [Nat.div_eq_of_lt hlt1]
    have h7 : d / 2 ^ (64 - s) < 18446744073709551616 := Nat.lt_of_le_of_lt (Nat.div_le_self _ _) hd
    have h8 := digK_set (B := 18446744073709551616) (k := k) (n := D * 2 ^ n + 18446744073709551616 ^ (i + q) * (d * 2 ^ s % 18446744073709551616)) (j := i + q + 1) (v := d / 2 ^ (64 - s)) (by decide) hk ?_ (by rw [h6]; omega)
    · rw [h6, Nat.zero_add, hfin] at h8
      exact h8
    · have h9 : 18446744073709551616 ^ (i + q + 1) * (d / 2 ^ (64 - s) + 1) ≤ 18446744073709551616 ^ (i + q + 1) * 18446744073709551616 := Nat.mul_le_mul_left _ h7
      have h10 := hbig (i + q + 1) hk
      rw [Nat.mul_succ] at h9
      omega
  · intro h0
    subst h0
    rw [← hfin]
    have : d / 2 ^ (64 - 0) = 0 := Nat.div_eq_of_lt (by rw [← hW]; exact hd)
    rw [this]
    simp
theorem nup_calls (A : Option Addr) (n c m : Nat) (xs : List Nat) (w : World) (hx : Sl w A n 1 (u64s xs)) (hd : Dg 18446744073709551616 xs) (hn : n ≤ 1000000000) (hm : m ≤ 10000000000) :
    Calls Tryz.prog 160 #[.slice A n c, .int .i64 (m : Int)] w fun e w' => ∃ A c, e = .returned (.slice A (digs 18446744073709551616 (dig 18446744073709551616 xs * 2 ^ m)).length c) ∧ w'.ownsRow w.heap.size 124 1 (.slice A (digs 18446744073709551616 (dig 18446744073709551616 xs * 2 ^ m)).length c) (digs 18446744073709551616 (dig 18446744073709551616 xs * 2 ^ m)).length (u64s (digs 18446744073709551616 (dig 18446744073709551616 xs * 2 ^ m))) ∧ Below w.heap.size w w' := by
  have hl := hx.1
  rw [length_u64s] at hl
  have hh := Hp.start w
  have hs1 : ((m : Int) % 64).toNat = m % 64 := by omega
  refine calls_vc (N := 55) (l := [.slice A n c, .int .i64 (m : Int)]) Tryz.func160 rfl rfl (by simp) ?_
  refine sr (aL (wl_end (sr (mL (lenC (mI ?_))))))
  refine s_quoi rfl rfl (by omega) (by omega) (by omega) (by decide) ?_
  refine addC ?_
  refine addC ?_
  refine wl_make (n := n + m / 64 + 1) hh rfl rfl (by omega) (by omega) UIs.out TIs.out rfl (by omega) (by omega) (by decide) ?_
  intro b15 w15 hh
  refine aL (wl_end (wc_seq (sr (mL (lenC (mI (wl_end (wc_block ?_))))))))
  rw [zrep_u64] at hh
  refine wc_loop1 [6, 7, 8, 18, 19, 20, 21, 22, 23, 24, 25, 26, 27, 28, 29, 30, 31, 32, 33, 34, 35, 36, 37, 38, 39, 40, 41, 42, 43, 44, 45, 46, 47, 48, 49, 50, 51, 52] 18
    (fun v w' => ∃ i : Nat, i ≤ n ∧ v = .int .i64 i ∧ Hp w [.row (some ⟨b15, 0, none⟩) (n + m / 64 + 1) (n + m / 64 + 1) 124 1 (u64s (digK 18446744073709551616 (n + m / 64 + 1) (dig 18446744073709551616 (xs.take i) * 2 ^ m)))] w')
    (fun v _ => n - (intOf v).toNat) ?_ ?_
  · exact ⟨0, Nat.zero_le _, rfl, by rw [List.take_zero, dig, Nat.zero_mul, digK_zero]; exact hh⟩
  · clear hh
    rintro ρ' v w' ⟨i, hi, rfl, hh⟩
    by_cases hlt : i < n
    · obtain ⟨d, hdi⟩ := get_of_lt (l := xs) (k := i) (by omega)
      obtain ⟨ad, rfl, hr⟩ := hx.at_ (by omega)
      have hd2 := u64s_at hdi
      have hdw := hd.at_ hdi
      have hD := dig_lt (hd.take i)
      rw [List.length_take, Nat.min_eq_left (by omega)] at hD
      obtain ⟨s1, s2, s3, s4, s5, s6⟩ := up_step (k := n + m / 64 + 1) (n := m) (dig 18446744073709551616 (xs.take i)) hD hdw (by omega)
      have hg := u64s_at (digK_get (B := 18446744073709551616) (n + m / 64 + 1) (dig 18446744073709551616 (xs.take i) * 2 ^ m) (i + m / 64) (by omega))
      refine sr ?_
      refine lssC (wl_end (wc_seq (cT (wc_skip (k_then (wc_seq (wc_block (sr (mI ?_)))))))))
      refine s_indexSl UIs.out TIs.size rfl rfl rfl (by omega) (by decide) ?_
      refine s_load1 TIs.out rfl ((hr.ext hh.below).at1 (by assumption)) (by decide) ?_
      refine aI (aI (wl_end (sr (mI (mI ?_)))))
      refine s_quoi rfl rfl (by omega) (by omega) (by omega) (by decide) ?_
      refine addC (aI (wl_end (wc_seq ?_)))
      refine wc_drawn 8 [[(5, none)], [(8, none)], [(27, some 0), (28, some 1)], [(29, some 2)], [(7, none)], [(1, none)], [(32, some 5)], [(31, some 4), (33, some 6)]] [(7, 34), (6, 33), (5, 32), (4, 31), (3, 30), (2, 29), (1, 28), (0, 27)] hh mixed (by kernel_rfl) ?_
      refine dmL ?_
      refine dmI ?_
      refine dix (i + m / 64) ?_
      refine dx_val (i := 3) (fun ρ1 w1 hj hR => x_load1 TIs.out (show ρ1 29 = Value.pointer _ from hR.1) (hj.hp.cell_row (i := 0) rfl (by rw [Nat.mul_one]; exact hg))) ?_
      refine dmI ?_
      refine dmI ?_
      refine dx_val (i := 6) (fun ρ1 w1 hj hR => x_remi (show ρ1 32 = Value.int _ _ from hR.1) rfl (by omega) (by omega)) ?_
      refine dx_val (i := 7) (fun ρ1 w1 hj hR => x_shlu (show ρ1 31 = Value.int _ _ from hR.1) (show ρ1 33 = Value.int _ _ from hR.2.1) (by omega)) ?_
      refine dx_nil ?_
      intro f W hJ hV
      have hb_6 := hJ.bl
      obtain ⟨v34, v33, v32, v31, v30, v29, v28, v27, _⟩ := hV
      replace hh := hJ.hp
      refine wl_cast (updL_K (eql_cons v34 (eql_cons v33 (eql_cons v32 (eql_cons v31 (eql_cons v30 (eql_cons v29 (eql_cons v28 (eql_cons v27 eql_nil))))))))) ?_
      dsimp only [updK]
      clear hJ
      refine s_oru rfl rfl (by first | assumption | omega) (by first | assumption | omega) (by decide) ?_
      refine s_indexRow (k := i + m / 64) UIs.out TIs.size rfl rfl (by omega) (by omega) (by decide) ?_
      refine wl_store_row hh (i := 0) (vs := [_]) rfl rfl (ev_int rfl) rfl TIs.out rfl (by rw [length_u64s, length_digK]; omega) rfl ?_
      intro ws hh
      simp only [List.set_cons_zero] at hh
      rw [hs1, s2, or_add s1, ← s2, Nat.mul_one, splice_one (by rw [length_u64s, length_digK]; omega), u64s_set, s3] at hh
      by_cases h0 : m % 64 = 0
      · refine wl_end (sr (mI ?_))
        refine s_remi rfl rfl (by omega) (by omega) (by decide) ?_
        refine gtrC (wl_end (cF (wc_skip (b_norm (k_then (wc_region ?_))))))
        refine addC (mI (wl_nil (k_then ?_)))
        rw [s6 h0, ← dig_take_snoc hdi] at hh
        refine ⟨⟨i + 1, by omega, rfl, hh⟩, by show n - (i + 1) < n - i; omega, ?_⟩
        (repeat (first | exact agree_mask _ _ _ | refine agree_upd rfl ?_ | refine agree_mask2 rfl ?_))
      · have hg2 := u64s_at (digK_get (B := 18446744073709551616) (n + m / 64 + 1) (dig 18446744073709551616 (xs.take i) * 2 ^ m + 18446744073709551616 ^ (i + m / 64) * (d * 2 ^ (m % 64) % 18446744073709551616)) (i + m / 64 + 1) (by omega))
        rw [s4] at hg2
        have hs2 : (64 - (m : Int) % 64).toNat = 64 - m % 64 := by omega
        have hd64 : d / 2 ^ (64 - (m : Int) % 64).toNat < 18446744073709551616 := Nat.lt_of_le_of_lt (Nat.div_le_self _ _) hdw
        have h0w : (0 : Nat) < 18446744073709551616 := by omega
        refine wl_end (sr (mI ?_))
        refine s_remi rfl rfl (by omega) (by omega) (by decide) ?_
        refine gtrC (wl_end (cT ?_))
        refine wc_drawn 10 [[(5, none)], [(8, none)], [(41, some 1)], [(40, some 0), (42, some 2)], [(43, some 3)], [(7, none)], [(1, none)], [(46, some 6)], [(47, some 7)], [(45, some 5), (48, some 8)]] [(9, 49), (8, 48), (7, 47), (6, 46), (5, 45), (4, 44), (3, 43), (2, 42), (1, 41), (0, 40)] hh mixed (by kernel_rfl) ?_
        refine dmL ?_
        refine dmI ?_
        refine dadd ?_
        refine dix (i + m / 64 + 1) ?_
        refine dx_val (i := 4) (fun ρ1 w1 hj hR => x_load1 TIs.out (show ρ1 43 = Value.pointer _ from hR.1) (hj.hp.cell_row (i := 0) rfl (by rw [Nat.mul_one]; exact hg2))) ?_
        refine dmI ?_
        refine dmI ?_
        refine dx_val (i := 7) (fun ρ1 w1 hj hR => x_remi (show ρ1 46 = Value.int _ _ from hR.1) rfl (by omega) (by omega)) ?_
        refine dsub ?_
        refine dx_val (i := 9) (fun ρ1 w1 hj hR => x_shru (show ρ1 45 = Value.int _ _ from hR.1) (show ρ1 48 = Value.int _ _ from hR.2.1) (by omega)) ?_
        refine dx_nil ?_
        intro f W hJ hV
        have hb_8 := hJ.bl
        obtain ⟨v49, v48, v47, v46, v45, v44, v43, v42, v41, v40, _⟩ := hV
        replace hh := hJ.hp
        refine wl_cast (updL_K (eql_cons v49 (eql_cons v48 (eql_cons v47 (eql_cons v46 (eql_cons v45 (eql_cons v44 (eql_cons v43 (eql_cons v42 (eql_cons v41 (eql_cons v40 eql_nil))))))))))) ?_
        dsimp only [updK]
        clear hJ
        refine s_oru rfl rfl (by first | assumption | omega) (by first | assumption | omega) (by decide) ?_
        refine s_indexRow (k := i + m / 64 + 1) UIs.out TIs.size rfl rfl (by omega) (by omega) (by decide) ?_
        refine wl_store_row hh (i := 0) (vs := [_]) rfl rfl (ev_int rfl) rfl TIs.out rfl (by rw [length_u64s, length_digK]; omega) rfl ?_
        intro ws hh
        simp only [List.set_cons_zero] at hh
        rw [hs2, Nat.zero_or, Nat.mul_one, splice_one (by rw [length_u64s, length_digK]; omega), u64s_set, s5, ← dig_take_snoc hdi] at hh
        refine wl_nil (b_norm (k_then (wc_region ?_)))
        refine addC (mI (wl_nil (k_then ?_)))
        refine ⟨⟨i + 1, by omega, rfl, hh⟩, by show n - (i + 1) < n - i; omega, ?_⟩
        (repeat (first | exact agree_mask _ _ _ | refine agree_upd rfl ?_ | refine agree_mask2 rfl ?_))
    · refine sr ?_
      refine lssC (wl_end (wc_seq (cF ?_)))
      refine wc_exit ?_
      refine k_exit (k_exit (b_here (k_then (sr (mL ?_)))))
      rw [List.take_of_length_le (by omega)] at hh
      refine s_callf (cut_calls _ _ _ (digK 18446744073709551616 (n + m / 64 + 1) (dig 18446744073709551616 xs * 2 ^ m)) _ (hh.sl_row (i := 0) rfl) (Nat.le_refl _) (by omega)) FnIs.out rfl (by decide) ?_
      rintro e_ w54 ⟨rfl, hb_⟩
      refine ⟨_, rfl, ?_⟩
      replace hh := hh.ext hb_
      refine aL (wl_end (wc_ret ?_))
      refine ret1 (by first | exact .inr rfl | exact .inl rfl) rfl (v_sl rfl) ?_
      have hbd : dig 18446744073709551616 xs * 2 ^ m < 18446744073709551616 ^ (n + m / 64 + 1) := by
        have h1 := dig_lt hd
        rw [show xs.length = n by omega] at h1
        have h2 : 2 ^ m ≤ 18446744073709551616 ^ (m / 64 + 1) := by
          rw [show (18446744073709551616 : Nat) = 2 ^ 64 from rfl, ← Nat.pow_mul]
          exact Nat.pow_le_pow_right (by omega) (by omega)
        rw [show n + m / 64 + 1 = n + (m / 64 + 1) by omega, Nat.pow_add]
        exact Nat.lt_of_lt_of_le (Nat.mul_lt_mul_of_pos_right h1 (Nat.pow_pos (by omega))) (Nat.mul_le_mul_left _ h2)
      have hd : cutL (digK 18446744073709551616 (n + m / 64 + 1) (dig 18446744073709551616 xs * 2 ^ m)) = digs 18446744073709551616 (dig 18446744073709551616 xs * 2 ^ m) := by
        rw [cutL_digs (by omega) (dg_digK (by omega) _ _), dig_digK_lt hbd]
      have h1 := (Hp.cut64 (xs := digK 18446744073709551616 (n + m / 64 + 1) (dig 18446744073709551616 xs * 2 ^ m)) hh (length_digK _ _)).at_ (i := 0) rfl
      rw [hd] at h1
      rw [hd]
      exact ⟨_, _, rfl, h1, hh.below⟩
end Go.Proofs.YthmmofllajkejaaGreatDoor

/- The walks through the program's natural numbers (nat): down, and the package's own functions. -/
namespace Go.Proofs.YthmmofllajkejaaGreatDoor
open Go.RowKit
-- umode
theorem Sl.drop64 {w : World} {ad : Addr} {n : Nat} {xs : List Nat} (h : Sl w (some ad) n 1 (u64s xs)) {k : Nat} (hk : k < n) : Sl w (some (ad.add (k * 1))) (n - k) 1 (u64s (xs.drop k)) := by
  have hl := h.1
  rw [length_u64s] at hl
  refine ⟨by rw [length_u64s, List.length_drop]; omega, fun h0 => ⟨_, rfl, ?_⟩⟩
  obtain ⟨ad', he, hr⟩ := h.2 (by omega)
  injection he with he
  subst he
  rw [Nat.mul_one, u64s_drop]
  exact hr.drop k
theorem down_step {N j s : Nat} (hs : s < 64) (h0 : 0 < s) :
    (N / 18446744073709551616 ^ (j + 1) % 18446744073709551616) * 2 ^ (64 - s) % 18446744073709551616 = N / 18446744073709551616 ^ (j + 1) % 2 ^ s * 2 ^ (64 - s) ∧
    (N / 18446744073709551616 ^ j % 18446744073709551616 / 2 ^ s ||| (N / 18446744073709551616 ^ (j + 1) % 18446744073709551616) * 2 ^ (64 - s) % 18446744073709551616) = N / 2 ^ (64 * j + s) % 18446744073709551616 := by
  have hW : (18446744073709551616 : Nat) = 2 ^ 64 := by decide
  have e : (18446744073709551616 : Nat) = 2 ^ s * 2 ^ (64 - s) := by rw [← Nat.pow_add, hW]; congr 1; omega
  have h1 : (N / 18446744073709551616 ^ (j + 1) % 18446744073709551616) * 2 ^ (64 - s) % 18446744073709551616 = N / 18446744073709551616 ^ (j + 1) % 2 ^ s * 2 ^ (64 - s) := by
    generalize N / 18446744073709551616 ^ (j + 1) = m
    rw [e, Nat.mul_mod_mul_right, Nat.mod_mul_right_mod]
  obtain ⟨h2, h3⟩ := down_limb N j s hs h0
  exact ⟨h1, by rw [h1, or_add h2, h3]⟩
theorem ndown_calls (A : Option Addr) (n c m : Nat) (xs : List Nat) (w : World) (hx : Sl w A n 1 (u64s xs)) (hd : Dg 18446744073709551616 xs) (hc : n ≤ c) (hn : n ≤ 1000000000) (hm : m ≤ 1000000000000) :
    Calls Tryz.prog 161 #[.slice A n c, .int .i64 (m : Int)] w fun e w' => ∃ A c, e = .returned (.slice A (digs 18446744073709551616 (dig 18446744073709551616 xs / 2 ^ m)).length c) ∧ w'.ownsRow w.heap.size 124 1 (.slice A (digs 18446744073709551616 (dig 18446744073709551616 xs / 2 ^ m)).length c) (digs 18446744073709551616 (dig 18446744073709551616 xs / 2 ^ m)).length (u64s (digs 18446744073709551616 (dig 18446744073709551616 xs / 2 ^ m))) ∧ Below w.heap.size w w' := by
  have hl := hx.1
  rw [length_u64s] at hl
  have hh := Hp.start w
  have hs1 : ((m : Int) % 64).toNat = m % 64 := by omega
  have hW : (18446744073709551616 : Nat) = 2 ^ 64 := by decide
  have hmm : 2 ^ m = 18446744073709551616 ^ (m / 64) * 2 ^ (m % 64) := by
    rw [hW, ← Nat.pow_mul, ← Nat.pow_add]; congr 1; omega
  have hlt := dig_lt hd
  rw [show xs.length = n by omega] at hlt
  by_cases hbig : n ≤ m / 64
  · have h0 : dig 18446744073709551616 xs / 2 ^ m = 0 := by
      apply Nat.div_eq_of_lt
      refine Nat.lt_of_lt_of_le hlt (Nat.le_trans (Nat.pow_le_pow_right (by decide) hbig) ?_)
      rw [hmm]
      exact Nat.le_mul_of_pos_right _ (Nat.pow_pos (by omega))
    refine calls_vc (N := 61) (l := [.slice A n c, .int .i64 (m : Int)]) Tryz.func161 rfl rfl (by simp) ?_
    refine sr (aL (wl_end (wc_seq (sr (mI ?_)))))
    refine s_quoi rfl rfl (by omega) (by omega) (by omega) (by decide) ?_
    refine mL (lenC ?_)
    refine geqC (wl_end (cT (sr (aL (wl_end (wc_ret (k_ret ?_)))))))
    refine ret1 (by first | exact .inr rfl | exact .inl rfl) rfl (v_sl rfl) ?_
    rw [h0, digs_zero (by omega)]
    exact ⟨none, 0, rfl, World.ownsRow_nil _ _ _ _, hh.below⟩
  · obtain ⟨ad, rfl, hr⟩ := hx.at_ (by omega)
    have hsd := hx.drop64 (k := m / 64) (by omega)
    have hget : ∀ j, j < n → xs[j]? = some (dig 18446744073709551616 xs / 18446744073709551616 ^ j % 18446744073709551616) := fun j hj => by
      obtain ⟨d, hdj⟩ := get_of_lt (l := xs) (k := j) (by omega)
      rw [hdj, dig_get hd hdj]
    refine calls_vc (N := 61) (l := [.slice (some ad) n c, .int .i64 (m : Int)]) Tryz.func161 rfl rfl (by simp) ?_
    refine sr (aL (wl_end (wc_seq (sr (mI ?_)))))
    refine s_quoi rfl rfl (by omega) (by omega) (by omega) (by decide) ?_
    refine mL (lenC ?_)
    refine geqC (wl_end (cF (wc_skip (k_then (sr (mL (mI ?_)))))))
    refine s_quoi rfl rfl (by omega) (by omega) (by omega) (by decide) ?_
    first | refine s_cutBegin (l := m / 64) UIs.out TIs.size rfl rfl (by omega) (by omega) (by omega) (by omega) (by decide) ?_ | refine s_cutBeginA (l := m / 64) UIs.out TIs.size rfl rfl (by omega) (by omega) (by omega) (by omega) (by decide) ?_
    refine s_callf (ncopied_calls _ _ _ 0 _ _ hsd (by omega) (by omega)) FnIs.out rfl (by decide) ?_
    rintro e_ w_ ⟨b16, rfl, hown_, hb_⟩
    refine ⟨_, rfl, ?_⟩
    replace hh := hh.push_new (x := .row _ _ _ _ _ _) hb_ hown_
    rw [Nat.zero_max, Nat.sub_self, List.replicate_zero, List.append_nil] at hh
    rw [Nat.zero_max]
    refine aL (wl_end (wc_seq (sr (mL (lenC (mI (wl_end (wc_block ?_))))))))
    refine wc_loop1 [6, 19, 20, 21, 22, 23, 24, 25, 26, 27, 28, 29, 30, 31, 32, 33, 34, 35, 36, 37, 38, 39, 40, 41, 42, 43, 44, 45, 46, 47, 48, 49, 50, 51, 52, 53, 54, 55, 56, 57, 58] 19
      (fun v w' => ∃ i : Nat, i ≤ n - m / 64 ∧ v = .int .i64 i ∧ Hp w [.row (some ⟨b16, 0, none⟩) (n - m / 64) (n - m / 64) 124 1 (u64s (digK 18446744073709551616 i (dig 18446744073709551616 xs / 2 ^ m) ++ xs.drop (m / 64 + i)))] w')
      (fun v _ => (n - m / 64) - (intOf v).toNat) ?_ ?_
    · exact ⟨0, Nat.zero_le _, rfl, hh⟩
    · clear hh
      rintro ρ' v w' ⟨i, hi, rfl, hh⟩
      by_cases hlt2 : i < n - m / 64
      · have hgi := hget (m / 64 + i) (by omega)
        have hdr : xs.drop (m / 64 + i) = (dig 18446744073709551616 xs / 18446744073709551616 ^ (m / 64 + i) % 18446744073709551616) :: xs.drop (m / 64 + i + 1) := by
          rw [List.drop_eq_getElem_cons (by omega)]
          congr 1
          have := List.getElem?_eq_some_iff.1 hgi
          exact this.2
        have hcell : (digK 18446744073709551616 i (dig 18446744073709551616 xs / 2 ^ m) ++ xs.drop (m / 64 + i))[i]? = some (dig 18446744073709551616 xs / 18446744073709551616 ^ (m / 64 + i) % 18446744073709551616) := by
          rw [List.getElem?_append_right (by rw [length_digK]; omega), length_digK, hdr]; simp
        have hg := u64s_at hcell
        have hset : ∀ y, (digK 18446744073709551616 i (dig 18446744073709551616 xs / 2 ^ m) ++ xs.drop (m / 64 + i)).set i y = digK 18446744073709551616 i (dig 18446744073709551616 xs / 2 ^ m) ++ y :: xs.drop (m / 64 + i + 1) := fun y => by
          rw [hdr, List.set_append_right _ _ (by rw [length_digK]; omega), length_digK, Nat.sub_self, List.set_cons_zero]
        have hll : (digK 18446744073709551616 i (dig 18446744073709551616 xs / 2 ^ m) ++ xs.drop (m / 64 + i)).length = n - m / 64 := by rw [List.length_append, length_digK, List.length_drop]; omega
        have hac : ∀ y, digK 18446744073709551616 i (dig 18446744073709551616 xs / 2 ^ m) ++ y :: xs.drop (m / 64 + i + 1) = (digK 18446744073709551616 i (dig 18446744073709551616 xs / 2 ^ m) ++ [y]) ++ xs.drop (m / 64 + (i + 1)) := fun y => List.append_cons _ _ _
        have hnew : digK 18446744073709551616 (i + 1) (dig 18446744073709551616 xs / 2 ^ m) = digK 18446744073709551616 i (dig 18446744073709551616 xs / 2 ^ m) ++ [dig 18446744073709551616 xs / 2 ^ (64 * (m / 64 + i) + m % 64) % 18446744073709551616] := by
          rw [digK_snoc, Nat.div_div_eq_div_mul]
          congr 4
          rw [hW, ← Nat.pow_mul, ← Nat.pow_add]; congr 1; omega
        refine sr ?_
        refine lssC (wl_end (wc_seq (cT (wc_skip (k_then (wc_seq (wc_block (sr (mI (aI (wl_end ?_)))))))))))
        refine sr (mL (mI ?_))
        refine s_indexRow (k := i) UIs.out TIs.size rfl rfl (by omega) (by omega) (by decide) ?_
        refine s_load1 TIs.out rfl (hh.cell_row (i := 0) rfl (by first | assumption | (simp only [Nat.mul_one]; assumption))) (by decide) ?_
        refine mI ?_
        refine s_remi rfl rfl (by omega) (by omega) (by decide) ?_
        refine s_shru rfl rfl (by omega) (by decide) ?_
        refine s_indexRow (k := i) UIs.out TIs.size rfl rfl (by omega) (by omega) (by decide) ?_
        refine wl_store_row hh (i := 0) (vs := [_]) rfl rfl (ev_int rfl) rfl TIs.out rfl (by rw [length_u64s, hll]; omega) rfl ?_
        intro ws hh
        simp only [List.set_cons_zero] at hh
        rw [hs1, Nat.mul_one, splice_one (by rw [length_u64s, hll]; omega), u64s_set, hset] at hh
        by_cases h0 : m % 64 = 0
        · have e1 : dig 18446744073709551616 xs / 18446744073709551616 ^ (m / 64 + i) % 18446744073709551616 / 2 ^ (m % 64) = dig 18446744073709551616 xs / 2 ^ (64 * (m / 64 + i) + m % 64) % 18446744073709551616 := by
            rw [h0, Nat.pow_zero, Nat.div_one, Nat.add_zero, Nat.pow_mul, ← hW]
          by_cases hl : i + 1 < n - m / 64
          · refine wl_end (sr (mI ?_))
            refine addC (mL (lenC ?_))
            refine lssC (mB ?_)
            first | refine gS ?_ | (refine gT ?_; refine mI ?_) | refine gV ?_
            first | refine gS ?_ | (refine gT ?_; refine s_remi rfl rfl (by omega) (by omega) (by decide) ?_) | refine gV ?_
            first | refine gS ?_ | (refine gT ?_; refine gtrC ?_) | refine gV ?_
            first | refine pkT ?_ | refine pkF ?_
            refine wl_end (cF (wc_skip (b_norm (k_then (wc_region ?_)))))
            refine addC (mI (wl_nil (k_then ?_)))
            rw [e1, hac, ← hnew] at hh
            refine ⟨⟨i + 1, by omega, rfl, hh⟩, by show (n - m / 64) - (i + 1) < (n - m / 64) - i; omega, ?_⟩
            (repeat (first | exact agree_mask _ _ _ | refine agree_upd rfl ?_ | refine agree_mask2 rfl ?_))
          · refine wl_end (sr (mI ?_))
            refine addC (mL (lenC ?_))
            refine lssC (mB ?_)
            first | refine gS ?_ | (refine gT ?_; refine mI ?_) | refine gV ?_
            first | refine gS ?_ | (refine gT ?_; refine s_remi rfl rfl (by omega) (by omega) (by decide) ?_) | refine gV ?_
            first | refine gS ?_ | (refine gT ?_; refine gtrC ?_) | refine gV ?_
            first | refine pkT ?_ | refine pkF ?_
            refine wl_end (cF (wc_skip (b_norm (k_then (wc_region ?_)))))
            refine addC (mI (wl_nil (k_then ?_)))
            rw [e1, hac, ← hnew] at hh
            refine ⟨⟨i + 1, by omega, rfl, hh⟩, by show (n - m / 64) - (i + 1) < (n - m / 64) - i; omega, ?_⟩
            (repeat (first | exact agree_mask _ _ _ | refine agree_upd rfl ?_ | refine agree_mask2 rfl ?_))
        · by_cases hl : i + 1 < n - m / 64
          · have hgj := hget (m / 64 + i + 1) (by omega)
            have hgj2 := u64s_at hgj
            obtain ⟨d1, d2⟩ := down_step (N := dig 18446744073709551616 xs) (j := m / 64 + i) (s := m % 64) (Nat.mod_lt _ (by omega)) (by omega)
            have hcell2 : (digK 18446744073709551616 i (dig 18446744073709551616 xs / 2 ^ m) ++ (dig 18446744073709551616 xs / 18446744073709551616 ^ (m / 64 + i) % 18446744073709551616 / 2 ^ (m % 64)) :: xs.drop (m / 64 + i + 1))[i]? = some (dig 18446744073709551616 xs / 18446744073709551616 ^ (m / 64 + i) % 18446744073709551616 / 2 ^ (m % 64)) := by
              rw [List.getElem?_append_right (by rw [length_digK]; omega), length_digK]; simp
            have hg2 := u64s_at hcell2
            have hset2 : ∀ y z, (digK 18446744073709551616 i (dig 18446744073709551616 xs / 2 ^ m) ++ y :: xs.drop (m / 64 + i + 1)).set i z = digK 18446744073709551616 i (dig 18446744073709551616 xs / 2 ^ m) ++ z :: xs.drop (m / 64 + i + 1) := fun y z => by
              rw [List.set_append_right _ _ (by rw [length_digK]; omega), length_digK, Nat.sub_self, List.set_cons_zero]
            have hll2 : ∀ y, (digK 18446744073709551616 i (dig 18446744073709551616 xs / 2 ^ m) ++ y :: xs.drop (m / 64 + i + 1)).length = n - m / 64 := fun y => by rw [List.length_append, length_digK, List.length_cons, List.length_drop]; omega
            have hs2 : (64 - (m : Int) % 64).toNat = 64 - m % 64 := by omega
            have b1 : dig 18446744073709551616 xs / 18446744073709551616 ^ (m / 64 + i) % 18446744073709551616 / 2 ^ (m % 64) < 18446744073709551616 := Nat.lt_of_le_of_lt (Nat.div_le_self _ _) (Nat.mod_lt _ (by omega))
            have b2 : dig 18446744073709551616 xs / 18446744073709551616 ^ (m / 64 + i + 1) % 18446744073709551616 * 2 ^ (64 - (m : Int) % 64).toNat % 18446744073709551616 < 18446744073709551616 := Nat.mod_lt _ (by omega)
            refine wl_end (sr (mI ?_))
            refine addC (mL (lenC ?_))
            refine lssC (mB ?_)
            first | refine gS ?_ | (refine gT ?_; refine mI ?_) | refine gV ?_
            first | refine gS ?_ | (refine gT ?_; refine s_remi rfl rfl (by omega) (by omega) (by decide) ?_) | refine gV ?_
            first | refine gS ?_ | (refine gT ?_; refine gtrC ?_) | refine gV ?_
            first | refine pkT ?_ | refine pkF ?_
            refine wl_end (cT ?_)
            refine wc_drawn 16 [[(5, none)], [(6, none)], [(40, some 0), (41, some 1)], [(42, some 2)], [(0, none)], [(1, none)], [(45, some 5)], [(6, none)], [(46, some 6), (47, some 7)], [(48, some 8)], [(44, some 4), (49, some 9)], [(50, some 10)], [(1, none)], [(52, some 12)], [(53, some 13)], [(51, some 11), (54, some 14)]] [(15, 55), (14, 54), (13, 53), (12, 52), (11, 51), (10, 50), (9, 49), (8, 48), (7, 47), (6, 46), (5, 45), (4, 44), (3, 43), (2, 42), (1, 41), (0, 40)] hh mixed (by kernel_rfl) ?_
            refine dmL ?_
            refine dmI ?_
            refine dix (i) ?_
            refine dx_val (i := 3) (fun ρ1 w1 hj hR => x_load1 TIs.out (show ρ1 42 = Value.pointer _ from hR.1) (hj.hp.cell_row (i := 0) rfl (by rw [Nat.mul_one]; exact hg2))) ?_
            refine dmL ?_
            refine dmI ?_
            refine dx_val (i := 6) (fun ρ1 w1 hj hR => x_quoi (show ρ1 45 = Value.int _ _ from hR.1) rfl (by omega) (by omega) (by omega)) ?_
            refine dmI ?_
            refine dadd ?_
            refine dadd ?_
            refine dis (m / 64 + i + 1) ?_
            refine dlF (fun _ hj => (hr.ext hj.hp.below).at1 hgj2) ?_
            refine dmI ?_
            refine dx_val (i := 13) (fun ρ1 w1 hj hR => x_remi (show ρ1 52 = Value.int _ _ from hR.1) rfl (by omega) (by omega)) ?_
            refine dsub ?_
            refine dx_val (i := 15) (fun ρ1 w1 hj hR => x_shlu (show ρ1 51 = Value.int _ _ from hR.1) (show ρ1 54 = Value.int _ _ from hR.2.1) (by omega)) ?_
            refine dx_nil ?_
            intro f W hJ hV
            have hb_9 := hJ.bl
            obtain ⟨v55, v54, v53, v52, v51, v50, v49, v48, v47, v46, v45, v44, v43, v42, v41, v40, _⟩ := hV
            replace hh := hJ.hp
            refine wl_cast (updL_K (eql_cons v55 (eql_cons v54 (eql_cons v53 (eql_cons v52 (eql_cons v51 (eql_cons v50 (eql_cons v49 (eql_cons v48 (eql_cons v47 (eql_cons v46 (eql_cons v45 (eql_cons v44 (eql_cons v43 (eql_cons v42 (eql_cons v41 (eql_cons v40 eql_nil))))))))))))))))) ?_
            dsimp only [updK]
            clear hJ
            refine s_oru rfl rfl (by first | assumption | omega) (by first | assumption | omega) (by decide) ?_
            refine s_indexRow (k := i) UIs.out TIs.size rfl rfl (by omega) (by omega) (by decide) ?_
            refine wl_store_row hh (i := 0) (vs := [_]) rfl rfl (ev_int rfl) rfl TIs.out rfl (by rw [length_u64s, hll2]; omega) rfl ?_
            intro ws hh
            simp only [List.set_cons_zero] at hh
            rw [hs2, d2, Nat.mul_one, splice_one (by rw [length_u64s, hll2]; omega), u64s_set, hset2, hac, ← hnew] at hh
            refine wl_nil (b_norm (k_then (wc_region ?_)))
            refine addC (mI (wl_nil (k_then ?_)))
            refine ⟨⟨i + 1, by omega, rfl, hh⟩, by show (n - m / 64) - (i + 1) < (n - m / 64) - i; omega, ?_⟩
            (repeat (first | exact agree_mask _ _ _ | refine agree_upd rfl ?_ | refine agree_mask2 rfl ?_))
          · have e1 : dig 18446744073709551616 xs / 18446744073709551616 ^ (m / 64 + i) % 18446744073709551616 / 2 ^ (m % 64) = dig 18446744073709551616 xs / 2 ^ (64 * (m / 64 + i) + m % 64) % 18446744073709551616 := by
              obtain ⟨h2, h3⟩ := down_limb (dig 18446744073709551616 xs) (m / 64 + i) (m % 64) (Nat.mod_lt _ (by omega)) (by omega)
              have h4 : dig 18446744073709551616 xs / 18446744073709551616 ^ (m / 64 + i + 1) = 0 := Nat.div_eq_of_lt (Nat.lt_of_lt_of_le hlt (Nat.pow_le_pow_right (by decide) (by omega)))
              rw [h4] at h3
              simpa using h3
            refine wl_end (sr (mI ?_))
            refine addC (mL (lenC ?_))
            refine lssC (mB ?_)
            first | refine gS ?_ | (refine gT ?_; refine mI ?_) | refine gV ?_
            first | refine gS ?_ | (refine gT ?_; refine s_remi rfl rfl (by omega) (by omega) (by decide) ?_) | refine gV ?_
            first | refine gS ?_ | (refine gT ?_; refine gtrC ?_) | refine gV ?_
            first | refine pkT ?_ | refine pkF ?_
            refine wl_end (cF (wc_skip (b_norm (k_then (wc_region ?_)))))
            refine addC (mI (wl_nil (k_then ?_)))
            rw [e1, hac, ← hnew] at hh
            refine ⟨⟨i + 1, by omega, rfl, hh⟩, by show (n - m / 64) - (i + 1) < (n - m / 64) - i; omega, ?_⟩
            (repeat (first | exact agree_mask _ _ _ | refine agree_upd rfl ?_ | refine agree_mask2 rfl ?_))
      · obtain rfl : i = n - m / 64 := by omega
        rw [List.drop_eq_nil_of_le (by omega), List.append_nil] at hh
        refine sr ?_
        refine lssC (wl_end (wc_seq (cF ?_)))
        refine wc_exit ?_
        refine k_exit (k_exit (b_here (k_then (sr (mL ?_)))))
        refine s_callf (cut_calls _ _ _ (digK 18446744073709551616 (n - m / 64) (dig 18446744073709551616 xs / 2 ^ m)) _ (hh.sl_row (i := 0) rfl) (Nat.le_refl _) (by omega)) FnIs.out rfl (by decide) ?_
        rintro e_ w60 ⟨rfl, hb_⟩
        refine ⟨_, rfl, ?_⟩
        replace hh := hh.ext hb_
        refine aL (wl_end (wc_ret ?_))
        refine ret1 (by first | exact .inr rfl | exact .inl rfl) rfl (v_sl rfl) ?_
        have hbd : dig 18446744073709551616 xs / 2 ^ m < 18446744073709551616 ^ (n - m / 64) := by
          rw [Nat.div_lt_iff_lt_mul (Nat.pow_pos (by omega)), hmm, ← Nat.mul_assoc, ← Nat.pow_add, show n - m / 64 + m / 64 = n by omega]
          exact Nat.lt_of_lt_of_le hlt (Nat.le_mul_of_pos_right _ (Nat.pow_pos (by omega)))
        have hd : cutL (digK 18446744073709551616 (n - m / 64) (dig 18446744073709551616 xs / 2 ^ m)) = digs 18446744073709551616 (dig 18446744073709551616 xs / 2 ^ m) := by
          rw [cutL_digs (by omega) (dg_digK (by omega) _ _), dig_digK_lt hbd]
        have h1 := (Hp.cut64 (xs := digK 18446744073709551616 (n - m / 64) (dig 18446744073709551616 xs / 2 ^ m)) hh (length_digK _ _)).at_ (i := 0) rfl
        rw [hd] at h1
        rw [hd]
        exact ⟨_, _, rfl, h1, hh.below⟩
end Go.Proofs.YthmmofllajkejaaGreatDoor

/- The walks through the program's natural numbers (nat): the package's own functions. -/
namespace Go.Proofs.YthmmofllajkejaaGreatDoor
open Go.RowKit
-- umode
/-- The number that a string is; the string that a number is. -/
def bN (a : ByteArray) : Nat := bn a.data.toList
def sN (n : Nat) : ByteArray := str (sb n)
theorem bN_sN (n : Nat) : bN (sN n) = n := by rw [bN, sN, str_toList, bn_sb]
theorem sN_size (n : Nat) : (sN n).size = (blen n + 7) / 8 := by rw [sN, str_size, length_sb, len256]
theorem sN_inj {a b : Nat} (h : sN a = sN b) : a = b := by rw [← bN_sN a, h, bN_sN]
theorem sN_zero : sN 0 = ByteArray.mk #[] := by rw [sN, sb_zero]; rfl
theorem bN_lt (a : ByteArray) : bN a < 256 ^ a.size := by rw [ba_size]; exact bn_lt _
theorem bN_blen (a : ByteArray) : blen (bN a) ≤ 8 * a.size := by
  apply blen_le
  have := bN_lt a
  rwa [show (256 : Nat) = 2 ^ 8 from rfl, ← Nat.pow_mul] at this
theorem limbs_len {n k : Nat} (h : n < 256 ^ k) : (digs 18446744073709551616 n).length ≤ (k + 7) / 8 := by
  apply digs_len_le (by omega)
  refine Nat.lt_of_lt_of_le h ?_
  rw [show (256 : Nat) = 2 ^ 8 from rfl, show (18446744073709551616 : Nat) = 2 ^ 64 from rfl, ← Nat.pow_mul, ← Nat.pow_mul]
  exact Nat.pow_le_pow_right (by omega) (by omega)
theorem bN_limbs (a : ByteArray) : (digs 18446744073709551616 (bN a)).length ≤ (a.size + 7) / 8 := limbs_len (bN_lt a)
theorem can_W (n : Nat) : Dg 18446744073709551616 (digs 18446744073709551616 n) := (can_digs (by omega) n).1
theorem dig_W (n : Nat) : dig 18446744073709551616 (digs 18446744073709551616 n) = n := dig_digs (by omega) n
theorem nof2_calls (a : ByteArray) (w : World) (ha : a.size ≤ 1000000000) :
    Calls Tryz.prog 138 #[.string a] w fun e w' => ∃ b c, e = .returned (.slice (some ⟨b, 0, none⟩) (digs 18446744073709551616 (bN a)).length c) ∧ w'.ownsRow w.heap.size 124 1 (.slice (some ⟨b, 0, none⟩) (digs 18446744073709551616 (bN a)).length c) (digs 18446744073709551616 (bN a)).length (u64s (digs 18446744073709551616 (bN a))) ∧ Below w.heap.size w w' := nof_calls a w (by omega)
theorem natOf_calls (n : Nat) (w : World) (hn : n < 18446744073709551616) :
    Calls Tryz.prog 136 #[.int .u64 (n : Int)] w fun e w' => e = .returned (.string (sN n)) ∧ Below w.heap.size w w' := by
  have hh := Hp.start w
  refine calls_vc (N := 6) (l := [.int .u64 (n : Int)]) Tryz.func136 rfl rfl (by simp) ?_
  refine sr (aS (wl_end (sr (mI ?_))))
  refine wl_buildSlice hh (cs := [_]) UIs.out TIs.out (evp_cons (ev_int rfl) evp_nil) rfl rfl (by decide) (by decide) (by decide) rfl (by decide) ?_
  intro b4 w4 hh
  refine s_callf (ntext_calls _ _ _ [n] _ (hh.sl_row (i := 0) rfl) (Dg.cons hn Dg.nil) (Nat.le_refl _) (by omega)) FnIs.out rfl (by decide) ?_
  rintro e_ w5 ⟨rfl, hb_⟩
  refine ⟨_, rfl, ?_⟩
  replace hh := hh.ext hb_
  refine aS (wl_end (wc_ret ?_))
  refine ret1 (by first | exact .inr rfl | exact .inl rfl) rfl (v_str rfl) ?_
  refine ⟨?_, hh.below⟩
  rw [sN]
  simp [dig]
theorem natCmp_calls (a b : ByteArray) (w : World) (ha : a.size ≤ 1000000000) (hb : b.size ≤ 1000000000) :
    Calls Tryz.prog 167 #[.string a, .string b] w fun e w' => e = .returned (.int .i64 (cmpN (bN a) (bN b))) ∧ Below w.heap.size w w' := by
  have hh := Hp.start w
  have h1 := bN_limbs a
  have h2 := bN_limbs b
  refine calls_vc (N := 10) (l := [.string a, .string b]) Tryz.func167 rfl rfl (by simp) ?_
  refine sr (aI (wl_end (sr (mS ?_))))
  refine s_callf (nof2_calls a _ ha) FnIs.out rfl (by decide) ?_
  rintro e_ w6 ⟨A6, c6, rfl, hown_, hb_⟩
  refine ⟨_, rfl, ?_⟩
  replace hh := hh.push_new (x := .row _ _ _ _ _ _) hb_ hown_
  refine mS ?_
  refine s_callf (nof2_calls b _ hb) FnIs.out rfl (by decide) ?_
  rintro e_ w8 ⟨A8, c8, rfl, hown_, hb_⟩
  refine ⟨_, rfl, ?_⟩
  replace hh := hh.push_new (x := .row _ _ _ _ _ _) hb_ hown_
  refine s_callf (ncmp_calls _ _ _ _ _ _ (digs 18446744073709551616 (bN a)) (digs 18446744073709551616 (bN b)) _ (hh.sl_row (i := 1) rfl) (hh.sl_row (i := 0) rfl) (can_W _) (can_W _) (hh.row_cap (i := 1) rfl) (hh.row_cap (i := 0) rfl) (by omega) (by omega)) FnIs.out rfl (by decide) ?_
  rintro e_ w9 ⟨rfl, hb_⟩
  refine ⟨_, rfl, ?_⟩
  replace hh := hh.ext hb_
  rw [dig_W, dig_W]
  refine aI (wl_end (wc_ret ?_))
  refine ret1 (by first | exact .inr rfl | exact .inl rfl) rfl (v_int rfl) ?_
  exact ⟨rfl, hh.below⟩
theorem natLen_calls (a : ByteArray) (w : World) (ha : a.size ≤ 1000000000) :
    Calls Tryz.prog 142 #[.string a] w fun e w' => e = .returned (.int .i64 (blen (bN a))) ∧ Below w.heap.size w w' := by
  have hh := Hp.start w
  have h1 := bN_limbs a
  refine calls_vc (N := 6) (l := [.string a]) Tryz.func142 rfl rfl (by simp) ?_
  refine sr (aI (wl_end (sr (mS ?_))))
  refine s_callf (nof2_calls a _ ha) FnIs.out rfl (by decide) ?_
  rintro e_ w4 ⟨A4, c4, rfl, hown_, hb_⟩
  refine ⟨_, rfl, ?_⟩
  replace hh := hh.push_new (x := .row _ _ _ _ _ _) hb_ hown_
  refine s_callf (nlen_calls _ _ _ (digs 18446744073709551616 (bN a)) _ (hh.sl_row (i := 0) rfl) (can_W _) (hh.row_cap (i := 0) rfl) (by omega)) FnIs.out rfl (by decide) ?_
  rintro e_ w5 ⟨rfl, hb_⟩
  refine ⟨_, rfl, ?_⟩
  replace hh := hh.ext hb_
  rw [dig_W]
  refine aI (wl_end (wc_ret ?_))
  refine ret1 (by first | exact .inr rfl | exact .inl rfl) rfl (v_int rfl) ?_
  exact ⟨rfl, hh.below⟩
theorem blen_mul_pow (n m : Nat) : blen (n * 2 ^ m) ≤ blen n + m := by
  apply blen_le
  rw [Nat.pow_add]
  exact Nat.mul_lt_mul_of_pos_right (lt_blen n) (Nat.pow_pos (by omega))
theorem limbs_blen (n : Nat) : (digs 18446744073709551616 n).length ≤ (blen n + 63) / 64 := by
  apply digs_len_le (by omega)
  refine Nat.lt_of_lt_of_le (lt_blen n) ?_
  rw [show (18446744073709551616 : Nat) = 2 ^ 64 from rfl, ← Nat.pow_mul]
  exact Nat.pow_le_pow_right (by omega) (by omega)
theorem natShl_calls (a : ByteArray) (m : Nat) (w : World) (ha : a.size ≤ 1000000000) (hm : m ≤ 10000000000) :
    Calls Tryz.prog 140 #[.string a, .int .i64 (m : Int)] w fun e w' => e = .returned (.string (sN (bN a * 2 ^ m))) ∧ Below w.heap.size w w' := by
  have hh := Hp.start w
  have h1 := bN_limbs a
  have h2 := limbs_blen (bN a * 2 ^ m)
  have h3 := blen_mul_pow (bN a) m
  have h4 := bN_blen a
  have e1 : (if (0 : Int) > (m : Int) then 0 else (m : Int)) = m := if_neg (by omega)
  refine calls_vc (N := 11) (l := [.string a, .int .i64 (m : Int)]) Tryz.func140 rfl rfl (by simp) ?_
  refine sr (aS (wl_end (sr (mS ?_))))
  refine s_callf (nof2_calls a _ ha) FnIs.out rfl (by decide) ?_
  rintro e_ w6 ⟨A6, c6, rfl, hown_, hb_⟩
  refine ⟨_, rfl, ?_⟩
  replace hh := hh.push_new (x := .row _ _ _ _ _ _) hb_ hown_
  refine mI ?_
  refine s_max rfl rfl (by decide) ?_
  rw [e1]
  refine s_callf (nup_calls _ _ _ m (digs 18446744073709551616 (bN a)) _ (hh.sl_row (i := 0) rfl) (can_W _) (by omega) hm) FnIs.out rfl (by decide) ?_
  rintro e_ w9 ⟨A9, c9, rfl, hown_, hb_⟩
  refine ⟨_, rfl, ?_⟩
  replace hh := hh.push_new (x := .row _ _ _ _ _ _) hb_ hown_
  rw [dig_W] at *
  refine s_callf (ntext_calls _ _ _ (digs 18446744073709551616 (bN a * 2 ^ m)) _ (hh.sl_row (i := 0) rfl) (can_W _) (hh.row_cap (i := 0) rfl) (by omega)) FnIs.out rfl (by decide) ?_
  rintro e_ w10 ⟨rfl, hb_⟩
  refine ⟨_, rfl, ?_⟩
  replace hh := hh.ext hb_
  rw [dig_W]
  refine aS (wl_end (wc_ret ?_))
  refine ret1 (by first | exact .inr rfl | exact .inl rfl) rfl (v_str rfl) ?_
  exact ⟨rfl, hh.below⟩
theorem blen_div_pow (n m : Nat) : blen (n / 2 ^ m) ≤ blen n := by
  apply blen_le
  exact Nat.lt_of_le_of_lt (Nat.div_le_self _ _) (lt_blen n)
theorem natShr_calls (a : ByteArray) (m : Nat) (w : World) (ha : a.size ≤ 1000000000) (hm : m ≤ 1000000000000) :
    Calls Tryz.prog 141 #[.string a, .int .i64 (m : Int)] w fun e w' => e = .returned (.string (sN (bN a / 2 ^ m))) ∧ Below w.heap.size w w' := by
  have hh := Hp.start w
  have h1 := bN_limbs a
  have h2 := limbs_blen (bN a / 2 ^ m)
  have h3 := blen_div_pow (bN a) m
  have h4 := bN_blen a
  have e1 : (if (0 : Int) > (m : Int) then 0 else (m : Int)) = m := if_neg (by omega)
  refine calls_vc (N := 11) (l := [.string a, .int .i64 (m : Int)]) Tryz.func141 rfl rfl (by simp) ?_
  refine sr (aS (wl_end (sr (mS ?_))))
  refine s_callf (nof2_calls a _ ha) FnIs.out rfl (by decide) ?_
  rintro e_ w6 ⟨A6, c6, rfl, hown_, hb_⟩
  refine ⟨_, rfl, ?_⟩
  replace hh := hh.push_new (x := .row _ _ _ _ _ _) hb_ hown_
  refine mI ?_
  refine s_max rfl rfl (by decide) ?_
  rw [e1]
  refine s_callf (ndown_calls _ _ _ m (digs 18446744073709551616 (bN a)) _ (hh.sl_row (i := 0) rfl) (can_W _) (hh.row_cap (i := 0) rfl) (by omega) hm) FnIs.out rfl (by decide) ?_
  rintro e_ w9 ⟨A9, c9, rfl, hown_, hb_⟩
  refine ⟨_, rfl, ?_⟩
  replace hh := hh.push_new (x := .row _ _ _ _ _ _) hb_ hown_
  rw [dig_W] at *
  refine s_callf (ntext_calls _ _ _ (digs 18446744073709551616 (bN a / 2 ^ m)) _ (hh.sl_row (i := 0) rfl) (can_W _) (hh.row_cap (i := 0) rfl) (by omega)) FnIs.out rfl (by decide) ?_
  rintro e_ w10 ⟨rfl, hb_⟩
  refine ⟨_, rfl, ?_⟩
  replace hh := hh.ext hb_
  rw [dig_W]
  refine aS (wl_end (wc_ret ?_))
  refine ret1 (by first | exact .inr rfl | exact .inl rfl) rfl (v_str rfl) ?_
  exact ⟨rfl, hh.below⟩
theorem sub_nat {x y : Nat} (h : y ≤ x) : subB 18446744073709551616 (digs 18446744073709551616 x) (digs 18446744073709551616 y) 0 = 0 ∧ dig 18446744073709551616 (subL 18446744073709551616 (digs 18446744073709551616 x) (digs 18446744073709551616 y) 0) = x - y := by
  have := dig_subL (B := 18446744073709551616) (by omega) (digs 18446744073709551616 x) (digs 18446744073709551616 y) 0 (can_W _) (can_W _) (by omega) (by rw [dig_W, dig_W]; omega)
  rw [dig_W, dig_W] at this
  exact ⟨this.2, by omega⟩
theorem natSub_calls (a b : ByteArray) (w : World) (ha : a.size ≤ 1000000000) (hb : b.size ≤ 1000000000) :
    Calls Tryz.prog 148 #[.string a, .string b] w fun e w' => e = .returned (.tuple #[.string (sN (bN a - bN b)), .bool (decide (bN b ≤ bN a))]) ∧ Below w.heap.size w w' := by
  have hh := Hp.start w
  have h1 := bN_limbs a
  have h2 := bN_limbs b
  by_cases hlt : bN a < bN b
  · refine calls_vc (N := 21) (l := [.string a, .string b]) Tryz.func148 rfl rfl (by simp) ?_
    refine sr (aS (aB (wl_end (sr (mS ?_)))))
    refine s_callf (nof2_calls a _ ha) FnIs.out rfl (by decide) ?_
    rintro e_ w9 ⟨A9, c9, rfl, hown_, hb_⟩
    refine ⟨_, rfl, ?_⟩
    replace hh := hh.push_new (x := .row _ _ _ _ _ _) hb_ hown_
    refine mS ?_
    refine s_callf (nof2_calls b _ hb) FnIs.out rfl (by decide) ?_
    rintro e_ w11 ⟨A11, c11, rfl, hown_, hb_⟩
    refine ⟨_, rfl, ?_⟩
    replace hh := hh.push_new (x := .row _ _ _ _ _ _) hb_ hown_
    refine aL (aL (wl_end (wc_seq (sr (mL (mL ?_))))))
    refine s_callf (ncmp_calls _ _ _ _ _ _ (digs 18446744073709551616 (bN a)) (digs 18446744073709551616 (bN b)) _ (hh.sl_row (i := 1) rfl) (hh.sl_row (i := 0) rfl) (can_W _) (can_W _) (hh.row_cap (i := 1) rfl) (hh.row_cap (i := 0) rfl) (by omega) (by omega)) FnIs.out rfl (by decide) ?_
    rintro e_ w14 ⟨rfl, hb_⟩
    refine ⟨_, rfl, ?_⟩
    replace hh := hh.ext hb_
    rw [dig_W, dig_W, cmpN_lt hlt]
    refine lssC (wl_end (cT (sr (aS (aB (wl_end (wc_ret (k_ret ?_))))))))
    refine ret2 (by first | exact .inr rfl | exact .inl rfl) rfl (v_str rfl) (v_bool rfl) ?_
    rw [Nat.sub_eq_zero_of_le (by omega), decide_eq_false (by omega), sN_zero]
    exact ⟨rfl, hh.below⟩
  · obtain ⟨s1, s2⟩ := sub_nat (Nat.le_of_not_lt hlt)
    have hc : ¬ cmpN (bN a) (bN b) < 0 := by unfold cmpN; split <;> (try split) <;> omega
    refine calls_vc (N := 21) (l := [.string a, .string b]) Tryz.func148 rfl rfl (by simp) ?_
    refine sr (aS (aB (wl_end (sr (mS ?_)))))
    refine s_callf (nof2_calls a _ ha) FnIs.out rfl (by decide) ?_
    rintro e_ w9 ⟨A9, c9, rfl, hown_, hb_⟩
    refine ⟨_, rfl, ?_⟩
    replace hh := hh.push_new (x := .row _ _ _ _ _ _) hb_ hown_
    refine mS ?_
    refine s_callf (nof2_calls b _ hb) FnIs.out rfl (by decide) ?_
    rintro e_ w11 ⟨A11, c11, rfl, hown_, hb_⟩
    refine ⟨_, rfl, ?_⟩
    replace hh := hh.push_new (x := .row _ _ _ _ _ _) hb_ hown_
    refine aL (aL (wl_end (wc_seq (sr (mL (mL ?_))))))
    refine s_callf (ncmp_calls _ _ _ _ _ _ (digs 18446744073709551616 (bN a)) (digs 18446744073709551616 (bN b)) _ (hh.sl_row (i := 1) rfl) (hh.sl_row (i := 0) rfl) (can_W _) (can_W _) (hh.row_cap (i := 1) rfl) (hh.row_cap (i := 0) rfl) (by omega) (by omega)) FnIs.out rfl (by decide) ?_
    rintro e_ w14 ⟨rfl, hb_⟩
    refine ⟨_, rfl, ?_⟩
    replace hh := hh.ext hb_
    rw [dig_W, dig_W]
    refine lssC (wl_end (cF (wc_skip (k_then (sr (mL (mL ?_)))))))
    replace hh := hh.front 1 rfl
    rw [← List.append_nil (digs 18446744073709551616 (bN a)), ← List.nil_append (digs 18446744073709551616 (bN a))] at hh
    have hll := (hh.row_len (i := 0) rfl)
    rw [List.nil_append, List.append_nil] at hll
    refine s_callf (ntake_calls [] (digs 18446744073709551616 (bN a)) [] (digs 18446744073709551616 (bN b)) _ hh (fun w1 cs h => h.sl_row (i := 1) rfl) (can_W _) (can_W _) (by omega) (by omega) s1) FnIs.out rfl (by decide) ?_
    rintro e_ w_ ⟨rfl, hh⟩
    refine ⟨_, rfl, ?_⟩
    simp only [List.nil_append, List.append_nil] at hh
    refine wl_end (sr (mL ?_))
    refine s_callf (ntext_calls _ _ _ (subL 18446744073709551616 (digs 18446744073709551616 (bN a)) (digs 18446744073709551616 (bN b)) 0) _ (hh.sl_row (i := 0) rfl) (dg_subL (by omega) _ _ _) (hh.row_cap (i := 0) rfl) (by omega)) FnIs.out rfl (by decide) ?_
    rintro e_ w20 ⟨rfl, hb_⟩
    refine ⟨_, rfl, ?_⟩
    replace hh := hh.ext hb_
    rw [s2]
    refine aS (aB (wl_end (wc_ret ?_)))
    refine ret2 (by first | exact .inr rfl | exact .inl rfl) rfl (v_str rfl) (v_bool rfl) ?_
    rw [decide_eq_true (by omega)]
    exact ⟨rfl, hh.below⟩
theorem dig_one_lt {m : Nat} (hm : m < 18446744073709551616) : Dg 18446744073709551616 [m] := Dg.cons hm Dg.nil
theorem natMul_calls (a b : ByteArray) (w : World) (ha : a.size ≤ 1000000000) (hb : b.size ≤ 1000000000) :
    Calls Tryz.prog 150 #[.string a, .string b] w fun e w' => e = .returned (.string (sN (bN a * bN b))) ∧ Below w.heap.size w w' := by
  have hh := Hp.start w
  have h1 := bN_limbs a
  have h2 := bN_limbs b
  refine calls_vc (N := 37) (l := [.string a, .string b]) Tryz.func150 rfl rfl (by simp) ?_
  refine sr (aS (wl_end (sr (mS ?_))))
  refine s_callf (nof2_calls a _ ha) FnIs.out rfl (by decide) ?_
  rintro e_ w11 ⟨A11, c11, rfl, hown_, hb_⟩
  refine ⟨_, rfl, ?_⟩
  replace hh := hh.push_new (x := .row _ _ _ _ _ _) hb_ hown_
  refine mS ?_
  refine s_callf (nof2_calls b _ hb) FnIs.out rfl (by decide) ?_
  rintro e_ w13 ⟨A13, c13, rfl, hown_, hb_⟩
  refine ⟨_, rfl, ?_⟩
  replace hh := hh.push_new (x := .row _ _ _ _ _ _) hb_ hown_
  have hxd := can_W (bN a)
  have hyd := can_W (bN b)
  have hX := dig_W (bN a)
  have hY := dig_W (bN b)
  generalize digs 18446744073709551616 (bN a) = xs at *
  generalize digs 18446744073709551616 (bN b) = ys at *
  refine aL (aL (wl_end (sr (mL (lenC (mL (lenC ?_)))))))
  refine addC ?_
  refine addC ?_
  refine wl_make (n := xs.length + ys.length + 1) hh rfl rfl (by omega) (by omega) UIs.out TIs.out rfl (by omega) (by omega) (by decide) ?_
  intro b20 w20 hh
  refine aL (wl_end (wc_seq (sr (mL (lenC (mI (wl_end (wc_block ?_))))))))
  rw [zrep_u64] at hh
  refine wc_loop1 [8, 9, 23, 24, 25, 26, 27, 28, 29, 30, 31, 32, 33, 34] 23
    (fun v w' => ∃ (i : Nat) (L : List Nat), i ≤ xs.length ∧ v = .int .i64 i ∧ Dg 18446744073709551616 L ∧ L.length = xs.length + ys.length + 1 ∧ dig 18446744073709551616 L = dig 18446744073709551616 (xs.take i) * dig 18446744073709551616 ys ∧ Hp w [.row (some ⟨b20, 0, none⟩) (xs.length + ys.length + 1) (xs.length + ys.length + 1) 124 1 (u64s L), .row (some ⟨A13, 0, none⟩) ys.length c13 124 1 (u64s ys), .row (some ⟨A11, 0, none⟩) xs.length c11 124 1 (u64s xs)] w')
    (fun v _ => xs.length - (intOf v).toNat) ?_ ?_
  · exact ⟨0, _, Nat.zero_le _, rfl, Dg.zeros (by omega) _, by simp, by simp [dig_zeros, dig], hh⟩
  · clear hh
    rintro ρ' v w' ⟨i, L, hi, rfl, hLd, hLl, hLv, hh⟩
    by_cases hlt : i < xs.length
    · obtain ⟨m, hm⟩ := get_of_lt (l := xs) (k := i) (by omega)
      have hm2 := u64s_at hm
      have hmw := hxd.at_ hm
      have hpl : (L.take i).length = i := by rw [List.length_take]; omega
      have hsl : (L.drop i).length = xs.length + ys.length + 1 - i := by rw [List.length_drop]; omega
      refine sr ?_
      refine lssC (wl_end (wc_seq (cT (wc_skip (k_then (wc_seq (wc_block (sr (mI ?_)))))))))
      refine s_indexRow (k := i) UIs.out TIs.size rfl rfl (by omega) (by omega) (by decide) ?_
      refine s_load1 TIs.out rfl (hh.cell_row (i := 2) rfl (by first | assumption | (simp only [Nat.mul_one]; assumption))) (by decide) ?_
      refine aI (aI (wl_end (wc_region (mL (mI ?_)))))
      first | refine s_cutBegin (l := i) UIs.out TIs.size rfl rfl (by omega) (by omega) (by omega) (by omega) (by decide) ?_ | refine s_cutBeginA (l := i) UIs.out TIs.size rfl rfl (by omega) (by omega) (by omega) (by omega) (by decide) ?_
      refine mL (mI ?_)
      have hc := nplus_calls (c' := xs.length + ys.length + 1 - i) (ny := ys.length) (cy := c13) (m := m) (Y := some ⟨A13, 0, none⟩) (L.take i) (L.drop i) [] ys _ (by rw [List.append_nil, List.take_append_drop]; exact hh) (fun w1 cs h => h.sl_row (i := 1) rfl) (hLd.drop i) hyd hmw (by omega) (by omega)
      rw [hpl, hsl, List.append_nil] at hc
      rw [Nat.zero_add, Nat.mul_one]
      refine s_callf (hc) FnIs.out rfl (by decide) ?_
      rintro e_ w_ ⟨rfl, hh⟩
      refine ⟨_, rfl, ?_⟩
      have hlt1 := dig_lt (hxd.take (i + 1))
      have hlt2 := dig_lt hyd
      rw [List.length_take, Nat.min_eq_left (by omega)] at hlt1
      have hsn := dig_take_snoc (B := 18446744073709551616) hm
      have hsplit := dig_take_drop (B := 18446744073709551616) L i (by omega)
      have hnew : 18446744073709551616 ^ i * (dig 18446744073709551616 (L.drop i) + dig 18446744073709551616 ys * m + 0) + dig 18446744073709551616 (L.take i) = dig 18446744073709551616 (xs.take (i + 1)) * dig 18446744073709551616 ys := by
        rw [hsn, Nat.add_mul, ← hLv, hsplit, Nat.add_zero, Nat.mul_add, Nat.mul_assoc, Nat.mul_comm m]; omega
      have hbd : dig 18446744073709551616 (L.drop i) + dig 18446744073709551616 ys * m + 0 < 18446744073709551616 ^ (L.drop i).length := by
        refine Nat.lt_of_mul_lt_mul_left (a := 18446744073709551616 ^ i) ?_
        rw [← Nat.pow_add, hsl]
        refine Nat.lt_of_le_of_lt (Nat.le_add_right _ (dig 18446744073709551616 (L.take i))) ?_
        rw [hnew]
        refine Nat.lt_of_lt_of_le (Nat.mul_lt_mul'' hlt1 hlt2) ?_
        rw [← Nat.pow_add]
        exact Nat.pow_le_pow_right (by decide) (by omega)
      have hdp := dig_plusL (B := 18446744073709551616) (by omega) _ _ _ _ hbd
      refine wl_nil (b_norm (k_then (wc_region ?_)))
      refine addC (mI (wl_nil (k_then ?_)))
      refine ⟨⟨i + 1, L.take i ++ plusL 18446744073709551616 (L.drop i) ys m 0, by omega, rfl, (hLd.take i).append (dg_plusL (by omega) _ _ _ _), by rw [List.length_append, length_plusL, hpl, hsl]; omega, ?_, hh⟩, by show xs.length - (i + 1) < xs.length - i; omega, ?_⟩
      · rw [dig_append, hdp, hpl, Nat.add_comm]; exact hnew
      (repeat (first | exact agree_mask _ _ _ | refine agree_upd rfl ?_ | refine agree_mask2 rfl ?_))
    · obtain rfl : i = xs.length := by omega
      rw [List.take_length, hX, hY] at hLv
      refine sr ?_
      refine lssC (wl_end (wc_seq (cF ?_)))
      refine wc_exit ?_
      refine k_exit (k_exit (b_here (k_then (sr (mL ?_)))))
      refine s_callf (ntext_calls _ _ _ L _ (hh.sl_row (i := 0) rfl) hLd (Nat.le_refl _) (by omega)) FnIs.out rfl (by decide) ?_
      rintro e_ w36 ⟨rfl, hb_⟩
      refine ⟨_, rfl, ?_⟩
      replace hh := hh.ext hb_
      rw [hLv]
      refine aS (wl_end (wc_ret ?_))
      refine ret1 (by first | exact .inr rfl | exact .inl rfl) rfl (v_str rfl) ?_
      exact ⟨rfl, hh.below⟩
theorem tz_limb {n d r k : Nat} (hd : d ≠ 0) (hdw : d < 18446744073709551616) (hn : n = 18446744073709551616 ^ k * (d + 18446744073709551616 * r)) : tz n = 64 * k + tz d := by
  obtain ⟨m, hm⟩ := tz_spec hd
  have ht : tz d < 64 := tz_lt hd (by simpa using hdw)
  have hW : (18446744073709551616 : Nat) = 2 ^ 64 := by decide
  generalize tz d = t at *
  have e : n = 2 ^ (64 * k + t) * (2 * (m + 2 ^ (63 - t) * r) + 1) := by
    rw [hn, Nat.pow_add, Nat.pow_mul, ← hW, Nat.mul_assoc]
    congr 1
    have h1 : 18446744073709551616 = 2 ^ t * (2 * 2 ^ (63 - t)) := by rw [hW, ← Nat.pow_succ', ← Nat.pow_add]; congr 1; omega
    have h2 : 18446744073709551616 * r = 2 ^ t * (2 * 2 ^ (63 - t) * r) := by rw [← Nat.mul_assoc, ← h1]
    rw [h2]
    conv => lhs; rw [hm]
    rw [← Nat.mul_add]
    congr 1
    rw [Nat.mul_add, Nat.mul_assoc]; omega
  rw [e, tz_eq]
theorem natZeros_calls (a : ByteArray) (w : World) (ha : a.size ≤ 1000000000) (hT : Tab w) :
    Calls Tryz.prog 109 #[.string a] w fun e w' => e = .returned (.int .i64 (tz (bN a))) ∧ Below w.heap.size w w' := by
  have hh := Hp.start w
  have h1 := bN_limbs a
  refine calls_vc (N := 21) (l := [.string a]) Tryz.func109 rfl rfl (by simp) ?_
  refine sr (aI (wl_end (wc_seq (sr (mS ?_)))))
  refine s_callf (nof2_calls a _ ha) FnIs.out rfl (by decide) ?_
  rintro e_ w6 ⟨A6, c6, rfl, hown_, hb_⟩
  refine ⟨_, rfl, ?_⟩
  replace hh := hh.push_new (x := .row _ _ _ _ _ _) hb_ hown_
  have hxd := can_W (bN a)
  have hX := dig_W (bN a)
  generalize digs 18446744073709551616 (bN a) = xs at *
  refine lenC (mI (wl_end (wc_block ?_)))
  refine wc_loop1 [2, 3, 4, 8, 9, 10, 11, 12, 13, 14, 15, 16, 17, 18, 19, 20] 8
    (fun v w' => ∃ (i : Nat), i ≤ xs.length ∧ v = .int .i64 i ∧ dig 18446744073709551616 (xs.take i) = 0 ∧ Hp w [.row (some ⟨A6, 0, none⟩) xs.length c6 124 1 (u64s xs)] w')
    (fun v _ => xs.length - (intOf v).toNat) ?_ ?_
  · exact ⟨0, Nat.zero_le _, rfl, rfl, hh⟩
  · clear hh
    rintro ρ' v w' ⟨i, hi, rfl, hz, hh⟩
    by_cases hlt : i < xs.length
    · obtain ⟨d, hm⟩ := get_of_lt (l := xs) (k := i) (by omega)
      have hm2 := u64s_at hm
      have hmw := hxd.at_ hm
      by_cases h0 : d = 0
      · subst h0
        refine sr ?_
        refine lssC (wl_end (wc_seq (cT (wc_skip (k_then (wc_seq (wc_block (sr (mI ?_)))))))))
        refine s_indexRow (k := i) UIs.out TIs.size rfl rfl (by omega) (by omega) (by decide) ?_
        refine s_load1 TIs.out rfl (hh.cell_row (i := 0) rfl (by first | assumption | (simp only [Nat.mul_one]; assumption))) (by decide) ?_
        refine aI (aI (wl_end (sr (mI ?_))))
        refine neqC (wl_end (cF (wc_skip (b_norm (k_then (wc_region ?_))))))
        refine addC (mI (wl_nil (k_then ?_)))
        refine ⟨⟨i + 1, by omega, rfl, by rw [dig_take_snoc hm, hz]; simp, hh⟩, by show xs.length - (i + 1) < xs.length - i; omega, ?_⟩
        (repeat (first | exact agree_mask _ _ _ | refine agree_upd rfl ?_ | refine agree_mask2 rfl ?_))
      · have htz : tz (bN a) = 64 * i + tz d := by
          have h3 := dig_take_drop (B := 18446744073709551616) xs i (by omega)
          have h4 := (List.getElem?_eq_some_iff.1 hm)
          rw [hz, List.drop_eq_getElem_cons hlt, h4.2, dig, hX, Nat.zero_add] at h3
          exact tz_limb h0 hmw h3
        have ht : tz d < 64 := tz_lt h0 (by simpa using hmw)
        refine sr ?_
        refine lssC (wl_end (wc_seq (cT (wc_skip (k_then (wc_seq (wc_block (sr (mI ?_)))))))))
        refine s_indexRow (k := i) UIs.out TIs.size rfl rfl (by omega) (by omega) (by decide) ?_
        refine s_load1 TIs.out rfl (hh.cell_row (i := 0) rfl (by first | assumption | (simp only [Nat.mul_one]; assumption))) (by decide) ?_
        refine aI (aI (wl_end (sr (mI ?_))))
        refine neqC (wl_end (cT (sr (mI ?_))))
        refine mulC (mI ?_)
        refine s_callf (tz64_calls _ _ hmw h0 (hT.hp hh)) FnIs.out rfl (by decide) ?_
        rintro e_ w18 ⟨rfl, hb_⟩
        refine ⟨_, rfl, ?_⟩
        replace hh := hh.ext hb_
        refine addC (aI (wl_end (wc_ret (b_ret (k_ret (k_ret (b_ret (k_ret ?_))))))))
        refine ret1 (by first | exact .inr rfl | exact .inl rfl) rfl (v_int rfl) ?_
        refine ⟨?_, hh.below⟩
        congr 2
        omega
    · refine sr ?_
      refine lssC (wl_end (wc_seq (cF ?_)))
      refine wc_exit ?_
      refine k_exit (k_exit (b_here (k_then (sr (aI (wl_end (wc_ret ?_)))))))
      refine ret1 (by first | exact .inr rfl | exact .inl rfl) rfl (v_int rfl) ?_
      rw [List.take_of_length_le (by omega), hX] at hz
      rw [hz]
      exact ⟨rfl, hh.below⟩
theorem add_nat {x y k : Nat} (hx : x < 18446744073709551616 ^ k) (hy : y < 18446744073709551616 ^ k) : dig 18446744073709551616 (plusL 18446744073709551616 (digs 18446744073709551616 x ++ List.replicate (k + 1 - (digs 18446744073709551616 x).length) 0) (digs 18446744073709551616 y) 1 0) = x + y := by
  have hl := digs_len_le (B := 18446744073709551616) (by omega) hx
  have h1 : dig 18446744073709551616 (digs 18446744073709551616 x ++ List.replicate (k + 1 - (digs 18446744073709551616 x).length) 0) = x := by rw [dig_append, dig_zeros, dig_W]; simp
  have h2 : (digs 18446744073709551616 x ++ List.replicate (k + 1 - (digs 18446744073709551616 x).length) 0).length = k + 1 := by rw [List.length_append, List.length_replicate]; omega
  rw [dig_plusL (by omega), h1, dig_W]
  · omega
  · rw [h1, h2, dig_W, Nat.pow_succ]
    have : 0 < 18446744073709551616 ^ k := Nat.pow_pos (by decide)
    omega
theorem sum_snocN (l : List Nat) (x : Nat) : (l ++ [x]).sum = l.sum + x := by simp
theorem natAdd_calls (L : Option Addr) (n c : Nat) (ss : List ByteArray) (w : World) (hS : Sl w L n 1 (strs ss)) (hn : n ≤ 1000000) (hs : ∀ s ∈ ss, s.size ≤ 1000000000) :
    Calls Tryz.prog 146 #[.slice L n c] w fun e w' => e = .returned (.string (sN (ss.map bN).sum)) ∧ Below w.heap.size w w' := by
  have hsl : ss.length = n := by have := hS.1; rw [length_strs] at this; omega
  have hh := Hp.start w
  refine calls_vc (N := 31) (l := [.slice L n c]) Tryz.func146 rfl rfl (by simp) ?_
  refine sr (aS (wl_end (sr (aL (wl_end (wc_seq (sr (mL (lenC (mI (wl_end ?_)))))))))))
  refine wc_block ?_
  replace hh := hh.nil_row 124 1
  refine wc_loop2 [3, 5, 6, 9, 10, 11, 12, 13, 14, 15, 16, 17, 18, 19, 20, 21, 22, 23, 24, 25, 26, 27, 28] 3 9
    (fun v j w' => ∃ (i : Nat) (A : Option Addr) (c' T : Nat), i ≤ n ∧ j = .int .i64 i ∧ T = ((ss.take i).map bN).sum ∧ v = .slice A (digs 18446744073709551616 T).length c' ∧ (digs 18446744073709551616 T).length ≤ 125000001 + i ∧ Hp w [.row A (digs 18446744073709551616 T).length c' 124 1 (u64s (digs 18446744073709551616 T))] w')
    (fun _ j _ => n - (intOf j).toNat) ?_ ?_
  · exact ⟨0, none, 0, 0, Nat.zero_le _, rfl, rfl, by rw [digs_zero (by omega)]; rfl, by rw [digs_zero (by omega)]; simp, by rw [digs_zero (by omega)]; exact hh⟩
  · clear hh
    rintro ρ' v j w' ⟨i, A, c', T, hi, rfl, hT, rfl, hTl, hh⟩
    by_cases hlt : i < n
    · obtain ⟨s, hsi⟩ := get_of_lt (l := ss) (k := i) (by omega)
      obtain ⟨ad, rfl, hr⟩ := hS.at_ (by omega)
      have hs2 := strs_at hsi
      have hsz := hs s (List.mem_of_getElem? hsi)
      have hlx := bN_limbs s
      have hT2 : ((ss.take (i + 1)).map bN).sum = T + bN s := by rw [take_snoc hsi, List.map_append, List.map_singleton, sum_snocN, hT]
      have e1 : (if ((digs 18446744073709551616 (bN s)).length : Int) > ((digs 18446744073709551616 T).length : Int) then ((digs 18446744073709551616 (bN s)).length : Int) else ((digs 18446744073709551616 T).length : Int)) + 1 = ((max (digs 18446744073709551616 T).length (digs 18446744073709551616 (bN s)).length + 1 : Nat) : Int) := by split <;> omega
      have hb1 : T < 18446744073709551616 ^ max (digs 18446744073709551616 T).length (digs 18446744073709551616 (bN s)).length := Nat.lt_of_lt_of_le (digs_lt (by omega) T) (Nat.pow_le_pow_right (by decide) (Nat.le_max_left _ _))
      have hb2 : bN s < 18446744073709551616 ^ max (digs 18446744073709551616 T).length (digs 18446744073709551616 (bN s)).length := Nat.lt_of_lt_of_le (digs_lt (by omega) (bN s)) (Nat.pow_le_pow_right (by decide) (Nat.le_max_right _ _))
      have hadd := add_nat hb1 hb2
      refine sr ?_
      refine lssC (wl_end (wc_seq (cT (wc_skip (k_then (wc_seq (wc_block (sr ?_))))))))
      refine s_indexSl UIs.out TIs.size rfl rfl rfl (by omega) (by decide) ?_
      refine s_load1 TIs.out rfl ((hr.ext hh.below).at1 (by assumption)) (by decide) ?_
      refine aS (wl_end (sr (mS ?_)))
      refine s_callf (nof2_calls s _ hsz) FnIs.out rfl (by decide) ?_
      rintro e_ w14 ⟨A14, c14, rfl, hown_, hb_⟩
      refine ⟨_, rfl, ?_⟩
      replace hh := hh.push_new (x := .row _ _ _ _ _ _) hb_ hown_
      refine aL (wl_end (sr (mL (mL (lenC (mL (lenC ?_)))))))
      refine s_max rfl rfl (by decide) ?_
      refine addC ?_
      rw [e1]
      generalize hM : max (digs 18446744073709551616 T).length (digs 18446744073709551616 (bN s)).length = M at *
      refine s_callf (ncopied_calls _ _ _ (M + 1) _ _ (hh.sl_row (i := 1) rfl) (by omega) (by omega)) FnIs.out rfl (by decide) ?_
      rintro e_ w_ ⟨b22, rfl, hown_, hb_⟩
      refine ⟨_, rfl, ?_⟩
      replace hh := hh.push_new (x := .row _ _ _ _ _ _) hb_ hown_
      have e2 : max (M + 1) (digs 18446744073709551616 T).length = M + 1 := by omega
      rw [e2] at hh
      rw [e2]
      refine aL (wl_end (sr (mL (mL ?_))))
      have hc := nadd_calls (c' := M + 1) (ny := (digs 18446744073709551616 (bN s)).length) (cy := c14) (Y := some ⟨A14, 0, none⟩) [] (digs 18446744073709551616 T ++ List.replicate (M + 1 - (digs 18446744073709551616 T).length) 0) [] (digs 18446744073709551616 (bN s)) _ (by rw [List.append_nil, List.nil_append]; exact hh) (fun w1 cs h => h.sl_row (i := 1) rfl) ((can_W _).append (Dg.zeros (by omega) _)) (can_W _) (by rw [List.length_append, List.length_replicate]; omega) (by omega)
      have e3 : (digs 18446744073709551616 T ++ List.replicate (M + 1 - (digs 18446744073709551616 T).length) 0).length = M + 1 := by rw [List.length_append, List.length_replicate]; omega
      rw [e3, List.append_nil, List.nil_append] at hc
      refine s_callf (hc) FnIs.out rfl (by decide) ?_
      rintro e_ w_ ⟨rfl, hh⟩
      refine ⟨_, rfl, ?_⟩
      have hpl : (plusL 18446744073709551616 (digs 18446744073709551616 T ++ List.replicate (M + 1 - (digs 18446744073709551616 T).length) 0) (digs 18446744073709551616 (bN s)) 1 0).length = M + 1 := by rw [length_plusL, e3]
      have hpd := dg_plusL (B := 18446744073709551616) (by omega) (digs 18446744073709551616 T ++ List.replicate (M + 1 - (digs 18446744073709551616 T).length) 0) (digs 18446744073709551616 (bN s)) 1 0
      generalize plusL 18446744073709551616 (digs 18446744073709551616 T ++ List.replicate (M + 1 - (digs 18446744073709551616 T).length) 0) (digs 18446744073709551616 (bN s)) 1 0 = Z at *
      have hcz : cutL Z = digs 18446744073709551616 (T + bN s) := by rw [cutL_digs (by omega) hpd, hadd]
      have hcl := cutL_len Z
      refine wl_end (wc_region (mL ?_))
      refine s_callf (cut_calls _ _ _ Z _ (hh.sl_row (i := 0) rfl) (Nat.le_refl _) (by omega)) FnIs.out rfl (by decide) ?_
      rintro e_ w27 ⟨rfl, hb_⟩
      refine ⟨_, rfl, ?_⟩
      replace hh := hh.ext hb_
      replace hh := (hh.cut64 hpl).sub (List.sublist_append_left [_] _)
      rw [hcz] at *
      refine aL (wl_nil (b_norm (k_then (wc_region ?_))))
      refine addC (mI (wl_nil (k_then ?_)))
      refine ⟨⟨i + 1, _, _, T + bN s, by omega, rfl, hT2.symm, rfl, by omega, hh⟩, by show n - (i + 1) < n - i; omega, ?_⟩
      (repeat (first | exact agree_mask _ _ _ | refine agree_upd rfl ?_ | refine agree_mask2 rfl ?_))
    · refine sr ?_
      refine lssC (wl_end (wc_seq (cF ?_)))
      refine wc_exit ?_
      refine k_exit (k_exit (b_here (k_then (sr (mL ?_)))))
      refine s_callf (ntext_calls _ _ _ (digs 18446744073709551616 T) _ (hh.sl_row (i := 0) rfl) (can_W _) (hh.row_cap (i := 0) rfl) (by omega)) FnIs.out rfl (by decide) ?_
      rintro e_ w30 ⟨rfl, hb_⟩
      refine ⟨_, rfl, ?_⟩
      replace hh := hh.ext hb_
      rw [dig_W]
      refine aS (wl_end (wc_ret ?_))
      refine ret1 (by first | exact .inr rfl | exact .inl rfl) rfl (v_str rfl) ?_
      rw [List.take_of_length_le (by omega)] at hT
      rw [hT]
      exact ⟨rfl, hh.below⟩
end Go.Proofs.YthmmofllajkejaaGreatDoor

/- The walks through strings.TrimLeft, and nat.Trim. -/
namespace Go.Proofs.YthmmofllajkejaaGreatDoor
open Go.RowKit
-- umode
theorem ba_extract (s : ByteArray) (l h : Nat) : s.extract l h = str ((s.data.toList.take h).drop l) := by
  apply ba_ext
  rw [str_toList]
  simp [ByteArray.extract, ByteArray.copySlice, List.drop_take]
def strLen : Value → Nat
  | .string t => t.size
  | _ => 0
theorem trimByte_calls (s : ByteArray) (w : World) :
    Calls Tryz.prog 181 #[.string s, .int .u8 ((0 : UInt8).toNat : Int)] w fun e w' => e = .returned (.string (sN (bN s))) ∧ Below w.heap.size w w' := by
  have hh := Hp.start w
  refine calls_vc (N := 17) (l := [.string s, .int .u8 ((0 : UInt8).toNat : Int)]) Tryz.func181 rfl rfl (by simp) ?_
  refine sr (aS (wl_end (wc_seq (wc_block ?_))))
  refine wc_loop1 [0, 5, 6, 7, 8, 9, 10, 11, 12, 13, 14, 15] 0
    (fun v w' => ∃ l : List UInt8, v = .string (str l) ∧ l.length ≤ s.size ∧ bn l = bN s ∧ w' = w)
    (fun v _ => strLen v) ?_ ?_
  · exact ⟨s.data.toList, by rw [str_of]; rfl, by rw [ba_size]; exact Nat.le_refl _, rfl, rfl⟩
  · rintro ρ' v w' ⟨l, rfl, hl, hb, rfl⟩
    have hsz := str_size l
    cases l with
    | nil =>
      refine wc_seq (sr (mS ?_))
      refine s_len_str UIs.out rfl (by decide) ?_
      refine gtrC (mB ?_)
      first | refine gS ?_ | (refine gT ?_; refine mS ?_) | refine gV ?_
      first | refine gS ?_ | (refine gT ?_; refine s_index_str UIs.out rfl rfl (by omega) (by assumption) (by decide) ?_) | refine gV ?_
      first | refine gS ?_ | (refine gT ?_; refine mI ?_) | refine gV ?_
      first | refine gS ?_ | (refine gT ?_; refine eqlC ?_) | refine gV ?_
      first | refine pkT ?_ | refine pkF ?_
      refine wl_end (cF ?_)
      refine wc_exit ?_
      refine k_exit (k_exit (b_here (k_then (sr (mS (aS (wl_end (wc_ret ?_))))))))
      refine ret1 (by first | exact .inr rfl | exact .inl rfl) rfl (v_str rfl) ?_
      rw [sN, ← hb]
      exact ⟨rfl, hh.below⟩
    | cons c l =>
      have hc0 : (str (c :: l)).data.toList[(0 : Int).toNat]? = some c := by rw [str_toList]; rfl
      have hc8 := c.toNat_lt
      have hlen : (str (c :: l)).size = l.length + 1 := by rw [hsz]; rfl
      have hz : (0 : UInt8).toNat = 0 := rfl
      by_cases h0 : c = 0
      · subst h0
        refine wc_seq (sr (mS ?_))
        refine s_len_str UIs.out rfl (by decide) ?_
        refine gtrC (mB ?_)
        first | refine gS ?_ | (refine gT ?_; refine mS ?_) | refine gV ?_
        first | refine gS ?_ | (refine gT ?_; refine s_index_str UIs.out rfl rfl (by omega) (by assumption) (by decide) ?_) | refine gV ?_
        first | refine gS ?_ | (refine gT ?_; refine mI ?_) | refine gV ?_
        first | refine gS ?_ | (refine gT ?_; refine eqlC ?_) | refine gV ?_
        first | refine pkT ?_ | refine pkF ?_
        refine wl_end (cT (wc_skip (k_then (wc_block (wc_region (mS ?_))))))
        refine s_slice_str (l := 1) (h := (str ((0 : UInt8) :: l)).size) UIs.out rfl ⟨_, _, rfl, by omega⟩ rfl (by omega) (by omega) (by decide) ?_
        refine aS (wl_nil (b_norm (k_then ?_)))
        rw [ba_extract, str_toList, List.take_of_length_le (by rw [hlen]; simp), List.drop_succ_cons, List.drop_zero]
        refine ⟨⟨l, rfl, by simp at hl; omega, by rw [← hb, bn_cons0], rfl⟩, ?_, ?_⟩
        · show (str l).size < (str (0 :: l)).size
          rw [hlen, str_size]; omega
        (repeat (first | exact agree_mask _ _ _ | refine agree_upd rfl ?_ | refine agree_mask2 rfl ?_))
      · have hcn : c.toNat ≠ 0 := fun h => h0 (UInt8.toNat_inj.1 h)
        refine wc_seq (sr (mS ?_))
        refine s_len_str UIs.out rfl (by decide) ?_
        refine gtrC (mB ?_)
        first | refine gS ?_ | (refine gT ?_; refine mS ?_) | refine gV ?_
        first | refine gS ?_ | (refine gT ?_; refine s_index_str UIs.out rfl rfl (by omega) (by assumption) (by decide) ?_) | refine gV ?_
        first | refine gS ?_ | (refine gT ?_; refine mI ?_) | refine gV ?_
        first | refine gS ?_ | (refine gT ?_; refine eqlC ?_) | refine gV ?_
        first | refine pkT ?_ | refine pkF ?_
        refine wl_end (cF ?_)
        refine wc_exit ?_
        refine k_exit (k_exit (b_here (k_then (sr (mS (aS (wl_end (wc_ret ?_))))))))
        refine ret1 (by first | exact .inr rfl | exact .inl rfl) rfl (v_str rfl) ?_
        rw [sN, ← hb, sb_bn (by simpa using h0)]
        exact ⟨rfl, hh.below⟩
theorem trimLeft_calls (s : ByteArray) (w : World) :
    Calls Tryz.prog 170 #[.string s, .string (ByteArray.mk #[0])] w fun e w' => e = .returned (.string (sN (bN s))) ∧ Below w.heap.size w w' := by
  have hh := Hp.start w
  have hne : ¬ ByteArray.mk #[(0 : UInt8)] = ByteArray.mk #[] := by intro h; injection h with h; simp at h
  have hsz1 : (ByteArray.mk #[(0 : UInt8)]).size = 1 := rfl
  have hc0 : (ByteArray.mk #[(0 : UInt8)]).data.toList[(0 : Int).toNat]? = some 0 := rfl
  have hz : (0 : UInt8).toNat = 0 := rfl
  by_cases h0 : s = ByteArray.mk #[]
  · subst h0
    refine calls_vc (N := 37) (l := [.string (ByteArray.mk #[]), .string (ByteArray.mk #[0])]) Tryz.func170 rfl rfl (by simp) ?_
    refine sr (aS (wl_end (wc_seq (sr (mS ?_)))))
    first | refine s_eql_str_t rfl rfl (by first | rfl | assumption | decide) (by decide) ?_ | refine s_eql_str_f rfl rfl (by first | assumption | decide) (by decide) ?_
    refine mB ?_
    first | refine gS ?_ | (refine gT ?_; refine mS ?_) | refine gV ?_
    first | refine gS ?_ | (refine gT ?_; (first | refine s_eql_str_t rfl rfl (by first | rfl | assumption | decide) (by decide) ?_ | refine s_eql_str_f rfl rfl (by first | assumption | decide) (by decide) ?_)) | refine gV ?_
    first | refine pkT ?_ | refine pkF ?_
    refine wl_end (cT (sr (mS (aS (wl_end (wc_ret (k_ret ?_)))))))
    refine ret1 (by first | exact .inr rfl | exact .inl rfl) rfl (v_str rfl) ?_
    rw [show bN (ByteArray.mk #[]) = 0 from rfl, sN_zero]
    exact ⟨rfl, hh.below⟩
  · refine calls_vc (N := 37) (l := [.string s, .string (ByteArray.mk #[0])]) Tryz.func170 rfl rfl (by simp) ?_
    refine sr (aS (wl_end (wc_seq (sr (mS ?_)))))
    first | refine s_eql_str_t rfl rfl (by first | rfl | assumption | decide) (by decide) ?_ | refine s_eql_str_f rfl rfl (by first | assumption | decide) (by decide) ?_
    refine mB ?_
    first | refine gS ?_ | (refine gT ?_; refine mS ?_) | refine gV ?_
    first | refine gS ?_ | (refine gT ?_; (first | refine s_eql_str_t rfl rfl (by first | rfl | assumption | decide) (by decide) ?_ | refine s_eql_str_f rfl rfl (by first | assumption | decide) (by decide) ?_)) | refine gV ?_
    first | refine pkT ?_ | refine pkF ?_
    refine wl_end (cF (wc_skip (k_then (wc_seq (sr (mS ?_))))))
    refine s_len_str UIs.out rfl (by decide) ?_
    refine eqlC (mB ?_)
    first | refine gS ?_ | (refine gT ?_; refine mS ?_) | refine gV ?_
    first | refine gS ?_ | (refine gT ?_; refine s_index_str UIs.out rfl rfl (by omega) (by assumption) (by decide) ?_) | refine gV ?_
    first | refine gS ?_ | (refine gT ?_; refine lssC ?_) | refine gV ?_
    first | refine pkT ?_ | refine pkF ?_
    refine wl_end (cT (sr (mS (mS ?_))))
    refine s_index_str UIs.out rfl rfl (by omega) (by assumption) (by decide) ?_
    refine s_callf (trimByte_calls s _) FnIs.out rfl (by decide) ?_
    rintro e_ w25 ⟨rfl, hb_⟩
    refine ⟨_, rfl, ?_⟩
    replace hh := hh.ext hb_
    refine aS (wl_end (wc_ret (k_ret ?_)))
    refine ret1 (by first | exact .inr rfl | exact .inl rfl) rfl (v_str rfl) ?_
    exact ⟨rfl, hh.below⟩
theorem natTrim_calls (s : ByteArray) (w : World) :
    Calls Tryz.prog 149 #[.string s] w fun e w' => e = .returned (.string (sN (bN s))) ∧ Below w.heap.size w w' := by
  have hh := Hp.start w
  refine calls_vc (N := 5) (l := [.string s]) Tryz.func149 rfl rfl (by simp) ?_
  refine sr (aS (wl_end (sr (mS ?_))))
  refine s_callf (trimLeft_calls s _) FnIs.out rfl (by decide) ?_
  rintro e_ w4 ⟨rfl, hb_⟩
  refine ⟨_, rfl, ?_⟩
  replace hh := hh.ext hb_
  refine aS (wl_end (wc_ret ?_))
  refine ret1 (by first | exact .inr rfl | exact .inl rfl) rfl (v_str rfl) ?_
  exact ⟨rfl, hh.below⟩
end Go.Proofs.YthmmofllajkejaaGreatDoor
