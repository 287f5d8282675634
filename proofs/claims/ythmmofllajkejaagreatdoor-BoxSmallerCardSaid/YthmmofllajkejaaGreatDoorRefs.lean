/- Several texts in one: RefA, RefB, RefC, RefD. -/
import Derived.Test.YthmmofllajkejaaGreatDoorShD
import Derived.Test.YthmmofllajkejaaGreatDoorDyads
/- The walks through the document's answer for natural numbers (ogeeref01): bits. -/
namespace Go.Proofs.YthmmofllajkejaaGreatDoor
open Go.RowKit
-- umode
theorem Sl.take8 {w : World} {A : Option Addr} {n : Nat} {xs : List Nat} (h : Sl w A n 1 (u8n xs)) {k : Nat} (hk : k ≤ n) : Sl w A k 1 (u8n (xs.take k)) := by
  have hl := h.1
  rw [length_u8n] at hl
  refine ⟨by rw [length_u8n, List.length_take]; omega, fun h0 => ?_⟩
  obtain ⟨ad, he, hr⟩ := h.2 (by omega)
  exact ⟨ad, he, by rw [u8n_take]; exact hr.take k⟩
theorem Sl.cutL8 {w : World} {A : Option Addr} {n : Nat} {xs : List Nat} (h : Sl w A n 1 (u8n xs)) : Sl w A (cutL xs).length 1 (u8n (cutL xs)) := by
  have hl := h.1
  rw [length_u8n] at hl
  have := cutL_len xs
  have h2 := h.take8 (k := (cutL xs).length) (by omega)
  rwa [← cutL_take] at h2
theorem Hp.cut8 {w0 w : World} {H : List HE} {A : Option Addr} {n c : Nat} {t : TypeId} {xs : List Nat} (h : Hp w0 (.row A n c t 1 (u8n xs) :: H) w) (hl : xs.length = n) : Hp w0 (.row A (cutL xs).length c t 1 (u8n (cutL xs)) :: H) w := by
  have h1 := cutL_len xs
  have h2 := h.cutRow (k := (cutL xs).length) (by omega)
  rw [Nat.mul_one, ← u8n_take, ← cutL_take] at h2
  exact h2
theorem rcut_calls (A : Option Addr) (n c : Nat) (xs : List Nat) (w : World) (hx : Sl w A n 1 (u8n xs)) (hc : n ≤ c) (hn : n ≤ 1000000000000) :
    Calls Tryz.prog 163 #[.slice A n c] w fun e w' => e = .returned (.slice A (cutL xs).length c) ∧ Below w.heap.size w w' := by
  have hlen : xs.length = n := by have := hx.1; rw [length_u8n] at this; omega
  have hh := Hp.start w
  refine calls_vc (N := 21) (l := [.slice A n c]) Tryz.func163 rfl rfl (by simp) ?_
  refine sr (aL (wl_end (sr (mL (lenC (aI (wl_end (wc_seq (wc_block ?_)))))))))
  refine wc_loop1 [3, 6, 7, 8, 9, 10, 11, 12, 13, 14, 15, 16, 17] 3
    (fun v w' => ∃ k : Nat, k ≤ n ∧ v = .int .i64 k ∧ cutL (xs.take k) = cutL xs ∧ w' = w)
    (fun v _ => (intOf v).toNat) ?_ ?_
  · exact ⟨n, Nat.le_refl _, rfl, by rw [List.take_of_length_le (by omega)], rfl⟩
  · rintro ρ' v w' ⟨k, hk, rfl, hcut, rfl⟩
    by_cases h0 : k = 0
    · subst h0
      refine wc_seq (sr (mI ?_))
      refine gtrC (mB ?_)
      first | refine gS ?_ | (refine gT ?_; refine mL ?_) | refine gV ?_
      first | refine gS ?_ | (refine gT ?_; refine mI ?_) | refine gV ?_
      first | refine gS ?_ | (refine gT ?_; refine subC ?_) | refine gV ?_
      first | refine gS ?_ | (refine gT ?_; refine s_indexAddr UIs.out TIs.size rfl rfl (by omega) (by omega) (by decide) ?_) | refine gV ?_
      first | (refine wl_guard_skip (by decide) rfl rfl (by decide) ?_) | (refine wl_guard_skipV (by decide) rfl rfl ?_)
      first | refine gS ?_ | (refine gT ?_; refine eqlC ?_) | refine gV ?_
      first | refine pkT ?_ | refine pkF ?_
      refine wl_end (cF ?_)
      refine wc_exit ?_
      refine k_exit (k_exit (b_here (k_then (sr (mL (mI ?_))))))
      refine s_cutEnd (h := 0) UIs.out TIs.size rfl rfl (by omega) (by omega) (by decide) ?_
      refine aL (wl_end (wc_ret ?_))
      refine ret1 (by first | exact .inr rfl | exact .inl rfl) rfl (v_sl rfl) ?_
      rw [← hcut]
      exact ⟨rfl, hh.below⟩
    · obtain ⟨j, rfl⟩ : ∃ j, k = j + 1 := ⟨k - 1, by omega⟩
      obtain ⟨d, hd⟩ := get_of_lt (l := xs) (k := j) (by omega)
      obtain ⟨ad, rfl, hr⟩ := hx.at_ (by omega)
      have hd2 := u8n_at hd
      rw [take_snoc hd] at hcut
      by_cases hz : d = 0
      · subst hz
        rw [cutL_snoc0] at hcut
        refine wc_seq (sr (mI ?_))
        refine gtrC (mB ?_)
        first | refine gS ?_ | (refine gT ?_; refine mL ?_) | refine gV ?_
        first | refine gS ?_ | (refine gT ?_; refine mI ?_) | refine gV ?_
        first | refine gS ?_ | (refine gT ?_; refine subC ?_) | refine gV ?_
        first | refine gS ?_ | (refine gT ?_; refine s_indexSl (k := j) UIs.out TIs.size rfl rfl (by omega) (by omega) (by decide) ?_) | refine gV ?_
        first | refine gS ?_ | (refine gT ?_; refine s_load1 TIs.out rfl ((hr.ext hh.below).at1 (by assumption)) (by decide) ?_) | refine gV ?_
        first | refine gS ?_ | (refine gT ?_; refine eqlC ?_) | refine gV ?_
        first | refine pkT ?_ | refine pkF ?_
        refine wl_end (cT (wc_skip (k_then (wc_block (wc_region (mI ?_))))))
        refine subC (aI (wl_nil (b_norm (k_then ?_))))
        refine ⟨⟨j, by omega, by show Value.int _ _ = Value.int _ _; congr 1; omega, hcut, rfl⟩, by show (((j + 1 : Nat) : Int) - 1).toNat < (((j + 1 : Nat) : Int)).toNat; omega, ?_⟩
        (repeat (first | exact agree_mask _ _ _ | refine agree_upd rfl ?_ | refine agree_mask2 rfl ?_))
      · rw [cutL_snoc hz] at hcut
        refine wc_seq (sr (mI ?_))
        refine gtrC (mB ?_)
        first | refine gS ?_ | (refine gT ?_; refine mL ?_) | refine gV ?_
        first | refine gS ?_ | (refine gT ?_; refine mI ?_) | refine gV ?_
        first | refine gS ?_ | (refine gT ?_; refine subC ?_) | refine gV ?_
        first | refine gS ?_ | (refine gT ?_; refine s_indexSl (k := j) UIs.out TIs.size rfl rfl (by omega) (by omega) (by decide) ?_) | refine gV ?_
        first | refine gS ?_ | (refine gT ?_; refine s_load1 TIs.out rfl ((hr.ext hh.below).at1 (by assumption)) (by decide) ?_) | refine gV ?_
        first | refine gS ?_ | (refine gT ?_; refine eqlC ?_) | refine gV ?_
        first | refine pkT ?_ | refine pkF ?_
        refine wl_end (cF ?_)
        refine wc_exit ?_
        refine k_exit (k_exit (b_here (k_then (sr (mL (mI ?_))))))
        refine s_cutEnd (h := j + 1) UIs.out TIs.size rfl rfl (by omega) (by omega) (by decide) ?_
        refine aL (wl_end (wc_ret ?_))
        refine ret1 (by first | exact .inr rfl | exact .inl rfl) rfl (v_sl rfl) ?_
        rw [← hcut, List.length_append, List.length_take, Nat.min_eq_left (by omega)]
        exact ⟨rfl, hh.below⟩
theorem bits_step {s : List UInt8} {j k : Nat} {c : UInt8} (hc : (lo8 s)[j]? = some c.toNat) (hk : k < 8) : c.toNat / 2 ^ k % 2 = bn s / 2 ^ (8 * j + k) % 2 := by
  have h1 := dig_get (dg_lo8 s) hc
  rw [← h1, ← bn, Nat.pow_add, Nat.pow_mul, show (2 ^ 8 : Nat) = 256 from rfl, ← Nat.div_div_eq_div_mul]
  generalize bn s / 256 ^ j = m
  have e : (256 : Nat) = 2 ^ k * 2 ^ (8 - k) := by rw [← Nat.pow_add, show k + (8 - k) = 8 by omega]
  have e2 : 2 ^ (8 - k) = 2 * 2 ^ (7 - k) := by rw [← Nat.pow_succ']; congr 1; omega
  rw [e, Nat.mod_mul_right_div_self, e2, Nat.mod_mul_right_mod]
theorem rbits_calls (a : ByteArray) (w : World) (ha : a.size ≤ 1000000000) :
    Calls Tryz.prog 157 #[.string a] w fun e w' => ∃ A c, e = .returned (.slice A (digs 2 (bN a)).length c) ∧ w'.ownsRow w.heap.size 5 1 (.slice A (digs 2 (bN a)).length c) (digs 2 (bN a)).length (u8n (digs 2 (bN a))) ∧ Below w.heap.size w w' := by
  have hsz := ba_size a
  have hh := Hp.start w
  refine calls_vc (N := 28) (l := [.string a]) Tryz.func157 rfl rfl (by simp) ?_
  refine sr (aL (wl_end (sr (aL (wl_end (wc_seq (sr (mS ?_))))))))
  refine s_len_str UIs.out rfl (by decide) ?_
  refine subC (aI (wl_end (wc_block ?_)))
  replace hh := hh.nil_row 5 1
  refine wc_loop2 [3, 4, 5, 9, 10, 11, 12, 13, 14, 15, 16, 17, 18, 19, 20, 21, 22, 23, 24, 25] 3 4
    (fun o v w' => ∃ (j : Nat) (A : Option Addr) (c : Nat), j ≤ a.size ∧ v = .int .i64 ((a.size : Int) - 1 - j) ∧ o = .slice A (8 * j) c ∧ Hp w [.row A (8 * j) c 5 1 (u8n (digK 2 (8 * j) (bN a)))] w')
    (fun _ v _ => (intOf v + 1).toNat) ?_ ?_
  · exact ⟨0, none, 0, Nat.zero_le _, by show Value.int _ _ = Value.int _ _; congr 1; omega, rfl, hh⟩
  · clear hh
    rintro ρ' o v w' ⟨j, A, c, hj, rfl, rfl, hh⟩
    by_cases hlt : j < a.size
    · obtain ⟨ch, hc⟩ := get_of_lt (l := a.data.toList) (k := ((a.size : Int) - 1 - j).toNat) (by omega)
      have hlo := lo8_at (s := a.data.toList) (i := j) (c := ch) (by omega) (by rw [← hc]; congr 1; omega)
      have hc8 := ch.toNat_lt
      refine wc_seq (sr (mI ?_))
      refine geqC (wl_end (cT (wc_skip (k_then (wc_seq (wc_block (sr (aI (wl_end (wc_block ?_))))))))))
      refine wc_loop2 [3, 5, 13, 14, 15, 16, 17, 18, 19, 20, 21, 22, 23, 24, 25] 3 5
        (fun o v w' => ∃ (k : Nat) (A : Option Addr) (c : Nat), k ≤ 8 ∧ v = .int .i64 (k : Int) ∧ o = .slice A (8 * j + k) c ∧ Hp w [.row A (8 * j + k) c 5 1 (u8n (digK 2 (8 * j + k) (bN a)))] w')
        (fun _ v _ => 8 - (intOf v).toNat) ?_ ?_
      · exact ⟨0, A, c, Nat.zero_le _, rfl, rfl, hh⟩
      · clear hh
        rintro ρ2 o v w2 ⟨k, A2, c2, hk, rfl, rfl, hh⟩
        by_cases hk8 : k < 8
        · have hst := bits_step hlo hk8
          have hand : ∀ z : Nat, z &&& 1 = z % 2 := fun z => Nat.and_one_is_mod z
          have hcl : ch.toNat / 2 ^ (k : Int).toNat < 256 := Nat.lt_of_le_of_lt (Nat.div_le_self _ _) hc8
          refine wc_seq (sr (mI ?_))
          refine lssC (wl_end (cT (wc_skip (k_then (wc_seq (wc_block (wc_region (mL (mS (mI ?_))))))))))
          refine s_index_str UIs.out rfl rfl (by omega) (by assumption) (by decide) ?_
          refine mI ?_
          refine s_shru rfl rfl (by omega) (by decide) ?_
          refine s_andu (b := 1) rfl rfl (by first | assumption | omega) (by first | assumption | omega) (by decide) ?_
          refine wl_buildSlice hh (cs := [_]) UIs.out TIs.out (evp_cons (ev_int rfl) evp_nil) rfl rfl (by decide) (by decide) (by decide) rfl (by decide) ?_
          intro b24 w24 hh
          refine wl_append hh (i := 1) rfl rfl rfl (hh.sl_row (i := 0) rfl) UIs.out TIs.out rfl (by decide) (by first | rfl | exact oneCells_u8n _ | exact oneCells_u64s _ | exact oneCells_i64s _ | exact recs_oneCells NR.one _) (by omega) (by omega) (by decide) ?_
          intro A25 c25 w25 hh
          simp only [List.set_cons_zero, List.set_cons_succ] at hh
          replace hh := hh.sub (List.sublist_cons_self _ _)
          refine aL (wl_nil (b_norm (k_then (wc_region (mI ?_)))))
          refine addC (aI (wl_nil (k_then ?_)))
          have e1 : u8n (digK 2 (8 * j + k) (bN a)) ++ [Value.int .u8 ((ch.toNat / 2 ^ (k : Int).toNat &&& 1 : Nat) : Int)] = u8n (digK 2 (8 * j + (k + 1)) (bN a)) := by
            rw [hand, Int.toNat_natCast, hst, ← Nat.add_assoc, digK_snoc, u8n_append]; rfl
          rw [e1] at hh
          refine ⟨⟨k + 1, A25, c25, by omega, rfl, rfl, hh⟩, by show 8 - (k + 1) < 8 - k; omega, ?_⟩
          (repeat (first | exact agree_mask _ _ _ | refine agree_upd rfl ?_ | refine agree_mask2 rfl ?_))
        · obtain rfl : k = 8 := by omega
          refine wc_seq (sr (mI ?_))
          refine lssC (wl_end (cF ?_))
          refine wc_exit ?_
          refine k_exit (k_exit (b_here (b_norm (k_then (wc_region (mI ?_))))))
          refine subC (aI (wl_nil (k_then ?_)))
          refine ⟨⟨j + 1, A2, c2, by omega, by show Value.int _ _ = Value.int _ _; congr 1; omega, rfl, hh⟩, by show ((a.size : Int) - 1 - j - 1 + 1).toNat < ((a.size : Int) - 1 - j + 1).toNat; omega, ?_⟩
          (repeat (first | exact agree_mask _ _ _ | refine agree_upd rfl ?_ | refine agree_mask2 rfl ?_))
    · obtain rfl : j = a.size := by omega
      refine wc_seq (sr (mI ?_))
      refine geqC (wl_end (cF ?_))
      refine wc_exit ?_
      refine k_exit (k_exit (b_here (k_then (sr (mL ?_)))))
      refine s_callf (rcut_calls _ _ _ (digK 2 (8 * a.size) (bN a)) _ (hh.sl_row (i := 0) rfl) (hh.row_cap (i := 0) rfl) (by omega)) FnIs.out rfl (by decide) ?_
      rintro e_ w27 ⟨rfl, hb_⟩
      refine ⟨_, rfl, ?_⟩
      replace hh := hh.ext hb_
      refine aL (wl_end (wc_ret ?_))
      refine ret1 (by first | exact .inr rfl | exact .inl rfl) rfl (v_sl rfl) ?_
      have hb := bN_lt a
      rw [show (256 : Nat) = 2 ^ 8 from rfl, ← Nat.pow_mul] at hb
      have hd : cutL (digK 2 (8 * a.size) (bN a)) = digs 2 (bN a) := by
        rw [cutL_digs (by omega) (dg_digK (by omega) _ _), dig_digK_lt hb]
      have h1 := (Hp.cut8 (xs := digK 2 (8 * a.size) (bN a)) hh (length_digK _ _)).at_ (i := 0) rfl
      rw [hd] at h1
      rw [hd]
      exact ⟨_, _, rfl, h1, hh.below⟩
theorem rev_set {l : List Nat} {j v : Nat} (h : j < l.length) : l.reverse.set (l.length - 1 - j) v = (l.set j v).reverse := by
  apply List.ext_getElem?
  intro i
  rcases Nat.lt_or_ge i l.length with hi | hi
  · rw [List.getElem?_reverse (by rw [List.length_set]; exact hi), List.length_set, List.getElem?_set, List.getElem?_set, List.getElem?_reverse hi, List.length_reverse]
    by_cases he : l.length - 1 - j = i
    · rw [if_pos he, if_pos (by omega), if_pos (by omega), if_pos h]
    · rw [if_neg he, if_neg (by omega)]
  · rw [List.getElem?_eq_none (by simp; omega), List.getElem?_eq_none (by simp; omega)]
theorem rtext_step {i b k : Nat} (P : Nat) (hP : P < 2 ^ i) (hb : b < 2) (hk : i / 8 < k) : P / 256 ^ (i / 8) % 256 + b * 2 ^ (i % 8) < 256 ∧ (digK 256 k P).set (i / 8) (P / 256 ^ (i / 8) % 256 + b * 2 ^ (i % 8)) = digK 256 k (P + 2 ^ i * b) := by
  have hp : 2 ^ i = 256 ^ (i / 8) * 2 ^ (i % 8) := by
    rw [show (256 : Nat) = 2 ^ 8 from rfl, ← Nat.pow_mul, ← Nat.pow_add]; congr 1; omega
  have h1 : P / 256 ^ (i / 8) < 2 ^ (i % 8) := by
    rw [Nat.div_lt_iff_lt_mul (Nat.pow_pos (by omega)), Nat.mul_comm, ← hp]; exact hP
  have h2 : 2 ^ (i % 8) ≤ 128 := by
    have := Nat.pow_le_pow_right (show 0 < 2 by omega) (show i % 8 ≤ 7 by omega)
    omega
  have h3 : P / 256 ^ (i / 8) % 256 < 2 ^ (i % 8) := Nat.lt_of_le_of_lt (Nat.mod_le _ _) h1
  have h4 : b * 2 ^ (i % 8) ≤ 1 * 2 ^ (i % 8) := Nat.mul_le_mul_right _ (by omega)
  have h5 : 2 ^ i * b = 256 ^ (i / 8) * (b * 2 ^ (i % 8)) := by rw [hp, Nat.mul_assoc, Nat.mul_comm b]
  refine ⟨by omega, ?_⟩
  rw [h5]
  refine digK_set (by omega) hk ?_ (by omega)
  rw [← h5]
  have h6 : 2 ^ i * b ≤ 2 ^ i * 1 := Nat.mul_le_mul_left _ (by omega)
  have h7 : 2 ^ (i + 1) ≤ 256 ^ k := by
    rw [show (256 : Nat) = 2 ^ 8 from rfl, ← Nat.pow_mul]
    exact Nat.pow_le_pow_right (by omega) (by omega)
  rw [Nat.pow_succ] at h7
  omega
theorem rtext_calls (A : Option Addr) (n c : Nat) (xs : List Nat) (w : World) (hx : Sl w A n 1 (u8n xs)) (hd : Dg 2 xs) (hc : n ≤ c) (hn : n ≤ 100000000000) :
    Calls Tryz.prog 143 #[.slice A n c] w fun e w' => e = .returned (.string (sN (dig 2 xs))) ∧ Below w.heap.size w w' := by
  have hl := hx.1
  rw [length_u8n] at hl
  have hcl := cutL_len xs
  have hcx := hx.cutL8
  have hcan := cutL_digs (by omega) hd
  have hlen := len256 (dig 2 xs)
  rw [hcan] at hcl hcx
  have hcd := (can_digs (B := 2) (by omega) (dig 2 xs)).1
  have hcv := dig_digs (B := 2) (by omega) (dig 2 xs)
  have hbl : (digs 2 (dig 2 xs)).length = blen (dig 2 xs) := rfl
  have hh := Hp.start w
  refine calls_vc (N := 38) (l := [.slice A n c]) Tryz.func143 rfl rfl (by simp) ?_
  refine sr (aS (wl_end (sr (mL ?_))))
  refine s_callf (rcut_calls _ _ _ xs _ hx hc (by omega)) FnIs.out rfl (by decide) ?_
  rintro e_ w6 ⟨rfl, hb_⟩
  refine ⟨_, rfl, ?_⟩
  replace hh := hh.ext hb_
  rw [hcan]
  generalize dig 2 xs = M at *
  generalize digs 2 M = xs' at *
  refine aL (wl_end (sr (mL (lenC ?_))))
  refine addC ?_
  refine s_quoi rfl rfl (by omega) (by omega) (by omega) (by decide) ?_
  refine wl_make (n := (xs'.length + 7) / 8) hh rfl rfl (by omega) (by omega) UIs.out TIs.out rfl (by omega) (by omega) (by decide) ?_
  intro b11 w11 hh
  refine aL (wl_end (wc_seq (sr (aI (wl_end (wc_block ?_))))))
  rw [zrep_u8] at hh
  refine wc_loop1 [4, 12, 13, 14, 15, 16, 17, 18, 19, 20, 21, 22, 23, 24, 25, 26, 27, 28, 29, 30, 31, 32, 33, 34, 35] 4
    (fun v w' => ∃ i : Nat, i ≤ xs'.length ∧ v = .int .i64 i ∧ Hp w [.row (some ⟨b11, 0, none⟩) ((xs'.length + 7) / 8) ((xs'.length + 7) / 8) 5 1 (u8n (digK 256 ((xs'.length + 7) / 8) (dig 2 (xs'.take i))).reverse)] w')
    (fun v _ => xs'.length - (intOf v).toNat) ?_ ?_
  · exact ⟨0, Nat.zero_le _, rfl, by rw [List.take_zero, dig, digK_zero, List.reverse_replicate]; exact hh⟩
  · clear hh
    rintro ρ' v w' ⟨i, hi, rfl, hh⟩
    by_cases hlt : i < xs'.length
    · obtain ⟨d, hdi⟩ := get_of_lt (l := xs') (k := i) (by omega)
      obtain ⟨ad, rfl, hr⟩ := hcx.at_ (by omega)
      have hd2 := u8n_at hdi
      have hdw := hcd.at_ hdi
      have hP := dig_lt (hcd.take i)
      rw [List.length_take, Nat.min_eq_left (by omega)] at hP
      obtain ⟨s1, s2⟩ := rtext_step (k := (xs'.length + 7) / 8) (dig 2 (xs'.take i)) hP hdw (by omega)
      have hg : (digK 256 ((xs'.length + 7) / 8) (dig 2 (xs'.take i))).reverse[(xs'.length + 7) / 8 - 1 - i / 8]? = some (dig 2 (xs'.take i) / 256 ^ (i / 8) % 256) := by
        rw [List.getElem?_reverse (by rw [length_digK]; omega), length_digK, show (xs'.length + 7) / 8 - 1 - ((xs'.length + 7) / 8 - 1 - i / 8) = i / 8 by omega]
        exact digK_get _ _ _ (by omega)
      have hg2 := u8n_at hg
      have e1 : ((i : Int) % 8).toNat = i % 8 := by omega
      have hset := rev_set (l := digK 256 ((xs'.length + 7) / 8) (dig 2 (xs'.take i))) (j := i / 8) (v := dig 2 (xs'.take i) / 256 ^ (i / 8) % 256 + d * 2 ^ (i % 8)) (by rw [length_digK]; omega)
      rw [length_digK, s2] at hset
      refine wc_seq (sr (mI (mL (lenC ?_))))
      refine lssC (wl_end (cT (wc_skip (k_then (wc_seq (wc_block ?_))))))
      refine wc_drawn 16 [[(3, none)], [(3, none)], [(19, some 1)], [(20, some 2)], [(4, none)], [(22, some 4)], [(21, some 3), (23, some 5)], [(18, some 0), (24, some 6)], [(25, some 7)], [(0, none)], [(4, none)], [(27, some 9), (28, some 10)], [(29, some 11)], [(4, none)], [(31, some 13)], [(30, some 12), (32, some 14)]] [(15, 33), (14, 32), (13, 31), (12, 30), (11, 29), (10, 28), (9, 27), (8, 26), (7, 25), (6, 24), (5, 23), (4, 22), (3, 21), (2, 20), (1, 19), (0, 18)] hh mixed (by kernel_rfl) ?_
      refine dmL ?_
      refine dmL ?_
      refine dlen ?_
      refine dsub ?_
      refine dmI ?_
      refine dx_val (i := 5) (fun ρ1 w1 hj hR => x_quoi (show ρ1 22 = Value.int _ _ from hR.1) rfl (by omega) (by omega) (by omega)) ?_
      refine dsub ?_
      refine dix ((xs'.length + 7) / 8 - 1 - i / 8) ?_
      refine dx_val (i := 8) (fun ρ1 w1 hj hR => x_load1 TIs.out (show ρ1 25 = Value.pointer _ from hR.1) (hj.hp.cell_row (i := 0) rfl (by rw [Nat.mul_one]; exact hg2))) ?_
      refine dmL ?_
      refine dmI ?_
      refine dis (i) ?_
      refine dlF (fun _ hj => (hr.ext hj.hp.below).at1 hd2) ?_
      refine dmI ?_
      refine dx_val (i := 14) (fun ρ1 w1 hj hR => x_remi (show ρ1 31 = Value.int _ _ from hR.1) rfl (by omega) (by omega)) ?_
      refine dx_val (i := 15) (fun ρ1 w1 hj hR => x_shlu (show ρ1 30 = Value.int _ _ from hR.1) (show ρ1 32 = Value.int _ _ from hR.2.1) (by omega)) ?_
      refine dx_nil ?_
      intro f W hJ hV
      have hb_6 := hJ.bl
      obtain ⟨v33, v32, v31, v30, v29, v28, v27, v26, v25, v24, v23, v22, v21, v20, v19, v18, _⟩ := hV
      replace hh := hJ.hp
      refine wl_cast (updL_K (eql_cons v33 (eql_cons v32 (eql_cons v31 (eql_cons v30 (eql_cons v29 (eql_cons v28 (eql_cons v27 (eql_cons v26 (eql_cons v25 (eql_cons v24 (eql_cons v23 (eql_cons v22 (eql_cons v21 (eql_cons v20 (eql_cons v19 (eql_cons v18 eql_nil))))))))))))))))) ?_
      dsimp only [updK]
      clear hJ
      refine s_addu rfl rfl (by decide) ?_
      refine s_indexRow (k := (xs'.length + 7) / 8 - 1 - i / 8) UIs.out TIs.size rfl rfl (by omega) (by omega) (by decide) ?_
      refine wl_store_row hh (i := 0) (vs := [_]) rfl rfl (ev_int rfl) rfl TIs.out rfl (by rw [length_u8n, List.length_reverse, length_digK]; omega) rfl ?_
      intro ws hh
      simp only [List.set_cons_zero] at hh
      rw [e1, Nat.mod_eq_of_lt (show d * 2 ^ (i % 8) < 256 by omega), Nat.mod_eq_of_lt s1, Nat.mul_one, splice_one (by rw [length_u8n, List.length_reverse, length_digK]; omega), u8n_set, hset, ← dig_take_snoc hdi] at hh
      refine wl_nil (b_norm (k_then (wc_region (mI ?_))))
      refine addC (aI (wl_nil (k_then ?_)))
      refine ⟨⟨i + 1, by omega, rfl, hh⟩, by show xs'.length - (i + 1) < xs'.length - i; omega, ?_⟩
      (repeat (first | exact agree_mask _ _ _ | refine agree_upd rfl ?_ | refine agree_mask2 rfl ?_))
    · obtain rfl : i = xs'.length := by omega
      rw [List.take_length, hcv, hbl] at hh
      have hfin : u8n (digK 256 ((blen M + 7) / 8) M).reverse = u8s (sb M) := by
        rw [← hlen]
        have h1 : M < 256 ^ (digs 256 M).length := digs_lt (by omega) M
        rw [digs_pad (by omega) h1, Nat.sub_self, List.replicate_zero, List.append_nil, u8n_bytes (fun d hd => (can_digs (B := 256) (by omega) M).1 d (List.mem_reverse.1 hd)), sb, List.map_reverse]
      rw [hfin, ← hbl] at hh
      refine wc_seq (sr (mI (mL (lenC ?_))))
      refine lssC (wl_end (cF ?_))
      refine wc_exit ?_
      refine k_exit (k_exit (b_here (k_then (sr (mL ?_)))))
      refine s_bytes_str UIs.out UIs.out UIs.out rfl (hh.sl_row (i := 0) rfl) (by decide) ?_
      refine aS (wl_end (wc_ret ?_))
      refine ret1 (by first | exact .inr rfl | exact .inl rfl) rfl (v_str rfl) ?_
      exact ⟨rfl, hh.below⟩
end Go.Proofs.YthmmofllajkejaaGreatDoor

/- The walks through the document's answer for natural numbers (ogeeref01): comparing, sums, differences. -/
namespace Go.Proofs.YthmmofllajkejaaGreatDoor
open Go.RowKit
-- umode
theorem dig_bit {xs : List Nat} (h : Dg 2 xs) (i : Nat) : dig 2 xs / 2 ^ i % 2 = (xs[i]?).getD 0 := by
  cases hi : xs[i]? with
  | some d => exact dig_get h hi
  | none =>
    rw [dig_get0 h (List.getElem?_eq_none_iff.1 hi) (by omega)]; rfl
theorem rbit_calls (A : Option Addr) (n c i : Nat) (xs : List Nat) (w : World) (hx : Sl w A n 1 (u8n xs)) (hd : Dg 2 xs) (hn : n ≤ 1000000000000) (hi : i ≤ 1000000000000) :
    Calls Tryz.prog 186 #[.slice A n c, .int .i64 (i : Int)] w fun e w' => e = .returned (.int .u8 ((dig 2 xs / 2 ^ i % 2 : Nat) : Int)) ∧ Below w.heap.size w w' := by
  have hl := hx.1
  rw [length_u8n] at hl
  have hh := Hp.start w
  rw [dig_bit hd]
  by_cases hlt : i < n
  · obtain ⟨d, hdi⟩ := get_of_lt (l := xs) (k := i) (by omega)
    obtain ⟨ad, rfl, hr⟩ := hx.at_ (by omega)
    have hd2 := u8n_at hdi
    rw [hdi]
    refine calls_vc (N := 13) (l := [.slice (some ad) n c, .int .i64 (i : Int)]) Tryz.func186 rfl rfl (by simp) ?_
    refine sr (aI (wl_end (wc_seq (sr (mI (mL (lenC ?_)))))))
    refine lssC (wl_end (cT (sr (mL (mI ?_)))))
    refine s_indexSl (k := i) UIs.out TIs.size rfl rfl (by omega) (by omega) (by decide) ?_
    refine s_load1 TIs.out rfl ((hr.ext hh.below).at1 (by assumption)) (by decide) ?_
    refine aI (wl_end (wc_ret (k_ret ?_)))
    refine ret1 (by first | exact .inr rfl | exact .inl rfl) rfl (v_int rfl) ?_
    exact ⟨rfl, hh.below⟩
  · rw [List.getElem?_eq_none (by omega)]
    refine calls_vc (N := 13) (l := [.slice A n c, .int .i64 (i : Int)]) Tryz.func186 rfl rfl (by simp) ?_
    refine sr (aI (wl_end (wc_seq (sr (mI (mL (lenC ?_)))))))
    refine lssC (wl_end (cF (wc_skip (k_then (sr (aI (wl_end (wc_ret ?_))))))))
    refine ret1 (by first | exact .inr rfl | exact .inl rfl) rfl (v_int rfl) ?_
    exact ⟨rfl, hh.below⟩
theorem div_pow_succ (X i : Nat) : X / 2 ^ i = 2 * (X / 2 ^ (i + 1)) + X / 2 ^ i % 2 := by
  rw [Nat.pow_succ, ← Nat.div_div_eq_div_mul]; omega
theorem lt_of_div {X Y k : Nat} (h : X / 2 ^ k < Y / 2 ^ k) : X < Y := by
  refine Nat.lt_of_not_le fun h2 => ?_
  have := Nat.div_le_div_right (c := 2 ^ k) h2
  omega
theorem rcompare_calls (A B : Option Addr) (n c m c' : Nat) (xs ys : List Nat) (w : World) (hx : Sl w A n 1 (u8n xs)) (hy : Sl w B m 1 (u8n ys)) (hdx : Dg 2 xs) (hdy : Dg 2 ys) (hn : n ≤ 100000000000) (hm : m ≤ 100000000000) :
    Calls Tryz.prog 178 #[.slice A n c, .slice B m c'] w fun e w' => e = .returned (.int .i64 (cmpN (dig 2 xs) (dig 2 ys))) ∧ Below w.heap.size w w' := by
  have hlx := hx.1
  have hly := hy.1
  rw [length_u8n] at hlx hly
  have hh := Hp.start w
  have e1 : (if (m : Int) > (n : Int) then (m : Int) else (n : Int)) - 1 = ((max n m : Nat) : Int) - 1 := by split <;> omega
  refine calls_vc (N := 30) (l := [.slice A n c, .slice B m c']) Tryz.func178 rfl rfl (by simp) ?_
  refine sr (aI (wl_end (wc_seq (sr (mL (lenC (mL (lenC ?_))))))))
  refine s_max rfl rfl (by decide) ?_
  refine subC (aI (wl_end (wc_block ?_)))
  rw [e1]
  refine wc_loop1 [4, 5, 12, 13, 14, 15, 16, 17, 18, 19, 20, 21, 22, 23, 24, 25, 26, 27, 28, 29] 5
    (fun v w' => ∃ k : Nat, k ≤ max n m ∧ v = .int .i64 ((k : Int) - 1) ∧ dig 2 xs / 2 ^ k = dig 2 ys / 2 ^ k ∧ Hp w [] w')
    (fun v _ => (intOf v + 1).toNat) ?_ ?_
  · exact ⟨max n m, Nat.le_refl _, rfl, by rw [dig_get0 hdx (by omega) (by omega), dig_get0 hdy (by omega) (by omega)], hh⟩
  · clear hh
    rintro ρ' v w' ⟨k, hk, rfl, heq, hh⟩
    by_cases h0 : k = 0
    · subst h0
      refine wc_seq (sr (mI ?_))
      refine geqC (wl_end (cF ?_))
      refine wc_exit ?_
      refine k_exit (k_exit (b_here (k_then (sr (aI (wl_end (wc_ret ?_)))))))
      refine ret1 (by first | exact .inr rfl | exact .inl rfl) rfl (v_int rfl) ?_
      rw [Nat.pow_zero, Nat.div_one, Nat.div_one] at heq
      exact ⟨by rw [cmpN_eq heq], hh.below⟩
    · obtain ⟨j, rfl⟩ : ∃ j, k = j + 1 := ⟨k - 1, by omega⟩
      have hj : ((j + 1 : Nat) : Int) - 1 = (j : Int) := by omega
      have hXb := div_pow_succ (dig 2 xs) j
      have hYb := div_pow_succ (dig 2 ys) j
      by_cases hlt : dig 2 xs / 2 ^ j % 2 < dig 2 ys / 2 ^ j % 2
      · have hf : dig 2 xs < dig 2 ys := lt_of_div (k := j) (by omega)
        rw [hj]
        refine wc_seq (sr (mI ?_))
        refine geqC (wl_end (cT (wc_skip (k_then (wc_seq (wc_block (wc_seq (sr (mL (mI ?_))))))))))
        refine s_callf (rbit_calls A n c j xs _ (hx.ext hh.below) hdx (by omega) (by omega)) FnIs.out rfl (by decide) ?_
        rintro e_ w18 ⟨rfl, hb_⟩
        refine ⟨_, rfl, ?_⟩
        replace hh := hh.ext hb_
        refine mL (mI ?_)
        refine s_callf (rbit_calls B m c' j ys _ (hy.ext hh.below) hdy (by omega) (by omega)) FnIs.out rfl (by decide) ?_
        rintro e_ w21 ⟨rfl, hb_⟩
        refine ⟨_, rfl, ?_⟩
        replace hh := hh.ext hb_
        refine lssC (wl_end (cT (sr (aI (wl_end (wc_ret (k_ret (b_ret (k_ret (k_ret (b_ret ?_)))))))))))
        refine k_ret ?_
        refine ret1 (by first | exact .inr rfl | exact .inl rfl) rfl (v_int rfl) ?_
        exact ⟨by rw [cmpN_lt hf], hh.below⟩
      · by_cases hgt : dig 2 ys / 2 ^ j % 2 < dig 2 xs / 2 ^ j % 2
        · have hf : dig 2 ys < dig 2 xs := lt_of_div (k := j) (by omega)
          rw [hj]
          refine wc_seq (sr (mI ?_))
          refine geqC (wl_end (cT (wc_skip (k_then (wc_seq (wc_block (wc_seq (sr (mL (mI ?_))))))))))
          refine s_callf (rbit_calls A n c j xs _ (hx.ext hh.below) hdx (by omega) (by omega)) FnIs.out rfl (by decide) ?_
          rintro e_ w18 ⟨rfl, hb_⟩
          refine ⟨_, rfl, ?_⟩
          replace hh := hh.ext hb_
          refine mL (mI ?_)
          refine s_callf (rbit_calls B m c' j ys _ (hy.ext hh.below) hdy (by omega) (by omega)) FnIs.out rfl (by decide) ?_
          rintro e_ w21 ⟨rfl, hb_⟩
          refine ⟨_, rfl, ?_⟩
          replace hh := hh.ext hb_
          refine lssC (wl_end (cF (wc_skip (k_then (sr (mL (mI ?_)))))))
          refine s_callf (rbit_calls A n c j xs _ (hx.ext hh.below) hdx (by omega) (by omega)) FnIs.out rfl (by decide) ?_
          rintro e_ w25 ⟨rfl, hb_⟩
          refine ⟨_, rfl, ?_⟩
          replace hh := hh.ext hb_
          refine mL (mI ?_)
          refine s_callf (rbit_calls B m c' j ys _ (hy.ext hh.below) hdy (by omega) (by omega)) FnIs.out rfl (by decide) ?_
          rintro e_ w28 ⟨rfl, hb_⟩
          refine ⟨_, rfl, ?_⟩
          replace hh := hh.ext hb_
          refine gtrC (wl_end (cT (sr (aI (wl_end (wc_ret (b_ret (k_ret (k_ret (b_ret (k_ret ?_)))))))))))
          refine ret1 (by first | exact .inr rfl | exact .inl rfl) rfl (v_int rfl) ?_
          exact ⟨by rw [cmpN_gt hf], hh.below⟩
        · rw [hj]
          refine wc_seq (sr (mI ?_))
          refine geqC (wl_end (cT (wc_skip (k_then (wc_seq (wc_block (wc_seq (sr (mL (mI ?_))))))))))
          refine s_callf (rbit_calls A n c j xs _ (hx.ext hh.below) hdx (by omega) (by omega)) FnIs.out rfl (by decide) ?_
          rintro e_ w18 ⟨rfl, hb_⟩
          refine ⟨_, rfl, ?_⟩
          replace hh := hh.ext hb_
          refine mL (mI ?_)
          refine s_callf (rbit_calls B m c' j ys _ (hy.ext hh.below) hdy (by omega) (by omega)) FnIs.out rfl (by decide) ?_
          rintro e_ w21 ⟨rfl, hb_⟩
          refine ⟨_, rfl, ?_⟩
          replace hh := hh.ext hb_
          refine lssC (wl_end (cF (wc_skip (k_then (sr (mL (mI ?_)))))))
          refine s_callf (rbit_calls A n c j xs _ (hx.ext hh.below) hdx (by omega) (by omega)) FnIs.out rfl (by decide) ?_
          rintro e_ w25 ⟨rfl, hb_⟩
          refine ⟨_, rfl, ?_⟩
          replace hh := hh.ext hb_
          refine mL (mI ?_)
          refine s_callf (rbit_calls B m c' j ys _ (hy.ext hh.below) hdy (by omega) (by omega)) FnIs.out rfl (by decide) ?_
          rintro e_ w28 ⟨rfl, hb_⟩
          refine ⟨_, rfl, ?_⟩
          replace hh := hh.ext hb_
          refine gtrC (wl_end (cF (wc_skip (b_norm (k_then (wc_region (mI ?_)))))))
          refine subC (aI (wl_nil (k_then ?_)))
          refine ⟨⟨j, by omega, rfl, by omega, hh⟩, by show ((j : Int) - 1 + 1).toNat < ((j : Int) + 1).toNat; omega, ?_⟩
          (repeat (first | exact agree_mask _ _ _ | refine agree_upd rfl ?_ | refine agree_mask2 rfl ?_))
theorem add_bit (S T i : Nat) : (S + T) / 2 ^ i % 2 = (S / 2 ^ i % 2 + (S % 2 ^ i + T % 2 ^ i) / 2 ^ i + T / 2 ^ i % 2) % 2 ∧ (S % 2 ^ (i + 1) + T % 2 ^ (i + 1)) / 2 ^ (i + 1) = (S / 2 ^ i % 2 + (S % 2 ^ i + T % 2 ^ i) / 2 ^ i + T / 2 ^ i % 2) / 2 ∧ (S % 2 ^ i + T % 2 ^ i) / 2 ^ i ≤ 1 := by
  have hS := Nat.div_add_mod S (2 ^ i)
  have hT := Nat.div_add_mod T (2 ^ i)
  have hp : 0 < 2 ^ i := Nat.pow_pos (by omega)
  have hS2 : S % 2 ^ (i + 1) = S % 2 ^ i + 2 ^ i * (S / 2 ^ i % 2) := by rw [Nat.pow_succ, Nat.mod_mul]
  have hT2 : T % 2 ^ (i + 1) = T % 2 ^ i + 2 ^ i * (T / 2 ^ i % 2) := by rw [Nat.pow_succ, Nat.mod_mul]
  have hSl := Nat.mod_lt S hp
  have hTl := Nat.mod_lt T hp
  have hc := Nat.div_add_mod (S % 2 ^ i + T % 2 ^ i) (2 ^ i)
  have hcl := Nat.mod_lt (S % 2 ^ i + T % 2 ^ i) hp
  have hc1 : (S % 2 ^ i + T % 2 ^ i) / 2 ^ i ≤ 1 := by
    have : (S % 2 ^ i + T % 2 ^ i) / 2 ^ i < 2 := by rw [Nat.div_lt_iff_lt_mul hp]; omega
    omega
  have e1 : (S + T) / 2 ^ i = S / 2 ^ i + T / 2 ^ i + (S % 2 ^ i + T % 2 ^ i) / 2 ^ i := by
    have : S + T = (S % 2 ^ i + T % 2 ^ i) % 2 ^ i + 2 ^ i * (S / 2 ^ i + T / 2 ^ i + (S % 2 ^ i + T % 2 ^ i) / 2 ^ i) := by
      rw [Nat.mul_add, Nat.mul_add]; omega
    conv => lhs; rw [this]
    rw [Nat.add_mul_div_left _ _ hp, Nat.div_eq_of_lt hcl, Nat.zero_add]
  refine ⟨by rw [e1]; omega, ?_, hc1⟩
  rw [hS2, hT2]
  have e2 : S % 2 ^ i + 2 ^ i * (S / 2 ^ i % 2) + (T % 2 ^ i + 2 ^ i * (T / 2 ^ i % 2)) = (S % 2 ^ i + T % 2 ^ i) % 2 ^ i + 2 ^ i * (S / 2 ^ i % 2 + (S % 2 ^ i + T % 2 ^ i) / 2 ^ i + T / 2 ^ i % 2) := by
    rw [Nat.mul_add, Nat.mul_add]; omega
  rw [e2, Nat.pow_succ, ← Nat.div_div_eq_div_mul, Nat.add_mul_div_left _ _ hp, Nat.div_eq_of_lt hcl, Nat.zero_add]
theorem bit_up (Y up i : Nat) : Y * 2 ^ up / 2 ^ i % 2 = if up ≤ i then Y / 2 ^ (i - up) % 2 else 0 := by
  split
  · rename_i h
    have e : 2 ^ i = 2 ^ up * 2 ^ (i - up) := by rw [← Nat.pow_add]; congr 1; omega
    rw [e, ← Nat.div_div_eq_div_mul, Nat.mul_div_cancel _ (Nat.pow_pos (by omega))]
  · rename_i h
    have e : 2 ^ up = 2 ^ i * 2 * 2 ^ (up - i - 1) := by rw [← Nat.pow_succ, ← Nat.pow_add]; congr 1; omega
    have e2 : Y * 2 ^ up = 2 ^ i * (2 * (Y * 2 ^ (up - i - 1))) := by rw [e]; simp only [Nat.mul_assoc, Nat.mul_left_comm]
    rw [e2, Nat.mul_div_cancel_left _ (Nat.pow_pos (by omega))]
    omega
theorem fillK {K i N : Nat} (h : i < K) : (digK 2 i N ++ List.replicate (K - i) 0).set i (N / 2 ^ i % 2) = digK 2 (i + 1) N ++ List.replicate (K - (i + 1)) 0 := by
  rw [show K - i = (K - (i + 1)) + 1 by omega, List.replicate_succ, List.set_append_right _ _ (by rw [length_digK]; omega), length_digK, Nat.sub_self, List.set_cons_zero, digK_snoc]
  simp
theorem rplus_calls (A B : Option Addr) (n c m c' up : Nat) (xs ys : List Nat) (w : World) (hx : Sl w A n 1 (u8n xs)) (hy : Sl w B m 1 (u8n ys)) (hdx : Dg 2 xs) (hdy : Dg 2 ys) (hn : n ≤ 100000000000) (hm : m ≤ 100000000000) (hup : up ≤ 100000000000) :
    Calls Tryz.prog 174 #[.slice A n c, .slice B m c', .int .i64 (up : Int)] w fun e w' => ∃ b, e = .returned (.slice (some ⟨b, 0, none⟩) (max n (m + up) + 1) (max n (m + up) + 1)) ∧ w'.ownsRow w.heap.size 5 1 (.slice (some ⟨b, 0, none⟩) (max n (m + up) + 1) (max n (m + up) + 1)) (max n (m + up) + 1) (u8n (digK 2 (max n (m + up) + 1) (dig 2 xs + dig 2 ys * 2 ^ up))) ∧ Below w.heap.size w w' := by
  have hlx := hx.1
  have hly := hy.1
  rw [length_u8n] at hlx hly
  have hh := Hp.start w
  have e1 : (if ((m : Int) + (up : Int)) > (n : Int) then ((m : Int) + (up : Int)) else (n : Int)) + 1 = ((max n (m + up) + 1 : Nat) : Int) := by split <;> omega
  have hand : ∀ z : Nat, z &&& 1 = z % 2 := fun z => Nat.and_one_is_mod z
  refine calls_vc (N := 49) (l := [.slice A n c, .slice B m c', .int .i64 (up : Int)]) Tryz.func174 rfl rfl (by simp) ?_
  refine sr (aL (wl_end (sr (mL (lenC (mL (lenC (mI ?_))))))))
  refine addC ?_
  refine s_max rfl rfl (by decide) ?_
  refine addC ?_
  rw [e1]
  generalize hK : max n (m + up) + 1 = K at *
  refine wl_make (n := K) hh rfl rfl (by omega) (by omega) UIs.out TIs.out rfl (by omega) (by omega) (by decide) ?_
  intro b19 w19 hh
  refine aL (wl_end (sr (aI (wl_end (wc_seq (sr (aI (wl_end (wc_block ?_)))))))))
  rw [zrep_u8] at hh
  refine wc_loop2 [8, 9, 10, 20, 21, 22, 23, 24, 25, 26, 27, 28, 29, 30, 31, 32, 33, 34, 35, 36, 37, 38, 39, 40, 41, 42, 43, 44, 45, 46, 47] 8 9
    (fun cr v w' => ∃ i : Nat, i ≤ K ∧ v = .int .i64 (i : Int) ∧ cr = .int .u8 (((dig 2 xs % 2 ^ i + dig 2 ys * 2 ^ up % 2 ^ i) / 2 ^ i : Nat) : Int) ∧ Hp w [.row (some ⟨b19, 0, none⟩) K K 5 1 (u8n (digK 2 i (dig 2 xs + dig 2 ys * 2 ^ up) ++ List.replicate (K - i) 0))] w')
    (fun _ v _ => K - (intOf v).toNat) ?_ ?_
  · exact ⟨0, Nat.zero_le _, rfl, by simp [Nat.mod_one]; rfl, hh⟩
  · clear hh
    rintro ρ' cr v w' ⟨i, hi, rfl, rfl, hh⟩
    by_cases hlt : i < K
    · obtain ⟨b1, b2, b3⟩ := add_bit (dig 2 xs) (dig 2 ys * 2 ^ up) i
      have hbu := bit_up (dig 2 ys) up i
      have hxb : dig 2 xs / 2 ^ i % 2 < 2 := Nat.mod_lt _ (by omega)
      have hyb : dig 2 ys / 2 ^ (i - up) % 2 < 2 := Nat.mod_lt _ (by omega)
      have hll : (u8n (digK 2 i (dig 2 xs + dig 2 ys * 2 ^ up) ++ List.replicate (K - i) 0)).length = K := by rw [length_u8n, List.length_append, length_digK, List.length_replicate]; omega
      have hfk := fillK (N := dig 2 xs + dig 2 ys * 2 ^ up) hlt
      generalize hC : (dig 2 xs % 2 ^ i + dig 2 ys * 2 ^ up % 2 ^ i) / 2 ^ i = C at *
      generalize hX : dig 2 xs / 2 ^ i % 2 = X at *
      refine wc_seq (sr (mI (mL (lenC ?_))))
      refine lssC (wl_end (cT (wc_skip (k_then (wc_seq (wc_block (sr (mL (mI ?_)))))))))
      refine s_callf (rbit_calls A n c i xs _ (hx.ext hh.below) hdx (by omega) (by omega)) FnIs.out rfl (by decide) ?_
      rintro e_ w28 ⟨rfl, hb_⟩
      refine ⟨_, rfl, ?_⟩
      replace hh := hh.ext hb_
      rw [hX]
      by_cases hiu : up ≤ i
      · rw [if_pos hiu] at hbu
        rw [hbu] at b1 b2
        generalize hY : dig 2 ys / 2 ^ (i - up) % 2 = Y at *
        have es : ((X + C) % 256 + Y) % 256 = X + C + Y := by omega
        have ei : (i : Int) - (up : Int) = ((i - up : Nat) : Int) := by omega
        refine mI ?_
        refine s_addu rfl rfl (by decide) ?_
        refine aI (wl_end (wc_seq (sr (mI (mI ?_)))))
        refine geqC (wl_end (cT (wc_region (mI (mL (mI (mI ?_)))))))
        refine subC ?_
        rw [ei]
        refine s_callf (rbit_calls B m c' (i - up) ys _ (hy.ext hh.below) hdy (by omega) (by omega)) FnIs.out rfl (by decide) ?_
        rintro e_ w39 ⟨rfl, hb_⟩
        refine ⟨_, rfl, ?_⟩
        replace hh := hh.ext hb_
        rw [hY]
        refine s_addu rfl rfl (by decide) ?_
        refine aI (wl_end (sr (mL (mI (mI ?_)))))
        refine s_andu (b := 1) rfl rfl (by first | assumption | omega) (by first | assumption | omega) (by decide) ?_
        refine s_indexRow (k := i) UIs.out TIs.size rfl rfl (by omega) (by omega) (by decide) ?_
        refine wl_store_row hh (i := 0) (vs := [_]) rfl rfl (ev_int rfl) rfl TIs.out rfl (by rw [hll]; omega) rfl ?_
        intro ws hh
        simp only [List.set_cons_zero] at hh
        rw [hand, es, Nat.mul_one, splice_one (by rw [hll]; omega), u8n_set, ← b1, hfk] at hh
        refine wl_end (wc_region (mI ?_))
        refine s_shruc (s := 1) (m := 2) rfl rfl (by decide) (by decide) (by decide) ?_
        refine aI (wl_nil (b_norm (k_then (wc_region (mI ?_)))))
        refine addC (aI (wl_nil (k_then ?_)))
        rw [es]
        refine ⟨⟨i + 1, by omega, rfl, by rw [b2]; rfl, hh⟩, by show K - (i + 1) < K - i; omega, ?_⟩
        (repeat (first | exact agree_mask _ _ _ | refine agree_upd rfl ?_ | refine agree_mask2 rfl ?_))
      · rw [if_neg hiu] at hbu
        rw [hbu] at b1 b2
        have es : (X + C) % 256 = X + C + 0 := by omega
        refine mI ?_
        refine s_addu rfl rfl (by decide) ?_
        refine aI (wl_end (wc_seq (sr (mI (mI ?_)))))
        refine geqC (wl_end (cF (wc_skip (k_then (sr (mL (mI (mI ?_))))))))
        refine s_andu (b := 1) rfl rfl (by first | assumption | omega) (by first | assumption | omega) (by decide) ?_
        refine s_indexRow (k := i) UIs.out TIs.size rfl rfl (by omega) (by omega) (by decide) ?_
        refine wl_store_row hh (i := 0) (vs := [_]) rfl rfl (ev_int rfl) rfl TIs.out rfl (by rw [hll]; omega) rfl ?_
        intro ws hh
        simp only [List.set_cons_zero] at hh
        rw [hand, es, Nat.mul_one, splice_one (by rw [hll]; omega), u8n_set, ← b1, hfk] at hh
        refine wl_end (wc_region (mI ?_))
        refine s_shruc (s := 1) (m := 2) rfl rfl (by decide) (by decide) (by decide) ?_
        refine aI (wl_nil (b_norm (k_then (wc_region (mI ?_)))))
        refine addC (aI (wl_nil (k_then ?_)))
        rw [es]
        refine ⟨⟨i + 1, by omega, rfl, by rw [b2]; rfl, hh⟩, by show K - (i + 1) < K - i; omega, ?_⟩
        (repeat (first | exact agree_mask _ _ _ | refine agree_upd rfl ?_ | refine agree_mask2 rfl ?_))
    · obtain rfl : i = K := by omega
      rw [Nat.sub_self, List.replicate_zero, List.append_nil] at hh
      refine wc_seq (sr (mI (mL (lenC ?_))))
      refine lssC (wl_end (cF ?_))
      refine wc_exit ?_
      refine k_exit (k_exit (b_here (k_then (sr (mL (aL (wl_end (wc_ret ?_))))))))
      refine ret1 (by first | exact .inr rfl | exact .inl rfl) rfl (v_sl rfl) ?_
      exact ⟨_, rfl, hh.at_ (i := 0) rfl, hh.below⟩
end Go.Proofs.YthmmofllajkejaaGreatDoor

/- The walks through the document's answer for natural numbers (ogeeref01): differences, and the package's own functions. -/
namespace Go.Proofs.YthmmofllajkejaaGreatDoor
open Go.RowKit
-- umode
theorem sub_bit {X Y : Nat} (h : Y ≤ X) (i : Nat) : ((2 + X / 2 ^ i % 2 + 256 - Y / 2 ^ i % 2) % 256 + 256 - (if X % 2 ^ i < Y % 2 ^ i then 1 else 0)) % 256 % 2 = (X - Y) / 2 ^ i % 2 ∧
    (1 + 256 - ((2 + X / 2 ^ i % 2 + 256 - Y / 2 ^ i % 2) % 256 + 256 - (if X % 2 ^ i < Y % 2 ^ i then 1 else 0)) % 256 / 2) % 256 = (if X % 2 ^ (i + 1) < Y % 2 ^ (i + 1) then 1 else 0) := by
  have hX := Nat.div_add_mod X (2 ^ i)
  have hY := Nat.div_add_mod Y (2 ^ i)
  have hp : 0 < 2 ^ i := Nat.pow_pos (by omega)
  have hX2 : X % 2 ^ (i + 1) = X % 2 ^ i + 2 ^ i * (X / 2 ^ i % 2) := by rw [Nat.pow_succ, Nat.mod_mul]
  have hY2 : Y % 2 ^ (i + 1) = Y % 2 ^ i + 2 ^ i * (Y / 2 ^ i % 2) := by rw [Nat.pow_succ, Nat.mod_mul]
  have hXl := Nat.mod_lt X hp
  have hYl := Nat.mod_lt Y hp
  rw [hX2, hY2]
  generalize hx1 : X / 2 ^ i = x1 at *
  generalize hy1 : Y / 2 ^ i = y1 at *
  generalize hx0 : X % 2 ^ i = x0 at *
  generalize hy0 : Y % 2 ^ i = y0 at *
  have key : ∀ b : Nat, b = (if x0 < y0 then 1 else 0) → (X - Y) / 2 ^ i = x1 - y1 - b ∧ y1 + b ≤ x1 := by
    intro b hb
    have hle : y1 + b ≤ x1 := by
      refine Nat.le_of_not_lt fun hlt => ?_
      have h1 : 2 ^ i * (x1 + 1) ≤ 2 ^ i * (y1 + b) := Nat.mul_le_mul_left _ hlt
      rw [Nat.mul_add, Nat.mul_add] at h1
      split at hb
      · subst hb; omega
      · subst hb; omega
    refine ⟨?_, hle⟩
    have e : X - Y = (x0 + 2 ^ i * b - y0) + 2 ^ i * (x1 - y1 - b) := by
      have h2 : 2 ^ i * (x1 - y1 - b) = 2 ^ i * x1 - 2 ^ i * y1 - 2 ^ i * b := by rw [Nat.mul_sub, Nat.mul_sub]
      have h3 : 2 ^ i * (y1 + b) ≤ 2 ^ i * x1 := Nat.mul_le_mul_left _ hle
      rw [Nat.mul_add] at h3
      split at hb
      · subst hb; omega
      · subst hb; omega
    rw [e, Nat.add_mul_div_left _ _ hp, Nat.div_eq_of_lt, Nat.zero_add]
    split at hb
    · subst hb; omega
    · subst hb; omega
  obtain ⟨k1, k2⟩ := key _ rfl
  rw [k1]
  have hlt : (x0 + 2 ^ i * (x1 % 2) < y0 + 2 ^ i * (y1 % 2)) ↔ (x1 % 2 < y1 % 2 ∨ x1 % 2 = y1 % 2 ∧ x0 < y0) := by
    rcases Nat.mod_two_eq_zero_or_one x1 with h1 | h1 <;> rcases Nat.mod_two_eq_zero_or_one y1 with h2 | h2 <;> rw [h1, h2] <;> omega
  by_cases hb : x0 < y0
  · rw [if_pos hb] at k2 ⊢
    refine ⟨by omega, ?_⟩
    by_cases hc : x0 + 2 ^ i * (x1 % 2) < y0 + 2 ^ i * (y1 % 2)
    · rw [if_pos hc]; rw [hlt] at hc; omega
    · rw [if_neg hc]; rw [hlt] at hc; omega
  · rw [if_neg hb] at k2 ⊢
    refine ⟨by omega, ?_⟩
    by_cases hc : x0 + 2 ^ i * (x1 % 2) < y0 + 2 ^ i * (y1 % 2)
    · rw [if_pos hc]; rw [hlt] at hc; omega
    · rw [if_neg hc]; rw [hlt] at hc; omega
theorem rminus_calls (A B : Option Addr) (n c m c' : Nat) (xs ys : List Nat) (w : World) (hx : Sl w A n 1 (u8n xs)) (hy : Sl w B m 1 (u8n ys)) (hdx : Dg 2 xs) (hdy : Dg 2 ys) (hn : n ≤ 100000000000) (hm : m ≤ 100000000000) (hle : dig 2 ys ≤ dig 2 xs) :
    Calls Tryz.prog 176 #[.slice A n c, .slice B m c'] w fun e w' => ∃ b, e = .returned (.slice (some ⟨b, 0, none⟩) n n) ∧ w'.ownsRow w.heap.size 5 1 (.slice (some ⟨b, 0, none⟩) n n) n (u8n (digK 2 n (dig 2 xs - dig 2 ys))) ∧ Below w.heap.size w w' := by
  have hlx := hx.1
  have hly := hy.1
  rw [length_u8n] at hlx hly
  have hh := Hp.start w
  have hand : ∀ z : Nat, z &&& 1 = z % 2 := fun z => Nat.and_one_is_mod z
  refine calls_vc (N := 37) (l := [.slice A n c, .slice B m c']) Tryz.func176 rfl rfl (by simp) ?_
  refine sr (aL (wl_end (sr (mL (lenC ?_)))))
  refine wl_make (n := n) hh rfl rfl (by omega) (by omega) UIs.out TIs.out rfl (by omega) (by omega) (by decide) ?_
  intro b11 w11 hh
  refine aL (wl_end (sr (aI (wl_end (wc_seq (sr (aI (wl_end (wc_block ?_)))))))))
  rw [zrep_u8] at hh
  refine wc_loop2 [6, 7, 8, 12, 13, 14, 15, 16, 17, 18, 19, 20, 21, 22, 23, 24, 25, 26, 27, 28, 29, 30, 31, 32, 33, 34, 35] 6 7
    (fun cr v w' => ∃ i : Nat, i ≤ n ∧ v = .int .i64 (i : Int) ∧ cr = .int .u8 ((if dig 2 xs % 2 ^ i < dig 2 ys % 2 ^ i then 1 else 0 : Nat) : Int) ∧ Hp w [.row (some ⟨b11, 0, none⟩) n n 5 1 (u8n (digK 2 i (dig 2 xs - dig 2 ys) ++ List.replicate (n - i) 0))] w')
    (fun _ v _ => n - (intOf v).toNat) ?_ ?_
  · exact ⟨0, Nat.zero_le _, rfl, by simp [Nat.mod_one]; rfl, hh⟩
  · clear hh
    rintro ρ' cr v w' ⟨i, hi, rfl, rfl, hh⟩
    by_cases hlt : i < n
    · obtain ⟨b1, b2⟩ := sub_bit hle i
      have hxb : dig 2 xs / 2 ^ i % 2 < 2 := Nat.mod_lt _ (by omega)
      have hyb : dig 2 ys / 2 ^ i % 2 < 2 := Nat.mod_lt _ (by omega)
      have hcb : (if dig 2 xs % 2 ^ i < dig 2 ys % 2 ^ i then 1 else 0 : Nat) ≤ 1 := by split <;> omega
      have hll : (u8n (digK 2 i (dig 2 xs - dig 2 ys) ++ List.replicate (n - i) 0)).length = n := by rw [length_u8n, List.length_append, length_digK, List.length_replicate]; omega
      have hfk := fillK (N := dig 2 xs - dig 2 ys) hlt
      refine wc_seq (sr (mI (mL (lenC ?_))))
      refine lssC (wl_end (cT (wc_skip (k_then (wc_seq (wc_block (sr (mL (mI ?_)))))))))
      refine s_callf (rbit_calls A n c i xs _ (hx.ext hh.below) hdx (by omega) (by omega)) FnIs.out rfl (by decide) ?_
      rintro e_ w20 ⟨rfl, hb_⟩
      refine ⟨_, rfl, ?_⟩
      replace hh := hh.ext hb_
      refine s_addu (a := 2) rfl rfl (by decide) ?_
      refine mL (mI ?_)
      refine s_callf (rbit_calls B m c' i ys _ (hy.ext hh.below) hdy (by omega) (by omega)) FnIs.out rfl (by decide) ?_
      rintro e_ w24 ⟨rfl, hb_⟩
      refine ⟨_, rfl, ?_⟩
      replace hh := hh.ext hb_
      generalize hC : (if dig 2 xs % 2 ^ i < dig 2 ys % 2 ^ i then 1 else 0 : Nat) = C at *
      generalize hX : dig 2 xs / 2 ^ i % 2 = X at *
      generalize hY : dig 2 ys / 2 ^ i % 2 = Y at *
      have es : ((2 + X) % 256 + 256 - Y) % 256 = (2 + X + 256 - Y) % 256 := by omega
      have hS : ((2 + X + 256 - Y) % 256 + 256 - C) % 256 < 256 := Nat.mod_lt _ (by omega)
      refine s_subu rfl rfl (by omega) (by decide) ?_
      refine mI ?_
      rw [es]
      refine s_subu rfl rfl (by omega) (by decide) ?_
      refine aI (wl_end (sr (mL (mI (mI ?_)))))
      refine s_andu (b := 1) rfl rfl (by first | assumption | omega) (by first | assumption | omega) (by decide) ?_
      refine s_indexRow (k := i) UIs.out TIs.size rfl rfl (by omega) (by omega) (by decide) ?_
      refine wl_store_row hh (i := 0) (vs := [_]) rfl rfl (ev_int rfl) rfl TIs.out rfl (by rw [hll]; omega) rfl ?_
      intro ws hh
      simp only [List.set_cons_zero] at hh
      rw [hand, b1, Nat.mul_one, splice_one (by rw [hll]; omega), u8n_set, hfk] at hh
      refine wl_end (wc_region (mI ?_))
      refine s_shruc (s := 1) (m := 2) rfl rfl (by decide) (by decide) (by decide) ?_
      refine s_subu (a := 1) rfl rfl (by omega) (by decide) ?_
      refine aI (wl_nil (b_norm (k_then (wc_region (mI ?_)))))
      refine addC (aI (wl_nil (k_then ?_)))
      refine ⟨⟨i + 1, by omega, rfl, by rw [← b2]; rfl, hh⟩, by show n - (i + 1) < n - i; omega, ?_⟩
      (repeat (first | exact agree_mask _ _ _ | refine agree_upd rfl ?_ | refine agree_mask2 rfl ?_))
    · obtain rfl : i = n := by omega
      rw [Nat.sub_self, List.replicate_zero, List.append_nil] at hh
      refine wc_seq (sr (mI (mL (lenC ?_))))
      refine lssC (wl_end (cF ?_))
      refine wc_exit ?_
      refine k_exit (k_exit (b_here (k_then (sr (mL (aL (wl_end (wc_ret ?_))))))))
      refine ret1 (by first | exact .inr rfl | exact .inl rfl) rfl (v_sl rfl) ?_
      exact ⟨_, rfl, hh.at_ (i := 0) rfl, hh.below⟩
theorem rOf_calls (n : Nat) (w : World) (hn : n < 18446744073709551616) :
    Calls Tryz.prog 111 #[.int .u64 (n : Int)] w fun e w' => e = .returned (.string (sN n)) ∧ Below w.heap.size w w' := by
  have hh := Hp.start w
  refine calls_vc (N := 16) (l := [.int .u64 (n : Int)]) Tryz.func111 rfl rfl (by simp) ?_
  refine sr (aS (wl_end (sr (aL (wl_end (wc_seq (wc_block ?_)))))))
  replace hh := hh.nil_row 5 1
  refine wc_loop2 [0, 3, 4, 5, 6, 7, 8, 9, 10, 11, 12, 13] 0 3
    (fun v o w' => ∃ (k m : Nat) (A : Option Addr) (c : Nat), v = .int .u64 (m : Int) ∧ m < 18446744073709551616 ∧ k ≤ 64 ∧ m < 2 ^ (64 - k) ∧ o = .slice A k c ∧ m = n / 2 ^ k ∧ Hp w [.row A k c 5 1 (u8n (digK 2 k n))] w')
    (fun v _ _ => (intOf v).toNat) ?_ ?_
  · exact ⟨0, n, none, 0, rfl, hn, by omega, by simpa using hn, rfl, by simp, hh⟩
  · clear hh
    rintro ρ' v o w' ⟨k, m, A, c, rfl, hm, hk, hmk, rfl, hmn, hh⟩
    by_cases h0 : m = 0
    · subst h0
      refine wc_seq (sr (mI ?_))
      refine gtrC (wl_end (cF ?_))
      refine wc_exit ?_
      refine k_exit (k_exit (b_here (k_then (sr (mL ?_)))))
      refine s_callf (rtext_calls _ _ _ (digK 2 k n) _ (hh.sl_row (i := 0) rfl) (dg_digK (by omega) _ _) (hh.row_cap (i := 0) rfl) (by omega)) FnIs.out rfl (by decide) ?_
      rintro e_ w15 ⟨rfl, hb_⟩
      refine ⟨_, rfl, ?_⟩
      replace hh := hh.ext hb_
      have hlt : n < 2 ^ k := by
        have := Nat.div_add_mod n (2 ^ k)
        have h2 := Nat.mod_lt n (Nat.pow_pos (n := k) (show 0 < 2 by omega))
        rw [← hmn] at this
        omega
      rw [dig_digK_lt hlt]
      refine aS (wl_end (wc_ret ?_))
      refine ret1 (by first | exact .inr rfl | exact .inl rfl) rfl (v_str rfl) ?_
      exact ⟨rfl, hh.below⟩
    · have hk64 : k < 64 := by
        refine Nat.lt_of_not_le fun h => ?_
        rw [show 64 - k = 0 by omega] at hmk
        omega
      have hm2 : m % 2 < 256 := by omega
      refine wc_seq (sr (mI ?_))
      refine gtrC (wl_end (cT (wc_skip (k_then (wc_seq (wc_block (wc_region (mL (mI ?_)))))))))
      refine s_remu (b := 2) rfl rfl (by omega) (by decide) ?_
      first | refine s_convu_lt UIs.out UIs.out rfl (by first | assumption | omega) (by decide) ?_ | refine s_convu UIs.out UIs.out rfl (by decide) ?_
      refine wl_buildSlice hh (cs := [_]) UIs.out TIs.out (evp_cons (ev_int rfl) evp_nil) rfl rfl (by decide) (by decide) (by decide) rfl (by decide) ?_
      intro b12 w12 hh
      refine wl_append hh (i := 1) rfl rfl rfl (hh.sl_row (i := 0) rfl) UIs.out TIs.out rfl (by decide) (by first | rfl | exact oneCells_u8n _ | exact oneCells_u64s _ | exact oneCells_i64s _ | exact recs_oneCells NR.one _) (by omega) (by omega) (by decide) ?_
      intro A13 c13 w13 hh
      simp only [List.set_cons_zero, List.set_cons_succ] at hh
      replace hh := hh.sub (List.sublist_cons_self _ _)
      refine aL (wl_nil (b_norm (k_then (wc_region (mI ?_)))))
      refine s_quou (b := 2) rfl rfl (by omega) (by first | assumption | omega) (by decide) ?_
      refine aI (wl_nil (k_then ?_))
      have e1 : u8n (digK 2 k n) ++ [Value.int .u8 ((m % 2 : Nat) : Int)] = u8n (digK 2 (k + 1) n) := by
        rw [hmn, digK_snoc, u8n_append]; rfl
      rw [e1] at hh
      refine ⟨⟨k + 1, m / 2, A13, c13, rfl, by omega, by omega, ?_, rfl, ?_, hh⟩, by show (((m / 2 : Nat) : Int)).toNat < ((m : Int)).toNat; omega, ?_⟩
      · rw [show 64 - k = (64 - (k + 1)) + 1 by omega, Nat.pow_succ] at hmk
        omega
      · rw [hmn, Nat.div_div_eq_div_mul, Nat.pow_succ]
      · (repeat (first | exact agree_mask _ _ _ | refine agree_upd rfl ?_ | refine agree_mask2 rfl ?_))
theorem bits_len (a : ByteArray) : (digs 2 (bN a)).length ≤ 8 * a.size := bN_blen a
theorem can_2 (n : Nat) : Dg 2 (digs 2 n) := (can_digs (by omega) n).1
theorem dig_2 (n : Nat) : dig 2 (digs 2 n) = n := dig_digs (by omega) n
theorem rCmp_calls (a b : ByteArray) (w : World) (ha : a.size ≤ 1000000000) (hb : b.size ≤ 1000000000) :
    Calls Tryz.prog 175 #[.string a, .string b] w fun e w' => e = .returned (.int .i64 (cmpN (bN a) (bN b))) ∧ Below w.heap.size w w' := by
  have hh := Hp.start w
  have h1 := bits_len a
  have h2 := bits_len b
  refine calls_vc (N := 10) (l := [.string a, .string b]) Tryz.func175 rfl rfl (by simp) ?_
  refine sr (aI (wl_end (sr (mS ?_))))
  refine s_callf (rbits_calls a _ ha) FnIs.out rfl (by decide) ?_
  rintro e_ w6 ⟨A6, c6, rfl, hown_, hb_⟩
  refine ⟨_, rfl, ?_⟩
  replace hh := hh.push_new (x := .row _ _ _ _ _ _) hb_ hown_
  refine mS ?_
  refine s_callf (rbits_calls b _ hb) FnIs.out rfl (by decide) ?_
  rintro e_ w8 ⟨A8, c8, rfl, hown_, hb_⟩
  refine ⟨_, rfl, ?_⟩
  replace hh := hh.push_new (x := .row _ _ _ _ _ _) hb_ hown_
  refine s_callf (rcompare_calls _ _ _ _ _ _ (digs 2 (bN a)) (digs 2 (bN b)) _ (hh.sl_row (i := 1) rfl) (hh.sl_row (i := 0) rfl) (can_2 _) (can_2 _) (by omega) (by omega)) FnIs.out rfl (by decide) ?_
  rintro e_ w9 ⟨rfl, hb_⟩
  refine ⟨_, rfl, ?_⟩
  replace hh := hh.ext hb_
  rw [dig_2, dig_2]
  refine aI (wl_end (wc_ret ?_))
  refine ret1 (by first | exact .inr rfl | exact .inl rfl) rfl (v_int rfl) ?_
  exact ⟨rfl, hh.below⟩
theorem rLen_calls (a : ByteArray) (w : World) (ha : a.size ≤ 1000000000) :
    Calls Tryz.prog 172 #[.string a] w fun e w' => e = .returned (.int .i64 (blen (bN a))) ∧ Below w.heap.size w w' := by
  have hh := Hp.start w
  refine calls_vc (N := 6) (l := [.string a]) Tryz.func172 rfl rfl (by simp) ?_
  refine sr (aI (wl_end (sr (mS ?_))))
  refine s_callf (rbits_calls a _ ha) FnIs.out rfl (by decide) ?_
  rintro e_ w4 ⟨A4, c4, rfl, hown_, hb_⟩
  refine ⟨_, rfl, ?_⟩
  replace hh := hh.push_new (x := .row _ _ _ _ _ _) hb_ hown_
  refine lenC (aI (wl_end (wc_ret ?_)))
  refine ret1 (by first | exact .inr rfl | exact .inl rfl) rfl (v_int rfl) ?_
  exact ⟨rfl, hh.below⟩
theorem rSub_calls (a b : ByteArray) (w : World) (ha : a.size ≤ 1000000000) (hb : b.size ≤ 1000000000) :
    Calls Tryz.prog 155 #[.string a, .string b] w fun e w' => e = .returned (.tuple #[.string (sN (bN a - bN b)), .bool (decide (bN b ≤ bN a))]) ∧ Below w.heap.size w w' := by
  have hh := Hp.start w
  have h1 := bits_len a
  have h2 := bits_len b
  by_cases hlt : bN a < bN b
  · refine calls_vc (N := 16) (l := [.string a, .string b]) Tryz.func155 rfl rfl (by simp) ?_
    refine sr (aS (aB (wl_end (wc_seq (sr (mS (mS ?_)))))))
    refine s_callf (rCmp_calls a b _ ha hb) FnIs.out rfl (by decide) ?_
    rintro e_ w8 ⟨rfl, hb_⟩
    refine ⟨_, rfl, ?_⟩
    replace hh := hh.ext hb_
    rw [cmpN_lt hlt]
    refine lssC (wl_end (cT (sr (aS (aB (wl_end (wc_ret (k_ret ?_))))))))
    refine ret2 (by first | exact .inr rfl | exact .inl rfl) rfl (v_str rfl) (v_bool rfl) ?_
    rw [Nat.sub_eq_zero_of_le (by omega), decide_eq_false (by omega), sN_zero]
    exact ⟨rfl, hh.below⟩
  · have hc : ¬ cmpN (bN a) (bN b) < 0 := by unfold cmpN; split <;> (try split) <;> omega
    have hbl : bN a - bN b < 2 ^ (digs 2 (bN a)).length := Nat.lt_of_le_of_lt (Nat.sub_le _ _) (lt_blen (bN a))
    refine calls_vc (N := 16) (l := [.string a, .string b]) Tryz.func155 rfl rfl (by simp) ?_
    refine sr (aS (aB (wl_end (wc_seq (sr (mS (mS ?_)))))))
    refine s_callf (rCmp_calls a b _ ha hb) FnIs.out rfl (by decide) ?_
    rintro e_ w8 ⟨rfl, hb_⟩
    refine ⟨_, rfl, ?_⟩
    replace hh := hh.ext hb_
    refine lssC (wl_end (cF (wc_skip (k_then (sr (mS ?_))))))
    refine s_callf (rbits_calls a _ ha) FnIs.out rfl (by decide) ?_
    rintro e_ w11 ⟨A11, c11, rfl, hown_, hb_⟩
    refine ⟨_, rfl, ?_⟩
    replace hh := hh.push_new (x := .row _ _ _ _ _ _) hb_ hown_
    refine mS ?_
    refine s_callf (rbits_calls b _ hb) FnIs.out rfl (by decide) ?_
    rintro e_ w13 ⟨A13, c13, rfl, hown_, hb_⟩
    refine ⟨_, rfl, ?_⟩
    replace hh := hh.push_new (x := .row _ _ _ _ _ _) hb_ hown_
    refine s_callf (rminus_calls _ _ _ _ _ _ (digs 2 (bN a)) (digs 2 (bN b)) _ (hh.sl_row (i := 1) rfl) (hh.sl_row (i := 0) rfl) (can_2 _) (can_2 _) (by omega) (by omega) (by rw [dig_2, dig_2]; omega)) FnIs.out rfl (by decide) ?_
    rintro e_ w_ ⟨b14, rfl, hown_, hb_⟩
    refine ⟨_, rfl, ?_⟩
    replace hh := hh.push_new (x := .row _ _ _ _ _ _) hb_ hown_
    rw [dig_2, dig_2] at hh
    refine s_callf (rtext_calls _ _ _ (digK 2 (digs 2 (bN a)).length (bN a - bN b)) _ (hh.sl_row (i := 0) rfl) (dg_digK (by omega) _ _) (Nat.le_refl _) (by omega)) FnIs.out rfl (by decide) ?_
    rintro e_ w15 ⟨rfl, hb_⟩
    refine ⟨_, rfl, ?_⟩
    replace hh := hh.ext hb_
    rw [dig_digK_lt hbl]
    refine aS (aB (wl_end (wc_ret ?_)))
    refine ret2 (by first | exact .inr rfl | exact .inl rfl) rfl (v_str rfl) (v_bool rfl) ?_
    rw [decide_eq_true (by omega)]
    exact ⟨rfl, hh.below⟩
theorem rShl_calls (a : ByteArray) (m : Nat) (w : World) (ha : a.size ≤ 1000000000) (hm : m ≤ 10000000000) :
    Calls Tryz.prog 156 #[.string a, .int .i64 (m : Int)] w fun e w' => e = .returned (.string (sN (bN a * 2 ^ m))) ∧ Below w.heap.size w w' := by
  have hh := Hp.start w
  have h1 := bits_len a
  have e1 : (if (0 : Int) > (m : Int) then 0 else (m : Int)) = m := if_neg (by omega)
  have hbd : bN a * 2 ^ m < 2 ^ (max 0 ((digs 2 (bN a)).length + m) + 1) := by
    refine Nat.lt_of_lt_of_le (lt_blen _) (Nat.pow_le_pow_right (by omega) ?_)
    have := blen_mul_pow (bN a) m
    show blen _ ≤ max 0 (blen _ + m) + 1
    omega
  refine calls_vc (N := 11) (l := [.string a, .int .i64 (m : Int)]) Tryz.func156 rfl rfl (by simp) ?_
  refine sr (aS (wl_end (sr (mS ?_))))
  refine s_callf (rbits_calls a _ ha) FnIs.out rfl (by decide) ?_
  rintro e_ w6 ⟨A6, c6, rfl, hown_, hb_⟩
  refine ⟨_, rfl, ?_⟩
  replace hh := hh.push_new (x := .row _ _ _ _ _ _) hb_ hown_
  refine mI ?_
  refine s_max rfl rfl (by decide) ?_
  rw [e1]
  refine s_callf (rplus_calls none _ 0 0 _ _ m [] (digs 2 (bN a)) _ (Sl.nil _ _ _) (hh.sl_row (i := 0) rfl) Dg.nil (can_2 _) (by omega) (by omega) (by omega)) FnIs.out rfl (by decide) ?_
  rintro e_ w_ ⟨b9, rfl, hown_, hb_⟩
  refine ⟨_, rfl, ?_⟩
  replace hh := hh.push_new (x := .row _ _ _ _ _ _) hb_ hown_
  rw [dig_2, dig, Nat.zero_add] at hh
  refine s_callf (rtext_calls _ _ _ (digK 2 (max 0 ((digs 2 (bN a)).length + m) + 1) (bN a * 2 ^ m)) _ (hh.sl_row (i := 0) rfl) (dg_digK (by omega) _ _) (Nat.le_refl _) (by omega)) FnIs.out rfl (by decide) ?_
  rintro e_ w10 ⟨rfl, hb_⟩
  refine ⟨_, rfl, ?_⟩
  replace hh := hh.ext hb_
  rw [dig_digK_lt hbd]
  refine aS (wl_end (wc_ret ?_))
  refine ret1 (by first | exact .inr rfl | exact .inl rfl) rfl (v_str rfl) ?_
  exact ⟨rfl, hh.below⟩
end Go.Proofs.YthmmofllajkejaaGreatDoor

/- The walks through the document's answer for natural numbers (ogeeref01): sums, products, quotients. -/
namespace Go.Proofs.YthmmofllajkejaaGreatDoor
open Go.RowKit
-- umode
theorem rAdd_calls (L : Option Addr) (n c : Nat) (ss : List ByteArray) (w : World) (hS : Sl w L n 1 (strs ss)) (hn : n ≤ 1000000) (hs : ∀ s ∈ ss, s.size ≤ 1000000000) :
    Calls Tryz.prog 154 #[.slice L n c] w fun e w' => e = .returned (.string (sN (ss.map bN).sum)) ∧ Below w.heap.size w w' := by
  have hsl : ss.length = n := by have := hS.1; rw [length_strs] at this; omega
  have hh := Hp.start w
  refine calls_vc (N := 20) (l := [.slice L n c]) Tryz.func154 rfl rfl (by simp) ?_
  refine sr (aS (wl_end (sr (aL (wl_end (wc_seq (sr (aI (wl_end (wc_block ?_))))))))))
  replace hh := hh.nil_row 5 1
  refine wc_loop2 [3, 4, 5, 6, 7, 8, 9, 10, 11, 12, 13, 14, 15, 16, 17] 3 4
    (fun v j w' => ∃ (i : Nat) (A : Option Addr) (c' T K : Nat), i ≤ n ∧ j = .int .i64 i ∧ T = ((ss.take i).map bN).sum ∧ v = .slice A K c' ∧ K ≤ 8000000000 + i ∧ T < 2 ^ K ∧ Hp w [.row A K c' 5 1 (u8n (digK 2 K T))] w')
    (fun _ j _ => n - (intOf j).toNat) ?_ ?_
  · exact ⟨0, none, 0, 0, 0, Nat.zero_le _, rfl, rfl, rfl, by omega, by simp, hh⟩
  · clear hh
    rintro ρ' v j w' ⟨i, A, c', T, K, hi, rfl, hT, rfl, hTl, hTb, hh⟩
    by_cases hlt : i < n
    · obtain ⟨s, hsi⟩ := get_of_lt (l := ss) (k := i) (by omega)
      obtain ⟨ad, rfl, hr⟩ := hS.at_ (by omega)
      have hs2 := strs_at hsi
      have hsz := hs s (List.mem_of_getElem? hsi)
      have hlx := bits_len s
      have hT2 : ((ss.take (i + 1)).map bN).sum = T + bN s := by rw [take_snoc hsi, List.map_append, List.map_singleton, sum_snocN, hT]
      have hbs : bN s < 2 ^ (digs 2 (bN s)).length := lt_blen _
      have hb2 : T + bN s < 2 ^ (max K ((digs 2 (bN s)).length + 0) + 1) := by
        have h1 : 2 ^ K ≤ 2 ^ max K ((digs 2 (bN s)).length + 0) := Nat.pow_le_pow_right (by omega) (by omega)
        have h2 : 2 ^ (digs 2 (bN s)).length ≤ 2 ^ max K ((digs 2 (bN s)).length + 0) := Nat.pow_le_pow_right (by omega) (by omega)
        rw [Nat.pow_succ]; omega
      refine wc_seq (sr (mI (mL (lenC ?_))))
      refine lssC (wl_end (cT (wc_skip (k_then (wc_seq (wc_block (wc_region (mL (mL (mI ?_))))))))))
      refine s_indexSl (k := i) UIs.out TIs.size rfl rfl (by omega) (by omega) (by decide) ?_
      refine s_load1 TIs.out rfl ((hr.ext hh.below).at1 (by assumption)) (by decide) ?_
      refine s_callf (rbits_calls s _ hsz) FnIs.out rfl (by decide) ?_
      rintro e_ w16 ⟨A16, c16, rfl, hown_, hb_⟩
      refine ⟨_, rfl, ?_⟩
      replace hh := hh.push_new (x := .row _ _ _ _ _ _) hb_ hown_
      refine s_callf (rplus_calls _ _ _ _ _ _ 0 (digK 2 K T) (digs 2 (bN s)) _ (hh.sl_row (i := 1) rfl) (hh.sl_row (i := 0) rfl) (dg_digK (by omega) _ _) (can_2 _) (by omega) (by omega) (by omega)) FnIs.out rfl (by decide) ?_
      rintro e_ w_ ⟨b17, rfl, hown_, hb_⟩
      refine ⟨_, rfl, ?_⟩
      rw [dig_2, dig_digK_lt hTb, Nat.pow_zero, Nat.mul_one] at hown_
      replace hh := (hh.push_new (x := .row _ _ _ _ _ _) hb_ hown_).sub (List.sublist_append_left [_] _)
      refine aL (wl_nil (b_norm (k_then (wc_region (mI ?_)))))
      refine addC (aI (wl_nil (k_then ?_)))
      refine ⟨⟨i + 1, _, _, T + bN s, _, by omega, rfl, hT2.symm, rfl, by omega, hb2, hh⟩, by show n - (i + 1) < n - i; omega, ?_⟩
      (repeat (first | exact agree_mask _ _ _ | refine agree_upd rfl ?_ | refine agree_mask2 rfl ?_))
    · refine wc_seq (sr (mI (mL (lenC ?_))))
      refine lssC (wl_end (cF ?_))
      refine wc_exit ?_
      refine k_exit (k_exit (b_here (k_then (sr (mL ?_)))))
      refine s_callf (rtext_calls _ _ _ (digK 2 K T) _ (hh.sl_row (i := 0) rfl) (dg_digK (by omega) _ _) (hh.row_cap (i := 0) rfl) (by omega)) FnIs.out rfl (by decide) ?_
      rintro e_ w19 ⟨rfl, hb_⟩
      refine ⟨_, rfl, ?_⟩
      replace hh := hh.ext hb_
      rw [dig_digK_lt hTb]
      refine aS (wl_end (wc_ret ?_))
      refine ret1 (by first | exact .inr rfl | exact .inl rfl) rfl (v_str rfl) ?_
      rw [List.take_of_length_le (by omega)] at hT
      rw [hT]
      exact ⟨rfl, hh.below⟩
theorem rMul_calls (a b : ByteArray) (w : World) (ha : a.size ≤ 1000000000) (hb : b.size ≤ 1000000000) :
    Calls Tryz.prog 153 #[.string a, .string b] w fun e w' => e = .returned (.string (sN (bN a * bN b))) ∧ Below w.heap.size w w' := by
  have hh := Hp.start w
  have h1 := bits_len a
  have h2 := bits_len b
  have hYl : bN b < 2 ^ (digs 2 (bN b)).length := lt_blen _
  have hXd := can_2 (bN a)
  have hX := dig_2 (bN a)
  refine calls_vc (N := 30) (l := [.string a, .string b]) Tryz.func153 rfl rfl (by simp) ?_
  refine sr (aS (wl_end (sr (mS ?_))))
  refine s_callf (rbits_calls a _ ha) FnIs.out rfl (by decide) ?_
  rintro e_ w10 ⟨A10, c10, rfl, hown_, hb_⟩
  refine ⟨_, rfl, ?_⟩
  replace hh := hh.push_new (x := .row _ _ _ _ _ _) hb_ hown_
  refine mS ?_
  refine s_callf (rbits_calls b _ hb) FnIs.out rfl (by decide) ?_
  rintro e_ w12 ⟨A12, c12, rfl, hown_, hb_⟩
  refine ⟨_, rfl, ?_⟩
  replace hh := hh.push_new (x := .row _ _ _ _ _ _) hb_ hown_
  generalize digs 2 (bN a) = xs at *
  refine aL (aL (wl_end (sr (aL (wl_end (wc_seq (sr (aI (wl_end (wc_block ?_))))))))))
  replace hh := hh.nil_row 5 1
  refine wc_loop2 [7, 8, 13, 14, 15, 16, 17, 18, 19, 20, 21, 22, 23, 24, 25, 26, 27] 7 8
    (fun v j w' => ∃ (i : Nat) (A : Option Addr) (c' P K : Nat), i ≤ xs.length ∧ j = .int .i64 i ∧ P = dig 2 (xs.take i) * bN b ∧ v = .slice A K c' ∧ K ≤ (digs 2 (bN b)).length + i ∧ P < 2 ^ K ∧ Hp w [.row A K c' 5 1 (u8n (digK 2 K P)), .row A12 (digs 2 (bN b)).length c12 5 1 (u8n (digs 2 (bN b))), .row A10 xs.length c10 5 1 (u8n xs)] w')
    (fun _ j _ => xs.length - (intOf j).toNat) ?_ ?_
  · exact ⟨0, none, 0, 0, 0, Nat.zero_le _, rfl, by simp [dig], rfl, by omega, by simp, hh⟩
  · clear hh
    rintro ρ' v j w' ⟨i, A, c', P, K, hi, rfl, hP, rfl, hK, hPb, hh⟩
    by_cases hlt : i < xs.length
    · obtain ⟨d, hd⟩ := get_of_lt (l := xs) (k := i) (by omega)
      have hd2 := u8n_at hd
      have hdw := hXd.at_ hd
      have hsn := dig_take_snoc (B := 2) hd
      obtain ⟨g, rfl⟩ := hh.row_some (i := 2) rfl (by omega)
      by_cases h0 : d = 0
      · subst h0
        refine wc_seq (sr (mI (mL (lenC ?_))))
        refine lssC (wl_end (cT (wc_skip (k_then (wc_seq (wc_block (sr (mL (mI ?_)))))))))
        refine s_indexRow (k := i) UIs.out TIs.size rfl rfl (by omega) (by omega) (by decide) ?_
        refine s_load1 TIs.out rfl (hh.cell_row (i := 2) rfl (by first | assumption | (simp only [Nat.mul_one]; assumption))) (by decide) ?_
        refine eqlC (wl_end (cF (wc_skip (b_norm (k_then (wc_region (mI ?_)))))))
        refine addC (aI (wl_nil (k_then ?_)))
        refine ⟨⟨i + 1, _, _, P, _, by omega, rfl, by rw [hsn, hP]; simp, rfl, by omega, hPb, hh⟩, by show xs.length - (i + 1) < xs.length - i; omega, ?_⟩
        (repeat (first | exact agree_mask _ _ _ | refine agree_upd rfl ?_ | refine agree_mask2 rfl ?_))
      · obtain rfl : d = 1 := by omega
        have hb2 : P + bN b * 2 ^ i < 2 ^ (max K ((digs 2 (bN b)).length + i) + 1) := by
          have h1 : 2 ^ K ≤ 2 ^ max K ((digs 2 (bN b)).length + i) := Nat.pow_le_pow_right (by omega) (by omega)
          have h2 : 2 ^ ((digs 2 (bN b)).length + i) ≤ 2 ^ max K ((digs 2 (bN b)).length + i) := Nat.pow_le_pow_right (by omega) (by omega)
          have h3 : bN b * 2 ^ i < 2 ^ (digs 2 (bN b)).length * 2 ^ i := Nat.mul_lt_mul_of_pos_right hYl (Nat.pow_pos (by omega))
          rw [← Nat.pow_add] at h3
          rw [Nat.pow_succ]; omega
        refine wc_seq (sr (mI (mL (lenC ?_))))
        refine lssC (wl_end (cT (wc_skip (k_then (wc_seq (wc_block (sr (mL (mI ?_)))))))))
        refine s_indexRow (k := i) UIs.out TIs.size rfl rfl (by omega) (by omega) (by decide) ?_
        refine s_load1 TIs.out rfl (hh.cell_row (i := 2) rfl (by first | assumption | (simp only [Nat.mul_one]; assumption))) (by decide) ?_
        refine eqlC (wl_end (cT (wc_region (mL (mL (mI ?_))))))
        refine s_callf (rplus_calls _ _ _ _ _ _ i (digK 2 K P) (digs 2 (bN b)) _ (hh.sl_row (i := 0) rfl) (hh.sl_row (i := 1) rfl) (dg_digK (by omega) _ _) (can_2 _) (by omega) (by omega) (by omega)) FnIs.out rfl (by decide) ?_
        rintro e_ w_ ⟨b27, rfl, hown_, hb_⟩
        refine ⟨_, rfl, ?_⟩
        rw [dig_2, dig_digK_lt hPb] at hown_
        replace hh := (hh.push_new (x := .row _ _ _ _ _ _) hb_ hown_).sub (.cons_cons _ (.cons _ (List.Sublist.refl _)))
        refine aL (wl_nil (b_norm (k_then (wc_region (mI ?_)))))
        refine addC (aI (wl_nil (k_then ?_)))
        refine ⟨⟨i + 1, _, _, _, _, by omega, rfl, ?_, rfl, by omega, hb2, hh⟩, by show xs.length - (i + 1) < xs.length - i; omega, ?_⟩
        · rw [hsn, hP, Nat.add_mul, Nat.mul_one, Nat.mul_comm (2 ^ i)]
        · (repeat (first | exact agree_mask _ _ _ | refine agree_upd rfl ?_ | refine agree_mask2 rfl ?_))
    · rw [List.take_of_length_le (by omega), hX] at hP
      refine wc_seq (sr (mI (mL (lenC ?_))))
      refine lssC (wl_end (cF ?_))
      refine wc_exit ?_
      refine k_exit (k_exit (b_here (k_then (sr (mL ?_)))))
      refine s_callf (rtext_calls _ _ _ (digK 2 K P) _ (hh.sl_row (i := 0) rfl) (dg_digK (by omega) _ _) (hh.row_cap (i := 0) rfl) (by omega)) FnIs.out rfl (by decide) ?_
      rintro e_ w29 ⟨rfl, hb_⟩
      refine ⟨_, rfl, ?_⟩
      replace hh := hh.ext hb_
      rw [dig_digK_lt hPb, hP]
      refine aS (wl_end (wc_ret ?_))
      refine ret1 (by first | exact .inr rfl | exact .inl rfl) rfl (v_str rfl) ?_
      exact ⟨rfl, hh.below⟩
theorem div_step (X Y k : Nat) (hY : 0 < Y) : X / 2 ^ k % Y = (if Y ≤ X / 2 ^ k % 2 + 2 * (X / 2 ^ (k + 1) % Y) then X / 2 ^ k % 2 + 2 * (X / 2 ^ (k + 1) % Y) - Y else X / 2 ^ k % 2 + 2 * (X / 2 ^ (k + 1) % Y)) ∧
    X / 2 ^ k / Y % 2 = (if Y ≤ X / 2 ^ k % 2 + 2 * (X / 2 ^ (k + 1) % Y) then 1 else 0) ∧ X / 2 ^ k / Y / 2 = X / 2 ^ (k + 1) / Y := by
  have h1 := div_pow_succ X k
  have hb : X / 2 ^ k % 2 < 2 := Nat.mod_lt _ (by omega)
  generalize X / 2 ^ k % 2 = b at *
  generalize X / 2 ^ k = Z at *
  generalize X / 2 ^ (k + 1) = V at *
  have h2 := Nat.div_add_mod V Y
  have h3 := Nat.mod_lt V hY
  generalize V / Y = q at *
  generalize V % Y = r at *
  have e : Z = (b + 2 * r) + Y * (2 * q) := by rw [h1, ← h2, Nat.mul_add, Nat.mul_left_comm]; omega
  rw [e, Nat.add_mul_mod_self_left, Nat.add_mul_div_left _ _ hY]
  by_cases hc : Y ≤ b + 2 * r
  · rw [if_pos hc, if_pos hc]
    have e2 : b + 2 * r = (b + 2 * r - Y) + Y * 1 := by omega
    have h4 : b + 2 * r - Y < Y := by omega
    have h5 : (b + 2 * r) / Y = 1 := by rw [e2, Nat.add_mul_div_left _ _ hY, Nat.div_eq_of_lt h4]
    have h6 : (b + 2 * r) % Y = b + 2 * r - Y := by conv => lhs; rw [e2, Nat.add_mul_mod_self_left, Nat.mod_eq_of_lt h4]
    rw [h5, h6]
    omega
  · rw [if_neg hc, if_neg hc, Nat.mod_eq_of_lt (by omega), Nat.div_eq_of_lt (by omega)]
    omega
theorem rDiv_calls (a b : ByteArray) (w : World) (ha : a.size ≤ 1000000000) (hb : b.size ≤ 1000000000) (hb0 : bN b ≠ 0) :
    Calls Tryz.prog 164 #[.string a, .string b] w fun e w' => e = .returned (.tuple #[.string (sN (bN a / bN b)), .string (sN (bN a % bN b)), .bool true]) ∧ Below w.heap.size w w' := by
  have hh := Hp.start w
  have h1 := bits_len a
  have h2 := bits_len b
  have hX := dig_2 (bN a)
  have hXd := can_2 (bN a)
  have hXl : bN a < 2 ^ (digs 2 (bN a)).length := lt_blen _
  have hYp : 0 < (digs 2 (bN b)).length := blen_pos hb0
  have hget : ∀ k, k < (digs 2 (bN a)).length → (digs 2 (bN a))[k]? = some (bN a / 2 ^ k % 2) := fun k hk => digs_get (by omega) hk
  refine calls_vc (N := 52) (l := [.string a, .string b]) Tryz.func164 rfl rfl (by simp) ?_
  refine sr (aS (aS (aB (wl_end (sr (mS ?_))))))
  refine s_callf (rbits_calls a _ ha) FnIs.out rfl (by decide) ?_
  rintro e_ w13 ⟨A13, c13, rfl, hown_, hb_⟩
  refine ⟨_, rfl, ?_⟩
  replace hh := hh.push_new (x := .row _ _ _ _ _ _) hb_ hown_
  refine mS ?_
  refine s_callf (rbits_calls b _ hb) FnIs.out rfl (by decide) ?_
  rintro e_ w15 ⟨A15, c15, rfl, hown_, hb_⟩
  refine ⟨_, rfl, ?_⟩
  replace hh := hh.push_new (x := .row _ _ _ _ _ _) hb_ hown_
  refine aL (aL (wl_end (wc_seq (sr (mL (lenC ?_))))))
  refine eqlC (wl_end (cF (wc_skip (k_then (sr (mL (lenC ?_)))))))
  refine wl_make hh rfl rfl rfl rfl UIs.out TIs.out rfl (by omega) (by omega) (by decide) ?_
  intro b21 w21 hh
  refine aL (wl_end (sr (aL (wl_end (wc_seq (sr (mL (lenC ?_))))))))
  refine subC (aI (wl_end (wc_block ?_)))
  rw [zrep_u8] at hh
  generalize hxs : digs 2 (bN a) = xs at *
  replace hh := hh.nil_row 5 1
  refine wc_loop2 [10, 11, 25, 26, 27, 28, 29, 30, 31, 32, 33, 34, 35, 36, 37, 38, 39, 40, 41, 42, 43, 44, 45, 46, 47] 10 11
    (fun v j w' => ∃ (k : Nat) (A : Option Addr) (c' : Nat), k ≤ xs.length ∧ j = .int .i64 ((k : Int) - 1) ∧ v = .slice A (digs 2 (bN a / 2 ^ k % bN b)).length c' ∧ Hp w [.row A (digs 2 (bN a / 2 ^ k % bN b)).length c' 5 1 (u8n (digs 2 (bN a / 2 ^ k % bN b))), .row (some ⟨b21, 0, none⟩) xs.length xs.length 5 1 (u8n (List.replicate k 0 ++ digK 2 (xs.length - k) (bN a / 2 ^ k / bN b))), .row A15 (digs 2 (bN b)).length c15 5 1 (u8n (digs 2 (bN b))), .row A13 xs.length c13 5 1 (u8n xs)] w')
    (fun _ j _ => (intOf j + 1).toNat) ?_ ?_
  · refine ⟨xs.length, none, 0, Nat.le_refl _, rfl, ?_, ?_⟩
    · rw [Nat.div_eq_of_lt hXl, Nat.zero_mod, digs_zero (by omega)]; rfl
    · rw [Nat.div_eq_of_lt hXl, Nat.zero_mod, digs_zero (by omega), Nat.sub_self]; simp only [digK, List.append_nil]; exact hh
  · clear hh
    rintro ρ' v j w' ⟨k, A, c', hk, rfl, rfl, hh⟩
    by_cases h0 : k = 0
    · subst h0
      rw [Nat.pow_zero, Nat.div_one, Nat.sub_zero, List.replicate_zero, List.nil_append] at hh
      rw [Nat.pow_zero, Nat.div_one]
      have hq : bN a / bN b < 2 ^ xs.length := Nat.lt_of_le_of_lt (Nat.div_le_self _ _) hXl
      have hrl : (digs 2 (bN a % bN b)).length ≤ (digs 2 (bN b)).length := digs_len_mono (by omega) (Nat.le_of_lt (Nat.mod_lt _ (by omega)))
      refine wc_seq (sr (mI ?_))
      refine geqC (wl_end (cF ?_))
      refine wc_exit ?_
      refine k_exit (k_exit (b_here (k_then (sr (mL ?_)))))
      refine s_callf (rtext_calls _ _ _ (digK 2 xs.length (bN a / bN b)) _ (hh.sl_row (i := 1) rfl) (dg_digK (by omega) _ _) (Nat.le_refl _) (by omega)) FnIs.out rfl (by decide) ?_
      rintro e_ w49 ⟨rfl, hb_⟩
      refine ⟨_, rfl, ?_⟩
      replace hh := hh.ext hb_
      rw [dig_digK_lt hq]
      refine mL ?_
      refine s_callf (rtext_calls _ _ _ (digs 2 (bN a % bN b)) _ (hh.sl_row (i := 0) rfl) (can_2 _) (hh.row_cap (i := 0) rfl) (by omega)) FnIs.out rfl (by decide) ?_
      rintro e_ w51 ⟨rfl, hb_⟩
      refine ⟨_, rfl, ?_⟩
      replace hh := hh.ext hb_
      rw [dig_2]
      refine aS (aS (aB (wl_end (wc_ret ?_))))
      refine ret3 (by first | exact .inr rfl | exact .inl rfl) rfl (v_str rfl) (v_str rfl) (v_bool rfl) ?_
      exact ⟨rfl, hh.below⟩
    · obtain ⟨i, rfl⟩ : ∃ i, k = i + 1 := ⟨k - 1, by omega⟩
      have hji : ((i + 1 : Nat) : Int) - 1 = (i : Int) := by omega
      obtain ⟨d1, d2, d3⟩ := div_step (bN a) (bN b) i (by omega)
      have hgi := u8n_at (hget i (by omega))
      have hdw : bN a / 2 ^ i % 2 < 2 := Nat.mod_lt _ (by omega)
      have hrl : (digs 2 (bN a / 2 ^ (i + 1) % bN b)).length ≤ (digs 2 (bN b)).length := digs_len_mono (by omega) (Nat.le_of_lt (Nat.mod_lt _ (by omega)))
      have hqk : digK 2 (xs.length - i) (bN a / 2 ^ i / bN b) = (bN a / 2 ^ i / bN b % 2) :: digK 2 (xs.length - (i + 1)) (bN a / 2 ^ (i + 1) / bN b) := by
        rw [show xs.length - i = (xs.length - (i + 1)) + 1 by omega, digK, d3]
      rw [hji]
      obtain ⟨g, rfl⟩ := hh.row_some (i := 3) rfl (by omega)
      refine wc_seq (sr (mI ?_))
      refine geqC (wl_end (cT (wc_skip (k_then (wc_seq (wc_block (sr (mL (mI ?_)))))))))
      refine s_indexRow (k := i) UIs.out TIs.size rfl rfl (by omega) (by omega) (by decide) ?_
      refine s_load1 TIs.out rfl (hh.cell_row (i := 3) rfl (by first | assumption | (simp only [Nat.mul_one]; assumption))) (by decide) ?_
      refine wl_buildSlice hh (cs := [_]) UIs.out TIs.out (evp_cons (ev_int rfl) evp_nil) rfl rfl (by decide) (by decide) (by decide) rfl (by decide) ?_
      intro b33 w33 hh
      refine mL ?_
      refine wl_append hh (i := 0) rfl rfl rfl (hh.sl_row (i := 1) rfl) UIs.out TIs.out rfl (by decide) (by first | rfl | exact oneCells_u8n _ | exact oneCells_u64s _ | exact oneCells_i64s _ | exact recs_oneCells NR.one _) (by omega) (by omega) (by decide) ?_
      intro A35 c35 w35 hh
      simp only [List.set_cons_zero] at hh
      have e35 : [Value.int .u8 ((bN a / 2 ^ i % 2 : Nat) : Int)] ++ u8n (digs 2 (bN a / 2 ^ (i + 1) % bN b)) = u8n ((bN a / 2 ^ i % 2) :: digs 2 (bN a / 2 ^ (i + 1) % bN b)) := rfl
      rw [e35] at hh
      generalize hR : bN a / 2 ^ (i + 1) % bN b = R at *
      generalize hbt : bN a / 2 ^ i % 2 = bt at *
      have hdg : Dg 2 (bt :: digs 2 R) := Dg.cons hdw (can_2 _)
      have hcv : cutL (bt :: digs 2 R) = digs 2 (bt + 2 * R) := by rw [cutL_digs (by omega) hdg, dig, dig_2]
      have hll : (bt :: digs 2 R).length = 1 + (digs 2 R).length := by rw [List.length_cons]; omega
      have hcl := cutL_len (bt :: digs 2 R)
      refine s_callf (rcut_calls _ _ _ (bt :: digs 2 R) _ (hh.sl_row (i := 0) rfl) (hh.row_cap (i := 0) rfl) (by omega)) FnIs.out rfl (by decide) ?_
      rintro e_ w36 ⟨rfl, hb_⟩
      refine ⟨_, rfl, ?_⟩
      replace hh := hh.ext hb_
      replace hh := hh.cut8 hll
      rw [hcv] at hh hcl
      rw [hcv]
      refine aL (wl_end (sr (mL (mL ?_))))
      refine s_callf (rcompare_calls _ _ _ _ _ _ (digs 2 (bt + 2 * R)) (digs 2 (bN b)) _ (hh.sl_row (i := 0) rfl) (hh.sl_row (i := 3) rfl) (can_2 _) (can_2 _) (by omega) (by omega)) FnIs.out rfl (by decide) ?_
      rintro e_ w39 ⟨rfl, hb_⟩
      refine ⟨_, rfl, ?_⟩
      replace hh := hh.ext hb_
      rw [dig_2, dig_2]
      by_cases hge : bN b ≤ bt + 2 * R
      · have hc : 0 ≤ cmpN (bt + 2 * R) (bN b) := by unfold cmpN; rw [if_neg (by omega)]; split <;> omega
        rw [if_pos hge] at d1 d2
        have hml : bt + 2 * R - bN b < 2 ^ (digs 2 (bt + 2 * R)).length := Nat.lt_of_le_of_lt (Nat.sub_le _ _) (lt_blen _)
        have hcm : cutL (digK 2 (digs 2 (bt + 2 * R)).length (bt + 2 * R - bN b)) = digs 2 (bt + 2 * R - bN b) := by rw [cutL_digs (by omega) (dg_digK (by omega) _ _), dig_digK_lt hml]
        refine geqC (wl_end (cT (sr (mL (mL ?_)))))
        refine s_callf (rminus_calls _ _ _ _ _ _ (digs 2 (bt + 2 * R)) (digs 2 (bN b)) _ (hh.sl_row (i := 0) rfl) (hh.sl_row (i := 3) rfl) (can_2 _) (can_2 _) (by omega) (by omega) (by rw [dig_2, dig_2]; exact hge)) FnIs.out rfl (by decide) ?_
        rintro e_ w_ ⟨b43, rfl, hown_, hb_⟩
        refine ⟨_, rfl, ?_⟩
        replace hh := hh.push_new (x := .row _ _ _ _ _ _) hb_ hown_
        rw [dig_2, dig_2] at hh
        refine s_callf (rcut_calls _ _ _ (digK 2 (digs 2 (bt + 2 * R)).length (bt + 2 * R - bN b)) _ (hh.sl_row (i := 0) rfl) (Nat.le_refl _) (by omega)) FnIs.out rfl (by decide) ?_
        rintro e_ w44 ⟨rfl, hb_⟩
        refine ⟨_, rfl, ?_⟩
        replace hh := hh.ext hb_
        replace hh := hh.cut8 (length_digK _ _)
        rw [hcm] at hh
        rw [hcm]
        have hql : (u8n (List.replicate (i + 1) 0 ++ digK 2 (xs.length - (i + 1)) (bN a / 2 ^ (i + 1) / bN b))).length = xs.length := by rw [length_u8n, List.length_append, List.length_replicate, length_digK]; omega
        refine aL (wl_end (wc_region (mL (mI ?_))))
        refine s_indexRow (k := i) UIs.out TIs.size rfl rfl (by omega) (by omega) (by decide) ?_
        refine wl_store_row hh (i := 3) (vs := [_]) rfl rfl (ev_int rfl) rfl TIs.out rfl (by rw [hql]; omega) rfl ?_
        intro ws hh
        simp only [List.set_cons_zero, List.set_cons_succ] at hh
        rw [Nat.mul_one, splice_one (by rw [hql]; omega)] at hh
        have hset : (u8n (List.replicate (i + 1) 0 ++ digK 2 (xs.length - (i + 1)) (bN a / 2 ^ (i + 1) / bN b))).set i (.int .u8 1) = u8n (List.replicate i 0 ++ digK 2 (xs.length - i) (bN a / 2 ^ i / bN b)) := by
          have := u8n_set (List.replicate (i + 1) 0 ++ digK 2 (xs.length - (i + 1)) (bN a / 2 ^ (i + 1) / bN b)) i 1
          rw [hqk, d2, ← rep_set]
          exact this
        rw [hset] at hh
        replace hh := hh.sub (.cons_cons _ (.cons _ (.cons _ (List.Sublist.refl _))))
        refine wl_nil (b_norm (k_then (wc_region (mI ?_))))
        refine subC (aI (wl_nil (k_then ?_)))
        refine ⟨⟨i, _, _, by omega, rfl, by rw [d1]; rfl, by rw [d1]; exact hh⟩, by show ((i : Int) - 1 + 1).toNat < ((i : Int) + 1).toNat; omega, ?_⟩
        (repeat (first | exact agree_mask _ _ _ | refine agree_upd rfl ?_ | refine agree_mask2 rfl ?_))
      · have hc : ¬ 0 ≤ cmpN (bt + 2 * R) (bN b) := by rw [cmpN_lt (by omega)]; omega
        rw [if_neg hge] at d1 d2
        refine geqC (wl_end (cF (wc_skip (b_norm (k_then (wc_region (mI ?_)))))))
        refine subC (aI (wl_nil (k_then ?_)))
        have hrep : List.replicate (i + 1) 0 ++ digK 2 (xs.length - (i + 1)) (bN a / 2 ^ (i + 1) / bN b) = List.replicate i 0 ++ digK 2 (xs.length - i) (bN a / 2 ^ i / bN b) := by
          rw [hqk, d2, List.replicate_succ', List.append_assoc]; rfl
        rw [hrep] at hh
        replace hh := hh.sub (.cons_cons _ (.cons _ (List.Sublist.refl _)))
        refine ⟨⟨i, _, _, by omega, rfl, by rw [d1]; rfl, by rw [d1]; exact hh⟩, by show ((i : Int) - 1 + 1).toNat < ((i : Int) + 1).toNat; omega, ?_⟩
        (repeat (first | exact agree_mask _ _ _ | refine agree_upd rfl ?_ | refine agree_mask2 rfl ?_))
end Go.Proofs.YthmmofllajkejaaGreatDoor
