/- The walks through the document's answer for dyadic numbers (ogeeref04): powers, floors, the least and the greatest. -/
import Derived.Test.YthmmofllajkejaaGreatDoorRDyB
namespace Go.Proofs.YthmmofllajkejaaGreatDoor
open Go.RowKit
-- umode
theorem Sz.pow {k : Nat} {x : Dyadic} (h : Sz k x) (n : Nat) : Sz (1 + k * n) (x ^ n) := by
  induction n with
  | zero => rw [Dyadic.pow_zero]; exact Sz.one
  | succ n ih => rw [Dyadic.pow_succ]; exact (ih.mul h).mono (by rw [Nat.mul_succ]; omega)
theorem ceil_cut {x : Dyadic} {p : Int} (hx : x ≠ 0) (h : ¬ -p ≤ (nR x).e) : -((-x).roundDown p) = x.roundDown p + Dyadic.ofIntWithPrec 1 p ∧ x.roundDown p ≠ x := by
  have h2 : ¬ -p ≤ (nR (-x)).e := by rw [(neg_bd x).2]; exact h
  rw [floor_cut h, floor_cut h2, owp_neg, owp_add]
  cases x with
  | zero => exact absurd rfl hx
  | ofOdd n k hn =>
    simp only [nR] at h
    obtain ⟨l, hl⟩ := Int.eq_ofNat_of_zero_le (show 0 ≤ k - p - 1 by omega)
    have e1 : intAt (.ofOdd n k hn) p = n / 2 ^ (l + 1) := by
      simp only [intAt, shI]
      rw [if_neg (by omega), show (-(p - k)).toNat = l + 1 by omega]
    have e2 : intAt (-.ofOdd n k hn) p = (-n) / 2 ^ (l + 1) := by
      show intAt (.ofOdd (-n) k _) p = _
      simp only [intAt, shI]
      rw [if_neg (by omega), show (-(p - k)).toNat = l + 1 by omega]
    have hpos : (0 : Int) < 2 ^ (l + 1) := Int.pow_pos (by omega)
    have hdm : 2 ^ (l + 1) * (n / 2 ^ (l + 1)) + n % 2 ^ (l + 1) = n := Int.mul_ediv_add_emod _ _
    have hm0 : n % 2 ^ (l + 1) ≠ 0 := fun h0 => by
      rw [h0, Int.pow_succ, Int.mul_comm (2 ^ l), Int.mul_assoc] at hdm
      omega
    have hm1 : 0 ≤ n % 2 ^ (l + 1) := Int.emod_nonneg _ (by omega)
    have hm2 : n % 2 ^ (l + 1) < 2 ^ (l + 1) := Int.emod_lt_of_pos _ hpos
    have e3 : (-n) / 2 ^ (l + 1) = -(n / 2 ^ (l + 1)) - 1 := by
      refine ((Int.ediv_emod_unique (r := 2 ^ (l + 1) - n % 2 ^ (l + 1)) hpos).2 ⟨?_, by omega, by omega⟩).1
      rw [Int.mul_sub, Int.mul_neg, Int.mul_one]
      omega
    rw [e1, e2, e3]
    refine ⟨by congr 1; omega, fun he => ?_⟩
    rw [odd_owp, owp_scale' (n / 2 ^ (l + 1)) (show k = p + ((l + 1 : Nat) : Int) by omega)] at he
    have h3 := owp_inj he
    rw [Int.mul_comm] at h3
    omega
theorem ceil_keep {x : Dyadic} {p : Int} (h : x.roundDown p = x) : -((-x).roundDown p) = x := by
  have hn : -(-x) = x := by grind
  by_cases hx : x = 0
  · rw [hx]; rfl
  · by_cases hk : -p ≤ (nR x).e
    · rw [floor_keep (by rw [(neg_bd x).2]; exact hk), hn]
    · exact absurd h (ceil_cut hx hk).2
theorem ceil_step {x : Dyadic} {p : Int} (h : x.roundDown p ≠ x) : -((-x).roundDown p) = x.roundDown p + Dyadic.ofIntWithPrec 1 p := by
  refine (ceil_cut (fun h0 => h (by rw [h0]; rfl)) fun hk => h (floor_keep hk)).1
theorem Sz.floor {k : Nat} {x : Dyadic} {p : Int} (h : Sz k x) (h1 : -(k : Int) ≤ p) (h2 : p ≤ k) : Sz (3 * k + 14) (x.roundDown p) := by
  by_cases hk : -p ≤ (nR x).e
  · rw [floor_keep hk]; exact h.mono (by omega)
  · rw [floor_cut hk]
    have hb := intAt_blen x p
    have hn := h.nr
    have := Sz.raw (a := ⟨iN (intAt x p), iM (intAt x p), -p⟩) (m := 2 * k + 14) (E := k) (by simp only [iM_size]; omega) (by simp only []; omega) (by simp only []; omega)
    rw [NR.d, NR.i, iv_of, Int.neg_neg] at this
    exact this.mono (by omega)
theorem Sz.two {k : Nat} {p : Int} (h1 : -(k : Int) ≤ p) (h2 : p ≤ k) : Sz (k + 8) (Dyadic.ofIntWithPrec 1 p) := by
  have := Sz.raw (a := ⟨iN 1, iM 1, -p⟩) (m := 8) (E := k) (by show 8 * (iM 1).size ≤ 8; decide) (by simp only []; omega) (by simp only []; omega)
  rw [NR.d, NR.i, iv_of, Int.neg_neg] at this
  exact this.mono (by omega)
theorem cmpD_zero (x y : Dyadic) : cmpD x y = 0 ↔ x = y := by
  unfold cmpD
  constructor
  · intro h
    split at h
    · omega
    · split at h
      · omega
      · grind
  · rintro rfl
    have : ¬ x < x := by grind
    simp [this]
end Go.Proofs.YthmmofllajkejaaGreatDoor
