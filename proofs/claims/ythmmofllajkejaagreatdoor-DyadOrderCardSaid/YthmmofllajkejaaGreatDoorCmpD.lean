/- The order of dyadic numbers: what the law DyadOrder says of it. -/
import Derived.Test.YthmmofllajkejaaGreatDoorDyadC
namespace Go.Proofs.YthmmofllajkejaaGreatDoor
theorem cmpD_of_lt {x y : Dyadic} (h : x < y) : cmpD x y = -1 := by rw [cmpD, if_pos h]
theorem cmpD_of_gt {x y : Dyadic} (h : y < x) : cmpD x y = 1 := by
  have : ¬ x < y := by grind
  rw [cmpD, if_neg this, if_pos h]
theorem cmpD_self (x : Dyadic) : cmpD x x = 0 := by
  have : ¬ x < x := by grind
  rw [cmpD, if_neg this, if_neg this]
theorem d_tri (x y : Dyadic) : x < y ∨ x = y ∨ y < x := by
  rcases Classical.em (x < y) with h | h
  · exact .inl h
  · rcases Classical.em (y < x) with h2 | h2
    · exact .inr (.inr h2)
    · exact .inr (.inl (by grind))
theorem cmpD_swap (x y : Dyadic) : cmpD y x = -cmpD x y := by
  rcases d_tri x y with h | h | h
  · rw [cmpD_of_lt h, cmpD_of_gt h]; rfl
  · rw [h, cmpD_self]; rfl
  · rw [cmpD_of_lt h, cmpD_of_gt h]
theorem cmpD_add (x y z : Dyadic) : cmpD (x + z) (y + z) = cmpD x y := by
  rcases d_tri x y with h | h | h
  · rw [cmpD_of_lt h, cmpD_of_lt (by grind)]
  · rw [h, cmpD_self, cmpD_self]
  · rw [cmpD_of_gt h, cmpD_of_gt (by grind)]
theorem cmpD_mul (x y z : Dyadic) : cmpD (x * z) (y * z) = cmpD x y * cmpD z 0 := by
  have h1 := cmp_sign (intAt x (lvlP x y)) (intAt y (lvlP x y)) (lvlP x y)
  have h2 := sign_d (nR z).i (-(nR z).e)
  have h3 := cmp_sign (intAt x (lvlP x y) * (nR z).i) (intAt y (lvlP x y) * (nR z).i) (lvlP x y + -(nR z).e)
  rw [← owp_mul, ← owp_mul, lvl_x, lvl_y, show Dyadic.ofIntWithPrec (nR z).i (-(nR z).e) = z from nR_d z, ← Int.sub_mul, Int.sign_mul] at h3
  rw [lvl_x, lvl_y] at h1
  rw [show Dyadic.ofIntWithPrec (nR z).i (-(nR z).e) = z from nR_d z] at h2
  rw [← h3, h1, h2]
theorem two_half (x y : Dyadic) : (x + y) * twoD (-1) + (x + y) * twoD (-1) = x + y := by
  have h2 : twoD (-1) + twoD (-1) = 1 := by decide +kernel
  grind
theorem cmpD_mid1 (x y : Dyadic) : cmpD x ((x + y) * twoD (-1)) = cmpD x y := by
  have h := two_half x y
  generalize (x + y) * twoD (-1) = m at *
  rcases d_tri x y with h1 | h1 | h1
  · rw [cmpD_of_lt h1, cmpD_of_lt (by grind)]
  · have : x = m := by grind
    rw [← this, h1]
  · rw [cmpD_of_gt h1, cmpD_of_gt (by grind)]
theorem cmpD_mid2 (x y : Dyadic) : cmpD ((x + y) * twoD (-1)) y = cmpD x y := by
  have h := two_half x y
  generalize (x + y) * twoD (-1) = m at *
  rcases d_tri x y with h1 | h1 | h1
  · rw [cmpD_of_lt h1, cmpD_of_lt (by grind)]
  · have : y = m := by grind
    rw [← this, h1]
  · rw [cmpD_of_gt h1, cmpD_of_gt (by grind)]
theorem cmpD_bd (x y : Dyadic) : -1 ≤ cmpD x y ∧ cmpD x y ≤ 1 := by
  unfold cmpD; split <;> (try split) <;> omega
theorem best_lo (x y z : Dyadic) : bestD (fun x y => decide (x < y)) [x, y, z] ∈ [x, y, z] ∧ ∀ v ∈ [x, y, z], ¬ v < bestD (fun x y => decide (x < y)) [x, y, z] := by
  have e : bestD (fun x y => decide (x < y)) [x, y, z] = if z < (if y < x then y else x) then z else if y < x then y else x := by simp [bestD]
  rw [e]
  simp only [List.mem_cons, List.not_mem_nil, or_false]
  split <;> split <;> refine ⟨by grind, fun v hv => ?_⟩ <;> rcases hv with rfl | rfl | rfl <;> grind
theorem best_hi (x y z : Dyadic) : bestD (fun x y => decide (y < x)) [x, y, z] ∈ [x, y, z] ∧ ∀ v ∈ [x, y, z], ¬ bestD (fun x y => decide (y < x)) [x, y, z] < v := by
  have e : bestD (fun x y => decide (y < x)) [x, y, z] = if (if x < y then y else x) < z then z else if x < y then y else x := by simp [bestD]
  rw [e]
  simp only [List.mem_cons, List.not_mem_nil, or_false]
  split <;> split <;> refine ⟨by grind, fun v hv => ?_⟩ <;> rcases hv with rfl | rfl | rfl <;> grind
end Go.Proofs.YthmmofllajkejaaGreatDoor
