/- Dyadic numbers: the program's numbers and Init's Dyadic. Plain lemmas, no program in sight. -/
import Derived.Test.YthmmofllajkejaaGreatDoorWholeC
namespace Go.Proofs.YthmmofllajkejaaGreatDoor
open Go.RowKit
theorem two_ne : (2 : Rat) ≠ 0 := by decide
theorem two_pos (k : Int) : (0 : Rat) < 2 ^ k := Rat.zpow_pos (by decide)
theorem owp_rat (i p : Int) : (Dyadic.ofIntWithPrec i p).toRat = i * 2 ^ (-p) := Dyadic.toRat_ofIntWithPrec_eq_mul_two_pow
theorem owp_scale (i p : Int) (n : Nat) : Dyadic.ofIntWithPrec (i * 2 ^ n) (p + n) = Dyadic.ofIntWithPrec i p := by
  rw [← Int.shiftLeft_eq]; exact Dyadic.ofIntWithPrec_shiftLeft_add
theorem owp_scale' (i : Int) {p q : Int} {n : Nat} (h : q = p + n) : Dyadic.ofIntWithPrec i p = Dyadic.ofIntWithPrec (i * 2 ^ n) q := by
  subst h; exact (owp_scale i p n).symm
theorem owp_add (i j p : Int) : Dyadic.ofIntWithPrec i p + Dyadic.ofIntWithPrec j p = Dyadic.ofIntWithPrec (i + j) p := by
  rw [← Dyadic.toRat_inj, Dyadic.toRat_add, owp_rat, owp_rat, owp_rat, Rat.intCast_add, Rat.add_mul]
theorem owp_neg (i p : Int) : -Dyadic.ofIntWithPrec i p = Dyadic.ofIntWithPrec (-i) p := Dyadic.neg_ofIntWithPrec
theorem owp_sub (i j p : Int) : Dyadic.ofIntWithPrec i p - Dyadic.ofIntWithPrec j p = Dyadic.ofIntWithPrec (i - j) p := by
  show Dyadic.ofIntWithPrec i p + -Dyadic.ofIntWithPrec j p = _
  rw [owp_neg, owp_add, Int.sub_eq_add_neg]
theorem owp_mul (i j p q : Int) : Dyadic.ofIntWithPrec i p * Dyadic.ofIntWithPrec j q = Dyadic.ofIntWithPrec (i * j) (p + q) := by
  rw [← Dyadic.toRat_inj, Dyadic.toRat_mul, owp_rat, owp_rat, owp_rat, Rat.intCast_mul, Int.neg_add, Rat.zpow_add two_ne]
  grind
theorem owp_lt (i j p : Int) : Dyadic.ofIntWithPrec i p < Dyadic.ofIntWithPrec j p ↔ i < j := by
  rw [← Dyadic.toRat_lt_toRat_iff, owp_rat, owp_rat]
  rw [← Rat.intCast_lt_intCast]
  constructor
  · intro h
    exact Rat.lt_of_mul_lt_mul_right h (Rat.le_of_lt (two_pos _))
  · intro h
    exact Rat.mul_lt_mul_of_pos_right h (two_pos _)
theorem owp_zero (p : Int) : Dyadic.ofIntWithPrec 0 p = 0 := rfl
theorem owp_inj {i j p : Int} (h : Dyadic.ofIntWithPrec i p = Dyadic.ofIntWithPrec j p) : i = j := by
  rcases Int.lt_trichotomy i j with h1 | h1 | h1
  · rw [← owp_lt i j p, h] at h1
    exact absurd h1 (by rw [owp_lt]; omega)
  · exact h1
  · rw [← owp_lt j i p, h] at h1
    exact absurd h1 (by rw [owp_lt]; omega)
theorem owp_eq_zero {i p : Int} (h : Dyadic.ofIntWithPrec i p = 0) : i = 0 := owp_inj (p := p) (by rw [h]; rfl)
theorem odd_owp (n k : Int) (h : n % 2 = 1) : Dyadic.ofOdd n k h = Dyadic.ofIntWithPrec n k := Dyadic.ofOdd_eq_ofIntWithPrec
/-- Where there is an odd number among those that have it with some precision. -/
theorem owp_odd {i p : Int} (h : i ≠ 0) : Dyadic.ofIntWithPrec i p = .ofOdd (i >>> i.trailingZeros) (p - i.trailingZeros) (Int.shiftRight_trailingZeros_mod_two h) := by
  rw [Dyadic.ofIntWithPrec, dif_neg h]
structure NR where
  neg : Bool
  mag : ByteArray
  e : Int
def NR.cells (a : NR) : List Value := [.bool a.neg, .string a.mag, .int .i64 a.e]
theorem NR.len (a : NR) : a.cells.length = 3 := rfl
theorem NR.one (a : NR) : a.cells.all Value.oneCell' = true := rfl
def NR.i (a : NR) : Int := iv a.neg a.mag
def NR.d (a : NR) : Dyadic := Dyadic.ofIntWithPrec a.i (-a.e)
/-- The one form. -/
def nR : Dyadic → NR
  | .zero => ⟨false, ByteArray.mk #[], 0⟩
  | .ofOdd n k _ => ⟨iN n, iM n, -k⟩
theorem nR_zero : nR 0 = ⟨false, ByteArray.mk #[], 0⟩ := rfl
theorem nR_d (x : Dyadic) : (nR x).d = x := by
  cases x with
  | zero => rfl
  | ofOdd n k h =>
    simp only [nR, NR.d, NR.i, iv_of, Int.neg_neg]
    exact (odd_owp n k h).symm
theorem nR_inj {x y : Dyadic} : nR x = nR y ↔ x = y := ⟨fun h => by rw [← nR_d x, h, nR_d], fun h => by rw [h]⟩
theorem nR_ne {x y : Dyadic} (h : x ≠ y) : ¬ nR x = nR y := fun he => h (nR_inj.1 he)
theorem tz_iv (s : Bool) (a : ByteArray) : (iv s a).trailingZeros = tz (bN a) := by
  unfold iv
  split
  · rw [Int.trailingZeros_neg]; rfl
  · rfl
theorem iv_zero (s : Bool) (a : ByteArray) : iv s a = 0 ↔ bN a = 0 := by
  have := iv_abs s a
  omega
theorem make_spec {s : Bool} {a : ByteArray} {e : Int} (h : iv s a ≠ 0) : nR (Dyadic.ofIntWithPrec (iv s a) (-e)) = ⟨iN (iv s a / 2 ^ tz (bN a)), iM (iv s a / 2 ^ tz (bN a)), e + tz (bN a)⟩ := by
  rw [owp_odd h, nR, Int.shiftRight_eq_div_pow, tz_iv]
  have e1 : -(-e - (tz (bN a) : Int)) = e + tz (bN a) := by omega
  rw [e1, Int.natCast_pow]
  rfl
/-- At most so great, and a multiple of so small a power. -/
def Sz (k : Nat) (x : Dyadic) : Prop := ∃ i : Int, x = Dyadic.ofIntWithPrec i k ∧ i.natAbs < 2 ^ (2 * k)
theorem Sz.zero (k : Nat) : Sz k 0 := ⟨0, rfl, by simpa using Nat.pow_pos (by omega)⟩
theorem Sz.mono {k l : Nat} {x : Dyadic} (h : Sz k x) (hl : k ≤ l) : Sz l x := by
  obtain ⟨i, rfl, hi⟩ := h
  refine ⟨i * 2 ^ (l - k), owp_scale' i (by omega), ?_⟩
  rw [Int.natAbs_mul, Int.natAbs_pow]
  have h1 : i.natAbs * 2 ^ (l - k) < 2 ^ (2 * k) * 2 ^ (l - k) := Nat.mul_lt_mul_of_pos_right hi (Nat.pow_pos (by omega))
  rw [← Nat.pow_add] at h1
  exact Nat.lt_of_lt_of_le h1 (Nat.pow_le_pow_right (by omega) (by omega))
theorem Sz.neg {k : Nat} {x : Dyadic} (h : Sz k x) : Sz k (-x) := by
  obtain ⟨i, rfl, hi⟩ := h
  exact ⟨-i, owp_neg _ _, by rw [Int.natAbs_neg]; exact hi⟩
theorem Sz.add {k : Nat} {x y : Dyadic} (hx : Sz k x) (hy : Sz k y) : Sz (k + 1) (x + y) := by
  obtain ⟨i, rfl, hi⟩ := hx
  obtain ⟨j, rfl, hj⟩ := hy
  rw [owp_add]
  refine ⟨(i + j) * 2 ^ 1, owp_scale' _ (by omega), ?_⟩
  have h1 : 2 ^ (2 * (k + 1)) = 4 * 2 ^ (2 * k) := by rw [show 2 * (k + 1) = 2 * k + 2 by omega, Nat.pow_add]; omega
  rw [h1]
  omega
theorem Sz.sub {k : Nat} {x y : Dyadic} (hx : Sz k x) (hy : Sz k y) : Sz (k + 1) (x - y) := hx.add hy.neg
theorem Sz.mul {k l : Nat} {x y : Dyadic} (hx : Sz k x) (hy : Sz l y) : Sz (k + l) (x * y) := by
  obtain ⟨i, rfl, hi⟩ := hx
  obtain ⟨j, rfl, hj⟩ := hy
  rw [owp_mul]
  refine ⟨i * j, by rw [Int.natCast_add], ?_⟩
  rw [Int.natAbs_mul, Nat.mul_add, Nat.pow_add]
  exact Nat.mul_lt_mul'' hi hj
theorem two_pow_le_of_tz {i : Int} (h : i ≠ 0) : 2 ^ i.trailingZeros ≤ i.natAbs := by
  have h1 := Int.two_pow_trailingZeros_dvd h
  have h2 := Int.natAbs_dvd_natAbs.2 h1
  rw [Int.natAbs_pow] at h2
  exact Nat.le_of_dvd (by omega) h2
theorem Sz.nr {k : Nat} {x : Dyadic} (h : Sz k x) : (nR x).mag.size ≤ (2 * k + 7) / 8 ∧ -(k : Int) ≤ (nR x).e ∧ (nR x).e ≤ k := by
  obtain ⟨i, rfl, hi⟩ := h
  by_cases h0 : i = 0
  · subst h0
    rw [owp_zero, nR_zero]
    exact ⟨Nat.zero_le _, (by omega : -(k : Int) ≤ 0), (by omega : (0 : Int) ≤ k)⟩
  · have h2 := two_pow_le_of_tz h0
    rw [owp_odd h0, nR]
    simp only
    refine ⟨?_, by omega, ?_⟩
    · rw [iM_size]
      have : blen (i >>> i.trailingZeros).natAbs ≤ 2 * k := by
        apply blen_le
        refine Nat.lt_of_le_of_lt ?_ hi
        rw [Int.shiftRight_eq_div_pow]
        exact Int.natAbs_ediv_le_natAbs _ _
      omega
    · have h3 : 2 ^ i.trailingZeros < 2 ^ (2 * k) := Nat.lt_of_le_of_lt h2 hi
      have := (Nat.pow_lt_pow_iff_right (by omega)).1 h3
      omega
theorem Sz.raw {a : NR} {m E : Nat} (hm : 8 * a.mag.size ≤ m) (h1 : -(E : Int) ≤ a.e) (h2 : a.e ≤ E) : Sz (m + E) a.d := by
  refine ⟨a.i * 2 ^ (a.e + m + E).toNat, owp_scale' _ (by omega), ?_⟩
  have h3 : a.i.natAbs < 2 ^ m := by
    rw [NR.i, iv_abs]
    refine Nat.lt_of_lt_of_le (lt_blen _) (Nat.pow_le_pow_right (by omega) ?_)
    have := bN_blen a.mag
    omega
  rw [Int.natAbs_mul, Int.natAbs_pow]
  have h4 := Nat.mul_lt_mul_of_pos_right h3 (Nat.pow_pos (n := (a.e + m + E).toNat) (show 0 < 2 by omega))
  rw [← Nat.pow_add] at h4
  exact Nat.lt_of_lt_of_le h4 (Nat.pow_le_pow_right (by omega) (by omega))
/-- A whole number moved by so many bits, down where it is below 0. -/
def shI (i n : Int) : Int := if 0 ≤ n then i * 2 ^ n.toNat else i / 2 ^ (-n).toNat
theorem shI_zero (n : Int) : shI 0 n = 0 := by unfold shI; split <;> simp
/-- A dyadic number as a multiple of 2^-p. -/
def intAt : Dyadic → Int → Int
  | .zero, _ => 0
  | .ofOdd n k _, p => shI n (p - k)
/-- The precision of two. -/
def lvlP : Dyadic → Dyadic → Int
  | .zero, .zero => 0
  | .zero, .ofOdd _ k _ => k
  | .ofOdd _ k _, .zero => k
  | .ofOdd _ k _, .ofOdd _ l _ => max k l
theorem intAt_owp (n k p : Int) (h : n % 2 = 1) (hp : k ≤ p) : Dyadic.ofIntWithPrec (intAt (.ofOdd n k h) p) p = .ofOdd n k h := by
  simp only [intAt]
  rw [odd_owp, shI, if_pos (by omega)]
  exact (owp_scale' n (by omega)).symm
theorem lvl_x (x y : Dyadic) : Dyadic.ofIntWithPrec (intAt x (lvlP x y)) (lvlP x y) = x := by
  cases x with
  | zero => rfl
  | ofOdd n k h =>
    cases y with
    | zero => exact intAt_owp _ _ _ _ (Int.le_refl _)
    | ofOdd m l g => exact intAt_owp _ _ _ _ (Int.le_max_left _ _)
theorem lvl_y (x y : Dyadic) : Dyadic.ofIntWithPrec (intAt y (lvlP x y)) (lvlP x y) = y := by
  cases y with
  | zero => rfl
  | ofOdd n k h =>
    cases x with
    | zero => exact intAt_owp _ _ _ _ (Int.le_refl _)
    | ofOdd m l g => exact intAt_owp _ _ _ _ (Int.le_max_right _ _)
theorem lvl_sum (x y : Dyadic) : Dyadic.ofIntWithPrec (intAt x (lvlP x y) + intAt y (lvlP x y)) (lvlP x y) = x + y := by
  rw [← owp_add, lvl_x, lvl_y]
theorem blen_shI (i n : Int) : blen (shI i n).natAbs ≤ blen i.natAbs + n.toNat := by
  unfold shI
  split
  · rw [Int.natAbs_mul, Int.natAbs_pow]
    exact blen_mul_pow _ _
  · have : blen (i / 2 ^ (-n).toNat).natAbs ≤ blen i.natAbs := blen_le (Nat.lt_of_le_of_lt (Int.natAbs_ediv_le_natAbs _ _) (lt_blen _))
    omega
theorem nR_e (x : Dyadic) : -(nR x).e = match x with | .zero => 0 | .ofOdd _ k _ => k := by
  cases x with
  | zero => rfl
  | ofOdd n k h => simp [nR]
theorem lvlP_bd (x y : Dyadic) (E : Int) (h1 : -E ≤ (nR x).e ∧ (nR x).e ≤ E) (h2 : -E ≤ (nR y).e ∧ (nR y).e ≤ E) : -E ≤ lvlP x y ∧ lvlP x y ≤ E := by
  cases x <;> cases y <;> simp only [nR, lvlP] at * <;> omega
theorem intAt_blen (x : Dyadic) (p : Int) : blen (intAt x p).natAbs ≤ 8 * (nR x).mag.size + (p + (nR x).e).toNat := by
  cases x with
  | zero => simp [intAt, blen_zero]
  | ofOdd n k h =>
    have h1 := blen_shI n (p - k)
    have h2 := bN_blen (iM n)
    rw [iM, bN_sN] at h2
    simp only [intAt, nR]
    rw [show p + -k = p - k by omega]
    rw [← iM] at h2
    omega
end Go.Proofs.YthmmofllajkejaaGreatDoor
