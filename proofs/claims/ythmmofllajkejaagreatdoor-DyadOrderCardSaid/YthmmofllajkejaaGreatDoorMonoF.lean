/- Strings as lists of bytes; exponents. Plain lemmas, no program in sight. -/
import Derived.Test.YthmmofllajkejaaGreatDoorDraw
namespace Go.Proofs.YthmmofllajkejaaGreatDoor
open Go.RowKit
def str (l : List UInt8) : ByteArray := ⟨l.toArray⟩
theorem str_toList (l : List UInt8) : (str l).data.toList = l := by simp [str]
theorem ba_ext {a b : ByteArray} (h : a.data.toList = b.data.toList) : a = b := by
  cases a; cases b; congr 1; exact Array.ext' h
theorem str_of (s : ByteArray) : str s.data.toList = s := ba_ext (str_toList _)
theorem str_size (l : List UInt8) : (str l).size = l.length := by simp [str, ByteArray.size]
theorem ba_size (s : ByteArray) : s.size = s.data.toList.length := (Array.length_toList).symm
theorem ba_toList (s : ByteArray) : s.toList = s.data.toList := by
  unfold ByteArray.toList
  have : ∀ (n i : Nat) (r : List UInt8), s.size - i = n → ByteArray.toList.loop s i r = r.reverse ++ s.data.toList.drop i := by
    intro n
    induction n with
    | zero =>
      intro i r h
      rw [ByteArray.toList.loop, if_neg (by omega), List.drop_of_length_le (by rw [← ba_size]; omega)]
      simp
    | succ n ih =>
      intro i r h
      have hi : i < s.size := by omega
      rw [ByteArray.toList.loop, if_pos hi, ih (i + 1) _ (by omega)]
      have hi2 : i < s.data.toList.length := by rw [← ba_size]; exact hi
      rw [List.drop_eq_getElem_cons hi2]
      have : s.get! i = s.data.toList[i] := by
        show s.data[i]! = _
        rw [getElem!_pos s.data i (by simpa using hi2)]
        simp
      simp [this]
  simpa using this (s.size - 0) 0 [] rfl
theorem str_append (a b : List UInt8) : str a ++ str b = str (a ++ b) := by
  apply ba_ext
  simp [str]
theorem str_inj {a b : List UInt8} : str a = str b ↔ a = b := ⟨fun h => by have := congrArg (fun s => s.data.toList) h; simpa [str] using this, fun h => by rw [h]⟩
def i64s (l : List Int) : List Value := l.map (Value.int .i64)
theorem length_i64s (l : List Int) : (i64s l).length = l.length := by simp [i64s]
theorem i64s_append (a b : List Int) : i64s (a ++ b) = i64s a ++ i64s b := by simp [i64s]
theorem i64s_at {l : List Int} {k : Nat} {x : Int} (h : l[k]? = some x) : (i64s l)[k]? = some (.int .i64 x) := by simp [i64s, h]
theorem u8s_append (a b : List UInt8) : u8s (a ++ b) = u8s a ++ u8s b := by simp [u8s]
theorem oneCells_i64s (l : List Int) : ((i64s l).all Value.oneCell') = true := by simp [i64s, Value.oneCell']
def strs (l : List ByteArray) : List Value := l.map Value.string
theorem length_strs (l : List ByteArray) : (strs l).length = l.length := by simp [strs]
theorem strs_at {l : List ByteArray} {k : Nat} {x : ByteArray} (h : l[k]? = some x) : (strs l)[k]? = some (.string x) := by simp [strs, h]
theorem take_snoc {α : Type} {l : List α} {k : Nat} {x : α} (h : l[k]? = some x) : l.take (k + 1) = l.take k ++ [x] := by rw [List.take_add_one, h]; rfl
theorem get_of_lt {α : Type} {l : List α} {k : Nat} (h : k < l.length) : ∃ x, l[k]? = some x := ⟨_, List.getElem?_eq_getElem h⟩

def mayB (l : List UInt8) : Bool := l.all fun c => decide (c.toNat < 128)
theorem mayB_snoc (l : List UInt8) (c : UInt8) : mayB (l ++ [c]) = (mayB l && decide (c.toNat < 128)) := by simp [mayB]
theorem mayB_bad {l : List UInt8} {k : Nat} {c : UInt8} (h : l[k]? = some c) (hc : ¬ c.toNat < 128) : mayB l = false := by
  rw [← List.take_append_drop (k + 1) l, take_snoc h]
  simp only [mayB, List.all_append]
  simp; omega
theorem mayB_at {l : List UInt8} (h : mayB l = true) {k : Nat} {c : UInt8} (hc : l[k]? = some c) : c.toNat < 128 := by
  have := List.all_eq_true.1 h c (List.mem_of_getElem? hc)
  simpa using this
def expOk (x : Int) : Bool := decide (0 ≤ x) && decide (x ≤ 127)
def toB (x : Int) : UInt8 := UInt8.ofNat x.toNat
/-- the product that exponents are; 3: ErrLimit. -/
def ofL (xs : List Int) : List UInt8 := if xs.all expOk then xs.map toB else []
def ofE (xs : List Int) : Int := if xs.all expOk then 0 else 3
theorem of_bad {xs : List Int} {k : Nat} {x : Int} (hx : xs[k]? = some x) (h : expOk x = false) : ofL xs = [] ∧ ofE xs = 3 := by
  have : xs.all expOk = false := by
    cases hc : xs.all expOk with
    | false => rfl
    | true => rw [List.all_eq_true.1 hc x (List.mem_of_getElem? hx)] at h; cases h
  simp [ofL, ofE, this]
theorem of_good {xs : List Int} (h : xs.all expOk = true) : ofL xs = xs.map toB ∧ ofE xs = 0 := by simp [ofL, ofE, h]
theorem all_snoc {α : Type} {p : α → Bool} {l : List α} {k : Nat} {x : α} (h : l[k]? = some x) (h1 : (l.take k).all p = true) (h2 : p x = true) : (l.take (k + 1)).all p = true := by
  rw [take_snoc h, List.all_append, h1]; simp [h2]
theorem wrap_u8 {x : Int} (h : 0 ≤ x) (h2 : x ≤ 255) : IntKind.u8.wrap x = x := by
  have : IntKind.u8.wrap x = x % 256 := rfl
  rw [this]; omega
theorem toB_val {x : Int} (h : expOk x = true) : Value.int .u8 x = .int .u8 (toB x).toNat := by
  simp only [expOk, Bool.and_eq_true, decide_eq_true_eq] at h
  congr 1
  simp only [toB, UInt8.toNat_ofNat']
  omega
theorem u8s_snoc {xs : List Int} {k : Nat} {x : Int} (hx : xs[k]? = some x) (h : expOk x = true) : u8s ((xs.take k).map toB) ++ [.int .u8 x] = u8s ((xs.take (k + 1)).map toB) := by
  rw [take_snoc hx, List.map_append, u8s_append, toB_val h]; rfl
def ints (l : List UInt8) : List Int := l.map fun c => (c.toNat : Int)
def expsL (l : List UInt8) : List Int := if mayB l then ints l else []
def degL (l : List UInt8) : Int := (expsL l).sum
theorem length_ints (l : List UInt8) : (ints l).length = l.length := by simp [ints]
theorem oneCells_u8s (l : List UInt8) : ((u8s l).all Value.oneCell') = true := by simp [u8s, Value.oneCell']
theorem i64s_ints_snoc {l : List UInt8} {k : Nat} {c : UInt8} (h : l[k]? = some c) : i64s (ints (l.take k)) ++ [.int .i64 c.toNat] = i64s (ints (l.take (k + 1))) := by
  rw [take_snoc h]; simp [i64s, ints]
def lenOf : Value → Nat | .slice _ n _ => n | _ => 0
theorem exps_good {l : List UInt8} (h : mayB l = true) : expsL l = ints l := by simp [expsL, h]
theorem exps_bad {l : List UInt8} (h : mayB l = false) : expsL l = [] := by simp [expsL, h]
theorem length_exps (l : List UInt8) : (expsL l).length ≤ l.length := by unfold expsL; split <;> simp [ints]
theorem ints_at {l : List UInt8} {k : Nat} {c : UInt8} (h : l[k]? = some c) : (ints l)[k]? = some (c.toNat : Int) := by simp [ints, h]
theorem sum_snoc {l : List Int} {k : Nat} {x : Int} (h : l[k]? = some x) : (l.take (k + 1)).sum = (l.take k).sum + x := by rw [take_snoc h]; simp
theorem exps_bd {l : List UInt8} {k : Nat} {x : Int} (h : (expsL l)[k]? = some x) : 0 ≤ x ∧ x ≤ 127 := by
  unfold expsL at h
  split at h
  · rename_i hm
    simp only [ints, List.getElem?_map, Option.map_eq_some_iff] at h
    obtain ⟨c, hc, rfl⟩ := h
    have := mayB_at hm hc
    omega
  · simp at h
theorem sum_bd {l : List Int} (B : Int) (hB : 0 ≤ B) (h : ∀ (k : Nat) (x : Int), l[k]? = some x → 0 ≤ x ∧ x ≤ B) : ∀ k, 0 ≤ (l.take k).sum ∧ (l.take k).sum ≤ k * B
  | 0 => by simp
  | k + 1 => by
    obtain ⟨h1, h2⟩ := sum_bd B hB h k
    rcases Nat.lt_or_ge k l.length with hk | hk
    · obtain ⟨x, hx⟩ := get_of_lt hk
      rw [sum_snoc hx]
      have := h k x hx
      have e : ((k + 1 : Nat) : Int) * B = k * B + B := by rw [Int.natCast_succ, Int.add_mul, Int.one_mul]
      omega
    · rw [List.take_of_length_le (by omega)]
      rw [List.take_of_length_le hk] at h1 h2
      have e : ((k + 1 : Nat) : Int) * B = k * B + B := by rw [Int.natCast_succ, Int.add_mul, Int.one_mul]
      omega
/-- two strings side by side; none: they may not be, or are unlike long. -/
def bothL (f : Int → Int → Int) (a b : List UInt8) : Option (List Int) :=
  if mayB a && (mayB b && decide ((b.length : Int) = a.length)) then some (List.zipWith f (ints a) (ints b)) else none
def mulL (a b : List UInt8) : List UInt8 × Int :=
  match bothL (· + ·) a b with | some l => (ofL l, ofE l) | none => ([], 1)
def divL (a b : List UInt8) : List UInt8 × Bool :=
  match bothL (· - ·) a b with | some l => (ofL l, decide (ofE l = 0)) | none => ([], false)
theorem zip_at {f : Int → Int → Int} {a b : List Int} {k : Nat} {x y : Int} (hx : a[k]? = some x) (hy : b[k]? = some y) : (List.zipWith f a b)[k]? = some (f x y) := by
  simp [List.getElem?_zipWith, hx, hy]
/-- what stands in the row after k rounds. -/
def mixL (f : Int → Int → Int) (a b : List Int) (k : Nat) : List Int := (List.zipWith f a b).take k ++ b.drop k
theorem mix_zero (f : Int → Int → Int) (a b : List Int) : mixL f a b 0 = b := by simp [mixL]
theorem mix_len {f : Int → Int → Int} {a b : List Int} (h : a.length = b.length) {k : Nat} (hk : k ≤ b.length) : (mixL f a b k).length = b.length := by
  simp [mixL, h]; omega
theorem mix_at {f : Int → Int → Int} {a b : List Int} (h : a.length = b.length) {k : Nat} {y : Int} (hy : b[k]? = some y) : (mixL f a b k)[k]? = some y := by
  have hk : k < b.length := (List.getElem?_eq_some_iff.1 hy).1
  unfold mixL
  rw [List.getElem?_append_right (by simp [h]; omega)]
  simp [h, Nat.min_eq_left (Nat.le_of_lt hk), hy]
theorem mix_set {f : Int → Int → Int} {a b : List Int} (h : a.length = b.length) {k : Nat} {x y : Int} (hx : a[k]? = some x) (hy : b[k]? = some y) :
    splice (i64s (mixL f a b k)) k [.int .i64 (f x y)] = i64s (mixL f a b (k + 1)) := by
  have hk : k < b.length := (List.getElem?_eq_some_iff.1 hy).1
  have hl : ((List.zipWith f a b).take k).length = k := by simp [h]; omega
  have e1 : (mixL f a b k).take k = (List.zipWith f a b).take k := by
    unfold mixL; rw [List.take_append_of_le_length (by omega), List.take_of_length_le (by omega)]
  have e2 : (mixL f a b k).drop (k + 1) = b.drop (k + 1) := by
    unfold mixL
    rw [List.drop_append, hl, List.drop_of_length_le (by omega), show k + 1 - k = 1 by omega, List.drop_drop]
    simp
  simp only [splice, i64s, ← List.map_take, ← List.map_drop, List.length_cons, List.length_nil, Nat.zero_add, e1, e2]
  unfold mixL
  rw [take_snoc (zip_at hx hy)]
  simp
theorem mix_full {f : Int → Int → Int} {a b : List Int} (h : a.length = b.length) : mixL f a b b.length = List.zipWith f a b := by
  unfold mixL
  rw [List.take_of_length_le (by simp [h]), List.drop_length, List.append_nil]
theorem i64s_set_at {l : List Int} {k : Nat} {x : Int} (h : l[k]? = some x) : (i64s l)[k]? = some (.int .i64 x) := i64s_at h
end Go.Proofs.YthmmofllajkejaaGreatDoor
