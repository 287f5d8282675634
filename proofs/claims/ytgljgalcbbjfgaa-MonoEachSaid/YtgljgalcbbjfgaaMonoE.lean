/- All products within some degrees rise; which strings are among them. Plain lemmas, no program in sight. -/
import Derived.Test.YtgljgalcbbjfgaaMonoG
namespace Go.Proofs.Ytgljgalcbbjfgaa
open Go.RowKit
theorem toB_inj {a b : Int} (ha : expOk a = true) (hb : expOk b = true) : toB a = toB b ↔ a = b := by
  have h1 := toB_val ha
  have h2 := toB_val hb
  injection h1 with _ h1
  injection h2 with _ h2
  rw [← UInt8.toNat_inj]
  omega
theorem toB_lt {a b : Int} (ha : expOk a = true) (hb : expOk b = true) (h : a < b) : toB a < toB b := by
  have h1 := toB_val ha
  have h2 := toB_val hb
  injection h1 with _ h1
  injection h2 with _ h2
  rw [UInt8.lt_iff_toNat_lt]
  omega
theorem mem_upTo {d k : Int} : k ∈ upTo' d ↔ 0 ≤ k ∧ k ≤ (d.toNat : Int) := by
  simp only [upTo', List.mem_map, List.mem_range]
  constructor
  · rintro ⟨n, h, rfl⟩; omega
  · intro h; exact ⟨k.toNat, by omega, by omega⟩
theorem rise_upTo (d : Int) : (upTo' d).Pairwise (· < ·) := by
  rw [upTo', List.pairwise_map]
  exact List.pairwise_lt_range.imp (by intro a b h; omega)
/-- They rise. -/
theorem rise_all : ∀ (ds : List Int), (∀ d ∈ ds, 0 ≤ d ∧ d ≤ 127) → (allX ds).Pairwise fun a b => Op.bytesLess (a.map toB) (b.map toB) = true
  | [], _ => by simp [allX]
  | d :: ds, h => by
    have hd := h d List.mem_cons_self
    have ih := rise_all ds fun x hx => h x (List.mem_cons_of_mem _ hx)
    have hok : ∀ k, k ∈ upTo' d → expOk k = true := fun k hk => by
      rw [mem_upTo] at hk
      simp [expOk]; omega
    rw [allX, List.pairwise_flatMap]
    refine ⟨fun k hk => ?_, ?_⟩
    · rw [List.pairwise_map]
      refine ih.imp fun {a b} hab => ?_
      simp [Op.bytesLess, hab]
    · refine (rise_upTo d).imp_of_mem fun {a b} ha hb hab x hx y hy => ?_
      obtain ⟨x', _, rfl⟩ := List.mem_map.1 hx
      obtain ⟨y', _, rfl⟩ := List.mem_map.1 hy
      simp [Op.bytesLess, toB_lt (hok a ha) (hok b hb) hab]
theorem less_irrefl : ∀ a : List UInt8, Op.bytesLess a a = false
  | [] => rfl
  | c :: a => by simp [Op.bytesLess, less_irrefl a]
theorem less_not_ge {a b : List UInt8} (h : Op.bytesLess a b = true) : (!(Op.bytesLess a b)) = false := by rw [h]; rfl
/-- Whether a string is within. -/
def withinL : List UInt8 → List Int → Bool
  | [], [] => true
  | c :: m, d :: ds => decide ((c.toNat : Int) ≤ d) && withinL m ds
  | _, _ => false
theorem within_len : ∀ {m : List UInt8} {ds : List Int}, withinL m ds = true → m.length = ds.length
  | [], [], _ => rfl
  | c :: m, d :: ds, h => by simp only [withinL, Bool.and_eq_true] at h; simp [within_len h.2]
theorem within_snoc : ∀ (m : List UInt8) (ds : List Int) (c : UInt8) (d : Int), m.length = ds.length → withinL (m ++ [c]) (ds ++ [d]) = (withinL m ds && decide ((c.toNat : Int) ≤ d))
  | [], [], c, d, _ => by simp [withinL]
  | x :: m, y :: ds, c, d, h => by simp only [List.cons_append, withinL, within_snoc m ds c d (by simpa using h), Bool.and_assoc]
  | [], _ :: _, _, _, h => by simp at h
  | _ :: _, [], _, _, h => by simp at h
theorem within_take : ∀ (m : List UInt8) (ds : List Int) (k : Nat), withinL m ds = true → withinL (m.take k) (ds.take k) = true
  | [], [], k, _ => by simp [withinL]
  | x :: m, y :: ds, k, h => by
    cases k with
    | zero => simp [withinL]
    | succ k =>
      simp only [withinL, Bool.and_eq_true] at h
      simp only [List.take_succ_cons, withinL, h.1, within_take m ds k h.2, Bool.and_self]
  | [], _ :: _, _, h => by simp [withinL] at h
  | _ :: _, [], _, h => by simp [withinL] at h
theorem mem_all : ∀ (ds : List Int) (m : List UInt8), (∀ d ∈ ds, 0 ≤ d ∧ d ≤ 127) → (m ∈ (allX ds).map (List.map toB) ↔ withinL m ds = true)
  | [], m, _ => by cases m <;> simp [allX, withinL]
  | d :: ds, m, h => by
    have hd := h d List.mem_cons_self
    have ih := fun m => mem_all ds m fun x hx => h x (List.mem_cons_of_mem _ hx)
    simp only [List.mem_map] at ih
    simp only [allX, List.mem_map, List.mem_flatMap]
    constructor
    · rintro ⟨l, ⟨k, hk, l', hl', rfl⟩, rfl⟩
      rw [mem_upTo] at hk
      have hv := toB_val (x := k) (by simp [expOk]; omega)
      injection hv with _ hv
      simp only [List.map_cons, withinL, Bool.and_eq_true, decide_eq_true_eq]
      exact ⟨by omega, (ih _).1 ⟨l', hl', rfl⟩⟩
    · intro hw
      cases m with
      | nil => simp [withinL] at hw
      | cons c m =>
        simp only [withinL, Bool.and_eq_true, decide_eq_true_eq] at hw
        obtain ⟨l', hl', rfl⟩ := (ih m).2 hw.2
        refine ⟨(c.toNat : Int) :: l', ⟨c.toNat, mem_upTo.2 (by omega), l', hl', rfl⟩, ?_⟩
        simp only [List.map_cons]
        congr 1
        simp [toB]
theorem mem_fX {ds : List Int} (h : ∀ d ∈ ds, 0 ≤ d ∧ d ≤ 127) (s : ByteArray) : s ∈ (allX ds).map fX ↔ withinL s.data.toList ds = true := by
  rw [← mem_all ds _ h]
  simp only [List.mem_map]
  constructor
  · rintro ⟨l, hl, rfl⟩
    exact ⟨l, hl, by rw [fX, str_toList]⟩
  · rintro ⟨l, hl, he⟩
    exact ⟨l, hl, by rw [fX, he, str_of]⟩
theorem rise_fX {ds : List Int} (h : ∀ d ∈ ds, 0 ≤ d ∧ d ≤ 127) {k : Nat} {x y : ByteArray} (hx : ((allX ds).map fX)[k]? = some x) (hy : ((allX ds).map fX)[k + 1]? = some y) : Op.bytesLess x.toList y.toList = true := by
  rw [List.getElem?_map, Option.map_eq_some_iff] at hx hy
  obtain ⟨a, ha, rfl⟩ := hx
  obtain ⟨b, hb, rfl⟩ := hy
  obtain ⟨ha1, ha2⟩ := List.getElem?_eq_some_iff.1 ha
  obtain ⟨hb1, hb2⟩ := List.getElem?_eq_some_iff.1 hb
  have := List.pairwise_iff_getElem.1 (rise_all ds h) k (k + 1) ha1 hb1 (by omega)
  rw [ha2, hb2] at this
  rw [ba_toList, ba_toList, fX, fX, str_toList, str_toList]
  exact this
theorem mem_take_step {α : Type} {l : List α} {k : Nat} {x m : α} (h : l[k]? = some x) : (m ∈ l.take (k + 1)) ↔ (m ∈ l.take k ∨ x = m) := by
  rw [take_snoc h, List.mem_append, List.mem_singleton]
  exact ⟨fun h => h.imp id Eq.symm, fun h => h.imp id Eq.symm⟩
/-- Within the limits. -/
theorem okN_of : ∀ (ds : List Int) (n : Int), (∀ d ∈ ds, 0 ≤ d ∧ d ≤ 127) → 0 ≤ n → n * ((allX ds).length : Int) ≤ 65536 → okN n ds = true
  | [], _, _, _, _ => rfl
  | d :: ds, n, h, hn, hl => by
    have hd := h d List.mem_cons_self
    have hp := allX_pos ds
    have hlen : ((allX (d :: ds)).length : Int) = (d + 1) * ((allX ds).length : Int) := by
      have : (allX (d :: ds)).length = (d.toNat + 1) * (allX ds).length := by
        rw [allX, List.length_flatMap]
        simp only [List.length_map, List.map_const', List.sum_replicate_nat, length_upTo]
      rw [this, Int.natCast_mul]
      congr 1
      omega
    rw [hlen, ← Int.mul_assoc] at hl
    have h0 : 0 ≤ n * (d + 1) := Int.mul_nonneg hn (by omega)
    have h1 : n * (d + 1) * 1 ≤ n * (d + 1) * ((allX ds).length : Int) := Int.mul_le_mul_of_nonneg_left (by omega) h0
    simp only [okN, Bool.and_eq_true, decide_eq_true_eq]
    exact ⟨hd.1, hd.2, by omega, okN_of ds _ (fun x hx => h x (List.mem_cons_of_mem _ hx)) h0 hl⟩
end Go.Proofs.Ytgljgalcbbjfgaa
