/- Rules for operations on unsigned numbers, told as natural numbers; comparisons kept as truth values; slices cut at their end. Plain lemmas, no program in sight. -/
import Derived.Test.YthmmofllajkejaaGreatDoorMem3
namespace Go.Proofs.YthmmofllajkejaaGreatDoor
open Go.RowKit
/-- An unsigned kind: of so many bits, up to M. -/
class UK (k : IntKind) (b : outParam Nat) (M : outParam Nat) : Prop where
  bits : k.bits = b
  sgn : k.signed = false
  pow : 2 ^ b = M
instance : UK .u8 8 256 := ⟨rfl, rfl, rfl⟩
instance : UK .u16 16 65536 := ⟨rfl, rfl, rfl⟩
instance : UK .u32 32 4294967296 := ⟨rfl, rfl, rfl⟩
instance : UK .u64 64 18446744073709551616 := ⟨rfl, rfl, rfl⟩
theorem UK.wrap {k : IntKind} {b M : Nat} [h : UK k b M] (n : Nat) : k.wrap (n : Int) = ((n % M : Nat) : Int) := by
  unfold IntKind.wrap
  have hM : (2 : Int) ^ k.bits = (M : Int) := by rw [h.bits, ← h.pow]; simp
  simp only [h.sgn, hM, Bool.false_and]
  simp
theorem UK.wrap_lt {k : IntKind} {b M : Nat} [UK k b M] {n : Nat} (hn : n < M) : k.wrap (n : Int) = (n : Int) := by rw [UK.wrap, Nat.mod_eq_of_lt hn]
theorem UK.wrap_add {k : IntKind} {b M : Nat} [h : UK k b M] (z : Int) : k.wrap (z + M) = k.wrap z := by
  unfold IntKind.wrap
  have hM : (2 : Int) ^ k.bits = (M : Int) := by rw [h.bits, ← h.pow]; simp
  simp [hM]
theorem UK.pos {k : IntKind} {b M : Nat} [h : UK k b M] : 0 < M := by rw [← h.pow]; exact Nat.pow_pos (by omega)
section
variable {P : Program} {ρ : Rf} {w : World} {d : Option Nat} {ty : TypeId} {pos : String} {af : Array Edge} {g : Option (Nat × Bool)}
section unats
variable {t u : TypeId} {x y : Operand} {k : IntKind} {q M : Nat} {a b : Nat}
theorem x_addu [UK k q M] (hx : ev ρ x = .int k (a : Int)) (hy : ev ρ y = .int k (b : Int)) : (execOp (ev ρ) ⟨d, .binOp .add t x y u, ty, pos, af, g⟩).run P w = .ok (.value (.int k (((a + b) % M : Nat) : Int))) w := by
  rw [x_add hx hy, ← Int.natCast_add, UK.wrap]
theorem x_subu [UK k q M] (hx : ev ρ x = .int k (a : Int)) (hy : ev ρ y = .int k (b : Int)) (hb : b ≤ M) : (execOp (ev ρ) ⟨d, .binOp .sub t x y u, ty, pos, af, g⟩).run P w = .ok (.value (.int k (((a + M - b) % M : Nat) : Int))) w := by
  rw [x_sub hx hy, ← UK.wrap (k := k)]
  have h : ((a + M - b : Nat) : Int) = (a : Int) - b + M := by omega
  rw [h, UK.wrap_add]
theorem x_mulu [UK k q M] (hx : ev ρ x = .int k (a : Int)) (hy : ev ρ y = .int k (b : Int)) : (execOp (ev ρ) ⟨d, .binOp .mul t x y u, ty, pos, af, g⟩).run P w = .ok (.value (.int k (((a * b) % M : Nat) : Int))) w := by
  rw [x_mul hx hy, ← Int.natCast_mul, UK.wrap]
theorem x_quou [UK k q M] (hx : ev ρ x = .int k (a : Int)) (hy : ev ρ y = .int k (b : Int)) (hb : 0 < b) (ha : a < M) : (execOp (ev ρ) ⟨d, .binOp .quo t x y u, ty, pos, af, g⟩).run P w = .ok (.value (.int k ((a / b : Nat) : Int))) w := by
  rw [x_quo hx hy (by omega), ← Int.ofNat_tdiv, UK.wrap_lt (Nat.lt_of_le_of_lt (Nat.div_le_self _ _) ha)]
theorem x_remu (hx : ev ρ x = .int k (a : Int)) (hy : ev ρ y = .int k (b : Int)) (hb : 0 < b) : (execOp (ev ρ) ⟨d, .binOp .rem t x y u, ty, pos, af, g⟩).run P w = .ok (.value (.int k ((a % b : Nat) : Int))) w := by
  rw [x_rem hx hy (by omega), ← Int.ofNat_tmod]
theorem ofInt_nat (n : Nat) (a : Nat) : BitVec.ofInt n (a : Int) = BitVec.ofNat n a := by simp
theorem x_oru [h : UK k q M] (hx : ev ρ x = .int k (a : Int)) (hy : ev ρ y = .int k (b : Int)) (ha : a < M) (hb : b < M) : (execOp (ev ρ) ⟨d, .binOp .or t x y u, ty, pos, af, g⟩).run P w = .ok (.value (.int k ((a ||| b : Nat) : Int))) w := by
  rw [x_or hx hy, ofInt_nat, ofInt_nat, BitVec.toNat_or, BitVec.toNat_ofNat, BitVec.toNat_ofNat, h.bits, h.pow, Nat.mod_eq_of_lt ha, Nat.mod_eq_of_lt hb, UK.wrap_lt]
  rw [← h.pow] at ha hb ⊢
  exact Nat.or_lt_two_pow ha hb
theorem x_andu [h : UK k q M] (hx : ev ρ x = .int k (a : Int)) (hy : ev ρ y = .int k (b : Int)) (ha : a < M) (hb : b < M) : (execOp (ev ρ) ⟨d, .binOp .and t x y u, ty, pos, af, g⟩).run P w = .ok (.value (.int k ((a &&& b : Nat) : Int))) w := by
  rw [x_and hx hy, ofInt_nat, ofInt_nat, BitVec.toNat_and, BitVec.toNat_ofNat, BitVec.toNat_ofNat, h.bits, h.pow, Nat.mod_eq_of_lt ha, Nat.mod_eq_of_lt hb, UK.wrap_lt]
  exact Nat.lt_of_le_of_lt Nat.and_le_left ha
theorem x_shlu [h : UK k q M] {k' : IntKind} {s : Int} (hx : ev ρ x = .int k (a : Int)) (hy : ev ρ y = .int k' s) (hs : 0 ≤ s ∧ s ≤ q) : (execOp (ev ρ) ⟨d, .binOp .shl t x y u, ty, pos, af, g⟩).run P w = .ok (.value (.int k (((a * 2 ^ s.toNat) % M : Nat) : Int))) w := by
  have e : (a : Int) * 2 ^ (min s.toNat k.bits) = ((a * 2 ^ s.toNat : Nat) : Int) := by
    rw [h.bits, Nat.min_eq_left (by omega), Int.natCast_mul, Int.natCast_pow]; rfl
  rw [x_shl hx hy hs.1, e, UK.wrap]
theorem x_shru [h : UK k q M] {k' : IntKind} {s : Int} (hx : ev ρ x = .int k (a : Int)) (hy : ev ρ y = .int k' s) (hs : 0 ≤ s ∧ s ≤ q) : (execOp (ev ρ) ⟨d, .binOp .shr t x y u, ty, pos, af, g⟩).run P w = .ok (.value (.int k ((a / 2 ^ s.toNat : Nat) : Int))) w := by
  rw [x_shr hx hy hs.1, h.bits, Nat.min_eq_left (by omega), Int.fdiv_eq_ediv_of_nonneg _ (Int.le_of_lt (Int.pow_pos (by omega)))]
  simp
theorem x_shluc [UK k q M] {k' : IntKind} {s m : Nat} (hx : ev ρ x = .int k (a : Int)) (hy : ev ρ y = .int k' (s : Int)) (hs : s ≤ q) (hm : 2 ^ s = m) : (execOp (ev ρ) ⟨d, .binOp .shl t x y u, ty, pos, af, g⟩).run P w = .ok (.value (.int k (((a * m) % M : Nat) : Int))) w := by
  rw [x_shlu hx hy (by omega), ← hm]; rfl
theorem x_shruc [UK k q M] {k' : IntKind} {s m : Nat} (hx : ev ρ x = .int k (a : Int)) (hy : ev ρ y = .int k' (s : Int)) (hs : s ≤ q) (hm : 2 ^ s = m) : (execOp (ev ρ) ⟨d, .binOp .shr t x y u, ty, pos, af, g⟩).run P w = .ok (.value (.int k ((a / m : Nat) : Int))) w := by
  rw [x_shru hx hy (by omega), ← hm]; rfl
theorem x_negu [h : UK k q M] (hx : ev ρ x = .int k (a : Int)) (ha : a ≤ M) : (execOp (ev ρ) ⟨d, .unOp .neg t x, ty, pos, af, g⟩).run P w = .ok (.value (.int k (((M - a) % M : Nat) : Int))) w := by
  rw [x_neg hx, ← UK.wrap (k := k)]
  have e : ((M - a : Nat) : Int) = -(a : Int) + M := by omega
  rw [e, UK.wrap_add]
theorem x_convu [UK k q M] {s t : TypeId} {k' : IntKind} {sd : TypeDesc} (hs : P.underlying s = some sd) (ht : P.underlying t = some (.int k)) (hx : ev ρ x = .int k' (a : Int)) :
    (execOp (ev ρ) ⟨d, .convert s t x, ty, pos, af, g⟩).run P w = .ok (.value (.int k ((a % M : Nat) : Int))) w := by
  rw [x_conv_int hs ht hx, UK.wrap]
theorem x_convu_lt [UK k q M] {s t : TypeId} {k' : IntKind} {sd : TypeDesc} (hs : P.underlying s = some sd) (ht : P.underlying t = some (.int k)) (hx : ev ρ x = .int k' (a : Int)) (ha : a < M) :
    (execOp (ev ρ) ⟨d, .convert s t x, ty, pos, af, g⟩).run P w = .ok (.value (.int k (a : Int))) w := by
  rw [x_conv_int hs ht hx, UK.wrap_lt ha]
end unats
section ints
variable {t u : TypeId} {x y : Operand} {k : IntKind} {a b : Int}
theorem x_lss_v (hx : ev ρ x = .int k a) (hy : ev ρ y = .int k b) : (execOp (ev ρ) ⟨d, .binOp .lss t x y u, ty, pos, af, g⟩).run P w = .ok (.value (.bool (decide (a < b)))) w := by
  by_cases h : a < b
  · rw [x_lss_t hx hy h, decide_eq_true h]
  · rw [x_lss_f hx hy h, decide_eq_false h]
theorem x_leq_v (hx : ev ρ x = .int k a) (hy : ev ρ y = .int k b) : (execOp (ev ρ) ⟨d, .binOp .leq t x y u, ty, pos, af, g⟩).run P w = .ok (.value (.bool (decide (a ≤ b)))) w := by
  by_cases h : a ≤ b
  · rw [x_leq_t hx hy h, decide_eq_true h]
  · rw [x_leq_f hx hy h, decide_eq_false h]
theorem x_gtr_v (hx : ev ρ x = .int k a) (hy : ev ρ y = .int k b) : (execOp (ev ρ) ⟨d, .binOp .gtr t x y u, ty, pos, af, g⟩).run P w = .ok (.value (.bool (decide (b < a)))) w := by
  by_cases h : b < a
  · rw [x_gtr_t hx hy h, decide_eq_true h]
  · rw [x_gtr_f hx hy h, decide_eq_false h]
theorem x_geq_v (hx : ev ρ x = .int k a) (hy : ev ρ y = .int k b) : (execOp (ev ρ) ⟨d, .binOp .geq t x y u, ty, pos, af, g⟩).run P w = .ok (.value (.bool (decide (b ≤ a)))) w := by
  by_cases h : b ≤ a
  · rw [x_geq_t hx hy h, decide_eq_true h]
  · rw [x_geq_f hx hy h, decide_eq_false h]
theorem x_neq_v (hx : ev ρ x = .int k a) (hy : ev ρ y = .int k b) : (execOp (ev ρ) ⟨d, .binOp .neq t x y u, ty, pos, af, g⟩).run P w = .ok (.value (.bool (decide (a ≠ b)))) w := by
  by_cases h : a = b
  · rw [x_neq_f hx hy h, decide_eq_false (by simpa using h)]
  · rw [x_neq_t hx hy h, decide_eq_true h]
end ints
section bools
variable {t u : TypeId} {x y : Operand} {a b : Bool}
theorem x_eqb_t (ht : P.underlying t = some .bool) (hx : ev ρ x = .bool a) (hy : ev ρ y = .bool b) (h : a = b) : (execOp (ev ρ) ⟨d, .binOp .eql t x y u, ty, pos, af, g⟩).run P w = .ok (.value (.bool true)) w := by
  rw [x_eql_bool ht hx hy, h, beq_self_eq_true]
theorem x_eqb_f (ht : P.underlying t = some .bool) (hx : ev ρ x = .bool a) (hy : ev ρ y = .bool b) (h : ¬ a = b) : (execOp (ev ρ) ⟨d, .binOp .eql t x y u, ty, pos, af, g⟩).run P w = .ok (.value (.bool false)) w := by
  rw [x_eql_bool ht hx hy, beq_false_of_ne h]
theorem x_neb_t (ht : P.underlying t = some .bool) (hx : ev ρ x = .bool a) (hy : ev ρ y = .bool b) (h : ¬ a = b) : (execOp (ev ρ) ⟨d, .binOp .neq t x y u, ty, pos, af, g⟩).run P w = .ok (.value (.bool true)) w := by
  rw [x_neq_bool ht hx hy, bne, beq_false_of_ne h]; rfl
theorem x_neb_f (ht : P.underlying t = some .bool) (hx : ev ρ x = .bool a) (hy : ev ρ y = .bool b) (h : a = b) : (execOp (ev ρ) ⟨d, .binOp .neq t x y u, ty, pos, af, g⟩).run P w = .ok (.value (.bool false)) w := by
  rw [x_neq_bool ht hx hy, bne, h, beq_self_eq_true]; rfl
end bools
/-- A place in a slice that was handed in. -/
theorem x_indexSl {t e : TypeId} {x i : Operand} {ad : Addr} {n c sz k : Nat} {kk : IntKind} {m : Int} (ht : P.underlying t = some (.slice e)) (hsz : (P.info? e).map (·.size) = some sz) (hx : ev ρ x = .slice (some ad) n c) (hi : ev ρ i = .int kk m)
    (hm : m = (k : Int)) (h1 : k < n) : (execOp (ev ρ) ⟨d, .indexAddr t x i, ty, pos, af, g⟩).run P w = .ok (.value (.pointer (some (ad.add (k * sz))))) w := by
  rw [x_indexAddr ht hsz hx hi (by omega) (by omega), hm]; rfl
theorem x_indexOff {t e : TypeId} {x i : Operand} {b o n c sz k : Nat} {kk : IntKind} {m : Int} (ht : P.underlying t = some (.slice e)) (hsz : (P.info? e).map (·.size) = some sz) (hx : ev ρ x = .slice (some ⟨b, o, none⟩) n c) (hi : ev ρ i = .int kk m)
    (hm : m = (k : Int)) (h1 : k < n) : (execOp (ev ρ) ⟨d, .indexAddr t x i, ty, pos, af, g⟩).run P w = .ok (.value (.pointer (some ⟨b, o + k * sz, none⟩))) w := by
  rw [x_indexAddr ht hsz hx hi (by omega) (by omega), hm, addr_add]; rfl
theorem x_indexArr {t e : TypeId} {x i : Operand} {ad : Addr} {n sz k : Nat} {kk : IntKind} {m : Int} (ht : P.underlying t = some (.array n e)) (hsz : (P.info? e).map (·.size) = some sz) (hx : ev ρ x = .pointer (some ad)) (hi : ev ρ i = .int kk m)
    (hm : m = (k : Int)) (h1 : k < n) : (execOp (ev ρ) ⟨d, .indexAddr t x i, ty, pos, af, g⟩).run P w = .ok (.value (.pointer (some (ad.add (k * sz))))) w := by
  obtain ⟨i, hi1, hi2⟩ := Option.map_eq_some_iff.1 hsz
  have h2 : (k : Int) < n := by omega
  subst hm
  simp [execOp, hx, hi, Instr.indexAt, asIntOf, run_underlying ht, sizeOf, typeInfo, hi1, hi2, Instr.sureAddr, h1]
/-- A slice's front. -/
theorem x_cutEnd {t e : TypeId} {x hi : Operand} {A : Option Addr} {n c h sz : Nat} {k : IntKind} {m : Int} (ht : P.underlying t = some (.slice e)) (hsz : (P.info? e).map (·.size) = some sz) (hx : ev ρ x = .slice A n c) (hhi : ev ρ hi = .int k m)
    (hm : m = (h : Int)) (h2 : h ≤ c) : (execOp (ev ρ) ⟨d, .slice t x none (some hi) none, ty, pos, af, g⟩).run P w = .ok (.value (.slice A h c)) w := by
  rw [x_slice_sl (lo := none) (hi := some hi) (l := 0) (h := h) ht hsz hx rfl ⟨k, m, hhi, hm⟩ (Nat.zero_le _) h2]
  congr 3
  cases A with
  | none => simp
  | some ad => simp [Addr.add]
/-- A slice's back. -/
theorem x_cutBegin {t e : TypeId} {x lo : Operand} {b o n c l sz : Nat} {k : IntKind} {m : Int} (ht : P.underlying t = some (.slice e)) (hsz : (P.info? e).map (·.size) = some sz) (hx : ev ρ x = .slice (some ⟨b, o, none⟩) n c) (hlo : ev ρ lo = .int k m)
    (hm : m = (l : Int)) (h1 : l ≤ n) (h2 : n ≤ c) (h3 : l < c) : (execOp (ev ρ) ⟨d, .slice t x (some lo) none none, ty, pos, af, g⟩).run P w = .ok (.value (.slice (some ⟨b, o + l * sz, none⟩) (n - l) (c - l))) w := by
  rw [x_slice_sl (lo := some lo) (hi := none) (l := l) (h := n) ht hsz hx ⟨k, m, hlo, hm⟩ rfl h1 h2, if_neg (by omega)]
  simp only [Option.map_some, addr_add]
theorem x_cutBeginA {t e : TypeId} {x lo : Operand} {ad : Addr} {n c l sz : Nat} {k : IntKind} {m : Int} (ht : P.underlying t = some (.slice e)) (hsz : (P.info? e).map (·.size) = some sz) (hx : ev ρ x = .slice (some ad) n c) (hlo : ev ρ lo = .int k m)
    (hm : m = (l : Int)) (h1 : l ≤ n) (h2 : n ≤ c) (h3 : l < c) : (execOp (ev ρ) ⟨d, .slice t x (some lo) none none, ty, pos, af, g⟩).run P w = .ok (.value (.slice (some (ad.add (l * sz))) (n - l) (c - l))) w := by
  rw [x_slice_sl (lo := some lo) (hi := none) (l := l) (h := n) ht hsz hx ⟨k, m, hlo, hm⟩ rfl h1 h2, if_neg (by omega)]
  rfl
end
/-- Reading a slice that was handed in. -/
theorem Rd.at1 {w : World} {ad : Addr} {xs : List Value} {k : Nat} {v : Value} (h : Rd w ad xs) (hx : xs[k]? = some v) : w.cell? (ad.add (k * 1)) = some v := by
  rw [Nat.mul_one]; exact h k v hx
def u64s (l : List Nat) : List Value := l.map fun (d : Nat) => .int .u64 (d : Int)
theorem length_u64s (l : List Nat) : (u64s l).length = l.length := by simp [u64s]
theorem u64s_at {l : List Nat} {k d : Nat} (h : l[k]? = some d) : (u64s l)[k]? = some (.int .u64 (d : Int)) := by simp [u64s, h]
theorem u64s_set (l : List Nat) (k d : Nat) : (u64s l).set k (.int .u64 (d : Int)) = u64s (l.set k d) := by simp [u64s, List.map_set]
theorem u64s_append (a b : List Nat) : u64s (a ++ b) = u64s a ++ u64s b := by simp [u64s]
theorem u64s_take (a : List Nat) (k : Nat) : u64s (a.take k) = (u64s a).take k := by simp [u64s, List.map_take]
theorem u64s_drop (a : List Nat) (k : Nat) : u64s (a.drop k) = (u64s a).drop k := by simp [u64s, List.map_drop]
theorem oneCells_u64s (l : List Nat) : ((u64s l).all Value.oneCell') = true := by simp [u64s, Value.oneCell']
theorem zrep_u64 (n : Nat) : zrep n [Value.int .u64 0] = u64s (List.replicate n 0) := by rw [zrep_one]; simp [u64s]
/-- A byte row told by numbers. -/
def u8n (l : List Nat) : List Value := l.map fun (d : Nat) => .int .u8 (d : Int)
theorem length_u8n (l : List Nat) : (u8n l).length = l.length := by simp [u8n]
theorem u8n_at {l : List Nat} {k d : Nat} (h : l[k]? = some d) : (u8n l)[k]? = some (.int .u8 (d : Int)) := by simp [u8n, h]
theorem u8n_set (l : List Nat) (k d : Nat) : (u8n l).set k (.int .u8 (d : Int)) = u8n (l.set k d) := by simp [u8n, List.map_set]
theorem u8n_append (a b : List Nat) : u8n (a ++ b) = u8n a ++ u8n b := by simp [u8n]
theorem u8n_take (a : List Nat) (k : Nat) : u8n (a.take k) = (u8n a).take k := by simp [u8n, List.map_take]
theorem u8n_drop (a : List Nat) (k : Nat) : u8n (a.drop k) = (u8n a).drop k := by simp [u8n, List.map_drop]
theorem oneCells_u8n (l : List Nat) : ((u8n l).all Value.oneCell') = true := by simp [u8n, Value.oneCell']
theorem zrep_u8 (n : Nat) : zrep n [Value.int .u8 0] = u8n (List.replicate n 0) := by rw [zrep_one]; simp [u8n]
theorem u8n_bytes {l : List Nat} (h : ∀ d ∈ l, d < 256) : u8n l = u8s (l.map UInt8.ofNat) := by
  rw [u8n, u8s, List.map_map]
  apply List.map_congr_left
  intro d hd
  have := h d hd
  simp only [Function.comp, UInt8.toNat_ofNat']
  congr 2
  omega
theorem Sl.at64 {w : World} {ad : Addr} {n : Nat} {ys : List Nat} {k d : Nat} (h : Sl w (some ad) n 1 (u64s ys)) (hd : ys[k]? = some d) : w.cell? (ad.add (k * 1)) = some (.int .u64 (d : Int)) := by
  have hl := h.1
  have hk := (List.getElem?_eq_some_iff.1 hd).1
  rw [length_u64s] at hl
  obtain ⟨ad', he, hr⟩ := h.2 (by omega)
  injection he with he
  subst he
  exact hr.at1 (u64s_at hd)
theorem get_mid {pre done r post : List Nat} {x : Nat} : (pre ++ (done ++ x :: r) ++ post)[pre.length + done.length]? = some x := by
  rw [List.append_assoc, List.getElem?_append_right (by omega), List.append_assoc, List.getElem?_append_right (by omega)]
  simp
theorem set_mid {pre done r post : List Nat} {x y : Nat} : (pre ++ (done ++ x :: r) ++ post).set (pre.length + done.length) y = pre ++ ((done ++ [y]) ++ r) ++ post := by
  rw [List.append_assoc, List.set_append_right _ _ (by omega), List.append_assoc, List.set_append_right _ _ (by omega)]
  simp
/-- Writing into a row: one cell. -/
theorem splice_one {cs : List Value} {o : Nat} {v : Value} (h : o < cs.length) : splice cs o [v] = cs.set o v := by
  unfold splice
  rw [List.set_eq_take_append_cons_drop, if_pos h]
  simp
theorem Hp.front {w0 w : World} {H : List HE} {x : HE} (h : Hp w0 H w) (i : Nat) (hi : H[i]? = some x) : Hp w0 (x :: H.eraseIdx i) w := by
  have hp : H.Perm (x :: H.eraseIdx i) := by
    clear h
    induction H generalizing i with
    | nil => simp at hi
    | cons y H ih =>
      cases i with
      | zero => simp at hi; subst hi; simp
      | succ i =>
        simp only [List.getElem?_cons_succ] at hi
        simp only [List.eraseIdx_cons_succ]
        exact ((ih i hi).cons y).trans (List.Perm.swap x y _)
  exact ⟨h.below, fun y hy => h.own y (hp.mem_iff.2 hy), (hp.filterMap _).nodup_iff.1 h.nd⟩
/-- A row's front alone. -/
theorem Hp.cutRow {w0 w : World} {H : List HE} {A : Option Addr} {n c : Nat} {t : TypeId} {sz : Nat} {xs : List Value} (h : Hp w0 (.row A n c t sz xs :: H) w) {k : Nat} (hk : k ≤ n) : Hp w0 (.row A k c t sz (xs.take (k * sz)) :: H) w := by
  refine ⟨h.below, fun y hy => ?_, h.nd⟩
  rcases List.mem_cons.1 hy with rfl | hy
  · have h1 : w.ownsRow w0.heap.size t sz (.slice A n c) n xs := h.own _ List.mem_cons_self
    obtain ⟨h2, h3⟩ := h1
    have hkn : k * sz ≤ n * sz := Nat.mul_le_mul_right _ hk
    refine ⟨by rw [List.length_take]; omega, ?_⟩
    rcases h3 with ⟨h3, h4⟩ | ⟨g, cap, cur, hv, hb, hg, h4, h5, h6, h7⟩
    · injection h3 with h5 h6 h7
      subst h5 h6 h7
      exact .inl ⟨by rw [show k = 0 by omega], by omega⟩
    · injection hv with h8 h9 h10
      subst h8
      refine .inr ⟨g, cap, cur, by rw [h10], hb, hg, by omega, h5, h6, ?_⟩
      rw [← h7, List.take_take, Nat.min_eq_left hkn]
  · exact h.own y (List.mem_cons_of_mem _ hy)
theorem Hp.row_cap {w0 w : World} {H : List HE} {A : Option Addr} {n c : Nat} {t : TypeId} {sz : Nat} {xs : List Value} {i : Nat} (h : Hp w0 H w) (hi : H[i]? = some (.row A n c t sz xs)) : n ≤ c := by
  have h1 : w.ownsRow w0.heap.size t sz (.slice A n c) n xs := h.at_ hi
  rcases h1.2 with ⟨h3, h4⟩ | ⟨g, cap, cur, hv, hb, hg, h4, h5, h6, h7⟩
  · omega
  · injection hv with h8 h9 h10
    omega
end Go.Proofs.YthmmofllajkejaaGreatDoor
