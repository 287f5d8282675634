/- Several texts in one: OpsC, Dig, MonoF. -/
import Derived.Test.YthmmofllajkejaaGreatDoorCore
import Init
import Derived.Test.YthmmofllajkejaaGreatDoorDraws
/- Rules for copy. Plain lemmas, no program in sight. -/
namespace Go.Proofs.YthmmofllajkejaaGreatDoor
open Go.RowKit
section
variable {P : Program} {N : Nat} {ops : Array Oper} {Q : Kq} {ρ : Rf} {w w0 : World} {rest : List Oper} {H : List HE} {d : Nat} {ty : TypeId} {pos : String} {af : Array Edge}
/-- copy into a row of one's own. -/
theorem wl_copy (hh : Hp w0 H w) {t s e : TypeId} {x y : Operand} {i b o m c dl dc n cy sz by' : Nat} {ag : Bool} {B : Option Addr} {zc xs news : List Value} (hi : H[i]? = some (.row (some ⟨b, 0, none⟩) m c e sz xs)) (hx : ev ρ x = .slice (some ⟨b, o, none⟩) dl dc) (hy : ev ρ y = .slice B n cy)
    (hsl : Sl w B n sz news) (ht : P.underlying t = some (.slice e)) (hte : tinfo P e = some (sz, ag, by', zc)) (ho : o + min n dl * sz ≤ xs.length) (h1 : (news.all Value.oneCell') = true) (hN : d < N)
    (kk : ∀ w', Hp w0 (H.set i (.row (some ⟨b, 0, none⟩) m c e sz (splice xs o (news.take (min n dl * sz))))) w' → WL P N ops Q rest (upd ρ d (.int .i64 ((min n dl : Nat) : Int))) w') :
    WL P N ops Q (⟨some d, .call ⟨.builtin .copy, #[x, y], #[t, s]⟩, ty, pos, af, none⟩ :: rest) ρ w := by
  obtain ⟨inf, z, dd, hti, hd, hz, hsz, hby, hzc, _⟩ := tinfo_spec hte
  have hrow := hh.at_ hi
  obtain ⟨hlen, h2⟩ := hrow
  have hnl := hsl.1
  have hmin : min n dl * sz ≤ n * sz := Nat.mul_le_mul_right _ (Nat.min_le_left _ _)
  have hvl : (news.take (min n dl * sz)).length = min n dl * sz := by rw [List.length_take]; omega
  have h1' : ∀ v ∈ news.take (min n dl * sz), v.oneCell' = true := fun v hv => List.all_eq_true.1 h1 v (List.mem_of_mem_take hv)
  have hcells : (Builtin.firstCells sz (min n dl) (.slice B n cy)).run P w = .ok (news.take (min n dl * sz)).toArray w := by
    cases B with
    | none =>
      have h0 : n = 0 := by
        rcases Nat.eq_zero_or_pos n with h0 | h0
        · exact h0
        · obtain ⟨ad, h1, _⟩ := hsl.2 h0; cases h1
      subst h0
      simp [Builtin.firstCells]
    | some ad =>
      have hrd : ∀ j u, (news.take (min n dl * sz))[j]? = some u → w.cell? (ad.add j) = some u := by
        intro j u hj
        rw [List.getElem?_take] at hj
        split at hj
        · rcases Nat.eq_zero_or_pos n with h0 | h0
          · subst h0
            have : news = [] := List.eq_nil_of_length_eq_zero (by simpa using hnl)
            simp [this] at hj
          · obtain ⟨ad', he, hr'⟩ := hsl.2 h0
            injection he with he
            subst he
            exact hr' j u hj
        · cases hj
      have := run_loadCells_list (P := P) w ad _ hrd
      rw [hvl] at this
      simpa [Builtin.firstCells] using this
  generalize news.take (min n dl * sz) = vs at hvl h1' hcells kk
  rw [← hvl] at ho
  rcases h2 with ⟨h2, _⟩ | ⟨g, cap, cur, hv, hg, hheap, hmc, hcm, hcur, htake⟩
  · injection h2 with h2; cases h2
  · injection hv with hA hn hcap
    injection hA with hA
    injection hA with hA
    subst hA; subst hcap
    have hcl : cur.size = cur.toList.length := by simp
    have hle : m * sz ≤ c * sz := Nat.mul_le_mul_right _ hmc
    obtain ⟨w', hr, hb', hgr, hs⟩ := run_store_blk (P := P) (b := b) (t := e) (fz := (0, 0)) o vs 0 cur.toList w (by simpa using hheap) (.inr (Nat.le_refl _)) (by rw [← hcl]; omega) h1'
    refine wl_val rfl rfl hN (w' := w') (v := .int .i64 ((min n dl : Nat) : Int)) ?_ (kk w' (hh.grown hi hgr (.inl rfl) ⟨by rw [length_splice (by omega)]; exact hlen, .inr ⟨b, c, (splice cur.toList o vs).toArray, rfl, hg, by simpa using hb', hmc, hcm, ?_, ?_⟩⟩))
    · have hmm : Nat.min n dl = min n dl := rfl
      simp only [execOp, resolve, invoke, hx, hy, List.map_toArray, List.map_cons, List.map_nil]
      simp [builtin, Builtin.copy_, run_underlying ht, Builtin.lenOf, sizeOf, typeInfo, hti, hsz, hmm, hcells, hr, goInt]
    · simp only [List.size_toArray]
      rw [length_splice (by rw [← hcl]; omega), ← hcl, hcur]
    · simp only [splice]
      rw [← htake]
      have h5 : o + vs.length ≤ m * sz := by omega
      have h6 : m * sz ≤ cur.toList.length := by rw [← hcl, hcur]; exact hle
      rw [List.take_take, Nat.min_eq_left (by omega), List.drop_take, List.append_assoc, List.append_assoc, List.take_append, List.take_append]
      simp only [List.length_take, Nat.min_eq_left (show o ≤ cur.toList.length by omega)]
      rw [List.take_of_length_le (l := cur.toList.take o) (by simp; omega), List.take_of_length_le (l := vs) (by omega)]
      congr 2
      congr 1
      omega
end
end Go.Proofs.YthmmofllajkejaaGreatDoor

/- Digits to a base: numbers as lists of digits, sums, differences, bytes and limbs. Plain lemmas, no program in sight. -/
namespace Go.Proofs.YthmmofllajkejaaGreatDoor
/-- A number of its digits to a base, the lowest first. -/
def dig (B : Nat) : List Nat → Nat
  | [] => 0
  | d :: l => d + B * dig B l
/-- Its first k digits. -/
def digK (B : Nat) : Nat → Nat → List Nat
  | 0, _ => []
  | k + 1, n => n % B :: digK B k (n / B)
/-- Without noughts at the end. -/
def cutL : List Nat → List Nat
  | [] => []
  | d :: l => match cutL l with
    | [] => if d = 0 then [] else [d]
    | e :: m => d :: e :: m
/-- A number's digits, without a nought at the end. -/
def digs (B n : Nat) : List Nat := cutL (digK B (n.log2 + 1) n)
/-- All are digits. -/
def Dg (B : Nat) (l : List Nat) : Prop := ∀ d ∈ l, d < B
section
variable {B : Nat}
theorem Dg.nil : Dg B [] := fun _ h => (nomatch h)
theorem Dg.cons {d : Nat} {l : List Nat} (h : d < B) (hl : Dg B l) : Dg B (d :: l) := fun x hx => by
  rcases List.mem_cons.1 hx with rfl | hx
  · exact h
  · exact hl x hx
theorem Dg.head {d : Nat} {l : List Nat} (h : Dg B (d :: l)) : d < B := h d List.mem_cons_self
theorem Dg.tail {d : Nat} {l : List Nat} (h : Dg B (d :: l)) : Dg B l := fun x hx => h x (List.mem_cons_of_mem _ hx)
theorem Dg.append {l m : List Nat} (h : Dg B l) (h' : Dg B m) : Dg B (l ++ m) := fun x hx => by
  rcases List.mem_append.1 hx with hx | hx
  · exact h x hx
  · exact h' x hx
theorem Dg.sub {l m : List Nat} (h : Dg B l) (h' : m.Sublist l) : Dg B m := fun x hx => h x (h'.subset hx)
theorem Dg.take {l : List Nat} (h : Dg B l) (n : Nat) : Dg B (l.take n) := h.sub (List.take_sublist n l)
theorem Dg.drop {l : List Nat} (h : Dg B l) (n : Nat) : Dg B (l.drop n) := h.sub (List.drop_sublist n l)
theorem Dg.at_ {l : List Nat} (h : Dg B l) {i d : Nat} (hi : l[i]? = some d) : d < B := h d (List.mem_of_getElem? hi)
theorem Dg.set_ {l : List Nat} (h : Dg B l) (i : Nat) {d : Nat} (hd : d < B) : Dg B (l.set i d) := fun x hx => by
  rcases List.mem_or_eq_of_mem_set hx with hx | rfl
  · exact h x hx
  · exact hd
theorem Dg.zeros (hB : 0 < B) (n : Nat) : Dg B (List.replicate n 0) := fun x hx => by rw [List.eq_of_mem_replicate hx]; exact hB
theorem dig_append (l m : List Nat) : dig B (l ++ m) = dig B l + B ^ l.length * dig B m := by
  induction l with
  | nil => simp [dig]
  | cons d l ih => simp only [List.cons_append, dig, ih, List.length_cons, Nat.pow_succ]; rw [Nat.mul_add, Nat.add_assoc]; congr 2; rw [← Nat.mul_assoc, Nat.mul_comm B]
theorem dig_lt {l : List Nat} (h : Dg B l) : dig B l < B ^ l.length := by
  induction l with
  | nil => simp [dig]
  | cons d l ih =>
    have h1 := ih h.tail
    have h2 := h.head
    simp only [dig, List.length_cons, Nat.pow_succ]
    calc d + B * dig B l < B + B * dig B l := by omega
      _ = B * (dig B l + 1) := by rw [Nat.mul_add, Nat.mul_one, Nat.add_comm]
      _ ≤ B * B ^ l.length := Nat.mul_le_mul_left _ h1
      _ = B ^ l.length * B := Nat.mul_comm _ _
theorem dig_zeros (n : Nat) : dig B (List.replicate n 0) = 0 := by
  induction n with
  | zero => rfl
  | succ n ih => simp [List.replicate_succ, dig, ih]
theorem length_digK (k n : Nat) : (digK B k n).length = k := by
  induction k generalizing n with
  | zero => rfl
  | succ k ih => simp [digK, ih]
theorem dg_digK (hB : 0 < B) (k n : Nat) : Dg B (digK B k n) := by
  induction k generalizing n with
  | zero => exact Dg.nil
  | succ k ih => exact Dg.cons (Nat.mod_lt _ hB) (ih _)
theorem dig_digK (k n : Nat) : dig B (digK B k n) = n % B ^ k := by
  induction k generalizing n with
  | zero => simp [digK, dig, Nat.mod_one]
  | succ k ih => rw [digK, dig, ih, Nat.pow_succ, Nat.mul_comm (B ^ k), Nat.mod_mul]
theorem dig_digK_lt {k n : Nat} (h : n < B ^ k) : dig B (digK B k n) = n := by rw [dig_digK, Nat.mod_eq_of_lt h]
theorem digK_dig {l : List Nat} (h : Dg B l) : digK B l.length (dig B l) = l := by
  induction l with
  | nil => rfl
  | cons d l ih =>
    have hd := h.head
    simp only [List.length_cons, digK, dig]
    rw [Nat.add_mul_mod_self_left, Nat.mod_eq_of_lt hd, Nat.add_mul_div_left _ _ (by omega), Nat.div_eq_of_lt hd, Nat.zero_add, ih h.tail]
theorem dig_inj {l m : List Nat} (hl : Dg B l) (hm : Dg B m) (hlen : l.length = m.length) (h : dig B l = dig B m) : l = m := by
  rw [← digK_dig hl, ← digK_dig hm, hlen, h]
theorem digK_get (k n i : Nat) (h : i < k) : (digK B k n)[i]? = some (n / B ^ i % B) := by
  induction k generalizing n i with
  | zero => omega
  | succ k ih =>
    cases i with
    | zero => simp [digK]
    | succ i => simp only [digK, List.getElem?_cons_succ]; rw [ih _ _ (by omega), Nat.div_div_eq_div_mul, Nat.pow_succ, Nat.mul_comm B]
theorem dig_get {l : List Nat} (h : Dg B l) {i d : Nat} (hi : l[i]? = some d) : dig B l / B ^ i % B = d := by
  have h1 := digK_get (B := B) l.length (dig B l) i (List.getElem?_eq_some_iff.1 hi).1
  rw [digK_dig h, hi] at h1
  injection h1 with h1
  exact h1.symm
theorem dig_get0 {l : List Nat} (h : Dg B l) {i : Nat} (hi : l.length ≤ i) (hB : 0 < B) : dig B l / B ^ i = 0 :=
  Nat.div_eq_of_lt (Nat.lt_of_lt_of_le (dig_lt h) (Nat.pow_le_pow_right hB hi))
theorem dig_take_drop (l : List Nat) (i : Nat) (h : i ≤ l.length) : dig B l = dig B (l.take i) + B ^ i * dig B (l.drop i) := by
  have := dig_append (B := B) (l.take i) (l.drop i)
  rw [List.take_append_drop, List.length_take_of_le h] at this
  exact this
theorem dig_drop {l : List Nat} (h : Dg B l) (i : Nat) (hB : 0 < B) : dig B (l.drop i) = dig B l / B ^ i := by
  by_cases hi : i ≤ l.length
  · rw [dig_take_drop l i hi]
    have h1 := dig_lt (h.take i)
    rw [List.length_take_of_le hi] at h1
    rw [Nat.add_mul_div_left _ _ (Nat.pow_pos hB), Nat.div_eq_of_lt h1, Nat.zero_add]
  · rw [List.drop_eq_nil_of_le (by omega), dig_get0 h (by omega) hB]; rfl
theorem dig_take {l : List Nat} (h : Dg B l) (i : Nat) (hi : i ≤ l.length) : dig B (l.take i) = dig B l % B ^ i := by
  rw [dig_take_drop l i hi, Nat.add_mul_mod_self_left, Nat.mod_eq_of_lt]
  have h1 := dig_lt (h.take i)
  rwa [List.length_take_of_le hi] at h1
theorem dig_cutL (l : List Nat) : dig B (cutL l) = dig B l := by
  induction l with
  | nil => rfl
  | cons d l ih =>
    simp only [cutL, dig]
    split
    · rename_i h
      rw [h] at ih
      simp only [dig] at ih
      split
      · rename_i h0; rw [h0, ← ih]; simp [dig]
      · rw [← ih]; simp [dig]
    · rename_i e m h
      rw [h] at ih
      rw [← ih]; rfl
theorem cutL_take (l : List Nat) : cutL l = l.take (cutL l).length := by
  induction l with
  | nil => rfl
  | cons d l ih =>
    simp only [cutL]
    split
    · split
      · rfl
      · simp
    · rename_i e m h
      rw [h] at ih
      simp only [List.length_cons, List.take_succ_cons] at ih ⊢
      rw [← ih]
theorem cutL_len (l : List Nat) : (cutL l).length ≤ l.length := by
  have := congrArg List.length (cutL_take l)
  rw [List.length_take] at this
  omega
theorem cutL_last (l : List Nat) : (cutL l).getLast? ≠ some 0 := by
  induction l with
  | nil => simp [cutL]
  | cons d l ih =>
    simp only [cutL]
    split
    · split
      · simp
      · simpa
    · rename_i e m h
      rw [h] at ih
      rwa [List.getLast?_cons_cons]
theorem Dg.cut {l : List Nat} (h : Dg B l) : Dg B (cutL l) := by rw [cutL_take]; exact h.take _
theorem cutL_self {l : List Nat} (h : l.getLast? ≠ some 0) : cutL l = l := by
  induction l with
  | nil => rfl
  | cons d l ih =>
    cases l with
    | nil => simp only [cutL]; rw [if_neg]; intro h0; subst h0; simp at h
    | cons e m =>
      rw [List.getLast?_cons_cons] at h
      rw [cutL, ih h]
theorem cutL_snoc0 (l : List Nat) : cutL (l ++ [0]) = cutL l := by
  induction l with
  | nil => simp [cutL]
  | cons d l ih => simp only [List.cons_append, cutL, ih]
theorem cutL_zeros (l : List Nat) (n : Nat) : cutL (l ++ List.replicate n 0) = cutL l := by
  induction n with
  | zero => simp
  | succ n ih => rw [List.replicate_succ', ← List.append_assoc, cutL_snoc0, ih]
theorem cutL_snoc {l : List Nat} {d : Nat} (h : d ≠ 0) : cutL (l ++ [d]) = l ++ [d] := cutL_self (by simpa using h)
/-- In the one form. -/
def Can (B : Nat) (l : List Nat) : Prop := Dg B l ∧ l.getLast? ≠ some 0
theorem Can.cut {l : List Nat} (h : Dg B l) : Can B (cutL l) := ⟨h.cut, cutL_last l⟩
theorem dig_ge {l : List Nat} (h : l.getLast? ≠ some 0) (hn : l ≠ []) : B ^ (l.length - 1) ≤ dig B l := by
  have h1 := List.dropLast_concat_getLast hn
  have h2 : l.getLast hn ≠ 0 := by
    intro h0
    apply h
    rw [List.getLast?_eq_some_getLast hn, h0]
  rw [← h1, dig_append]
  simp only [List.length_append, List.length_dropLast, List.length_cons, List.length_nil]
  have : l.length - 1 + (0 + 1) - 1 = l.length - 1 := by omega
  rw [this]
  simp only [dig, Nat.mul_zero, Nat.add_zero]
  exact Nat.le_trans (Nat.le_mul_of_pos_right _ (Nat.pos_of_ne_zero h2)) (Nat.le_add_left _ _)
theorem Can.len_le {l m : List Nat} (hl : Can B l) (hm : Can B m) (hB : 1 < B) (h : dig B l ≤ dig B m) : l.length ≤ m.length := by
  rcases Nat.lt_or_ge m.length l.length with hlt | hge
  · exfalso
    have hn : l ≠ [] := by intro h0; simp [h0] at hlt
    have h1 := dig_ge (B := B) hl.2 hn
    have h2 := dig_lt hm.1
    have h3 : B ^ m.length ≤ B ^ (l.length - 1) := Nat.pow_le_pow_right (by omega) (by omega)
    exact Nat.lt_irrefl _ (Nat.lt_of_lt_of_le h2 (Nat.le_trans h3 (Nat.le_trans h1 h)))
  · exact hge
theorem Can.inj {l m : List Nat} (hl : Can B l) (hm : Can B m) (hB : 1 < B) (h : dig B l = dig B m) : l = m :=
  dig_inj hl.1 hm.1 (Nat.le_antisymm (hl.len_le hm hB (Nat.le_of_eq h)) (hm.len_le hl hB (Nat.le_of_eq h.symm))) h
theorem can_digs (hB : 0 < B) (n : Nat) : Can B (digs B n) := Can.cut (dg_digK hB _ _)
theorem lt_pow_log2 (hB : 1 < B) (n : Nat) : n < B ^ (n.log2 + 1) := by
  have h1 : n < 2 ^ (n.log2 + 1) := Nat.lt_log2_self
  exact Nat.lt_of_lt_of_le h1 (Nat.pow_le_pow_left hB _)
theorem dig_digs (hB : 1 < B) (n : Nat) : dig B (digs B n) = n := by
  rw [digs, dig_cutL, dig_digK_lt (lt_pow_log2 hB n)]
theorem digs_dig (hB : 1 < B) {l : List Nat} (h : Can B l) : digs B (dig B l) = l :=
  (can_digs (by omega) _).inj h hB (dig_digs hB _)
theorem cutL_digs (hB : 1 < B) {l : List Nat} (h : Dg B l) : cutL l = digs B (dig B l) := by
  rw [← dig_cutL, digs_dig hB (Can.cut h)]
theorem digs_zero (hB : 1 < B) : digs B 0 = [] := (can_digs (by omega) 0).inj ⟨Dg.nil, by simp⟩ hB (by rw [dig_digs hB]; rfl)
theorem digs_nil (hB : 1 < B) {n : Nat} : digs B n = [] ↔ n = 0 := by
  constructor
  · intro h; have := dig_digs hB n; rw [h] at this; exact this.symm
  · intro h; rw [h, digs_zero hB]
theorem digs_len_le (hB : 1 < B) {n k : Nat} (h : n < B ^ k) : (digs B n).length ≤ k := by
  have h1 : cutL (digK B k n) = digs B n := by rw [cutL_digs hB (dg_digK (by omega) _ _), dig_digK_lt h]
  have := cutL_len (digK B k n)
  rw [h1, length_digK] at this
  exact this
theorem digs_lt (hB : 1 < B) (n : Nat) : n < B ^ (digs B n).length := by
  have := dig_lt (can_digs (B := B) (by omega) n).1
  rwa [dig_digs hB] at this
theorem digs_len_mono (hB : 1 < B) {a b : Nat} (h : a ≤ b) : (digs B a).length ≤ (digs B b).length :=
  (can_digs (by omega) a).len_le (can_digs (by omega) b) hB (by rw [dig_digs hB, dig_digs hB]; exact h)
theorem digs_get0 (hB : 1 < B) {n i : Nat} (h : (digs B n).length ≤ i) : n / B ^ i = 0 :=
  Nat.div_eq_of_lt (Nat.lt_of_lt_of_le (digs_lt hB n) (Nat.pow_le_pow_right (by omega) h))
theorem digs_get (hB : 1 < B) {n i : Nat} (h : i < (digs B n).length) : (digs B n)[i]? = some (n / B ^ i % B) := by
  have h1 := List.getElem?_eq_getElem h
  rw [h1]
  have h2 := dig_get (can_digs (B := B) (by omega) n).1 h1
  rw [dig_digs hB] at h2
  rw [h2]
theorem digs_step (hB : 1 < B) {n : Nat} (h : n ≠ 0) : digs B n = n % B :: digs B (n / B) := by
  refine (can_digs (by omega) n).inj ⟨Dg.cons (Nat.mod_lt _ (by omega)) (can_digs (by omega) _).1, ?_⟩ hB ?_
  · cases hd : digs B (n / B) with
    | nil =>
      rw [digs_nil hB] at hd
      have : n = n % B := by have := Nat.div_add_mod n B; rw [hd] at this; simpa using this.symm
      simp only [List.getLast?_singleton]
      intro h0; injection h0 with h0; omega
    | cons e m =>
      rw [List.getLast?_cons_cons, ← hd]
      exact (can_digs (by omega) _).2
  · rw [dig_digs hB, dig, dig_digs hB]; have := Nat.div_add_mod n B; omega
theorem digs_pad (hB : 1 < B) {n k : Nat} (h : n < B ^ k) : digK B k n = digs B n ++ List.replicate (k - (digs B n).length) 0 := by
  have hl := digs_len_le hB h
  refine dig_inj (B := B) (dg_digK (by omega) _ _) ((can_digs (by omega) _).1.append (Dg.zeros (by omega) _)) ?_ ?_
  · rw [length_digK, List.length_append, List.length_replicate]; omega
  · rw [dig_digK_lt h, dig_append, dig_digs hB, dig_zeros]; simp
end
section
variable {B : Nat}
/-- The first digit of what is left; 0 where nothing is. -/
def hd0 : List Nat → Nat
  | [] => 0
  | d :: _ => d
theorem dig_hd (ys : List Nat) : dig B ys = hd0 ys + B * dig B ys.tail := by cases ys <;> simp [dig, hd0]
theorem hd0_lt {ys : List Nat} (h : Dg B ys) (hB : 0 < B) : hd0 ys < B := by
  cases ys with
  | nil => exact hB
  | cons d l => exact h.head
theorem Dg.tl {ys : List Nat} (h : Dg B ys) : Dg B ys.tail := by
  cases ys with
  | nil => exact h
  | cons d l => exact h.tail
theorem hd0_drop (ys : List Nat) (i : Nat) : hd0 (ys.drop i) = (ys[i]?).getD 0 := by
  induction ys generalizing i with
  | nil => simp [hd0]
  | cons d l ih => cases i with
    | zero => rfl
    | succ i => simpa using ih i
theorem tail_drop (ys : List Nat) (i : Nat) : (ys.drop i).tail = ys.drop (i + 1) := by
  induction ys generalizing i with
  | nil => simp
  | cons d l ih => cases i with
    | zero => rfl
    | succ i => simp
theorem lt_div_step {B a b n : Nat} (hB : 0 < B) (h : a + B * b < B * n) : b + a / B < n := by
  have h1 : (a + B * b) / B < n := by rw [Nat.div_lt_iff_lt_mul hB, Nat.mul_comm n]; exact h
  rw [Nat.add_mul_div_left _ _ hB] at h1
  omega
/-- The second number times m, and a carry, added to the first one's places. -/
def plusL (B : Nat) : List Nat → List Nat → Nat → Nat → List Nat
  | [], _, _, _ => []
  | x :: xs, ys, m, c => (x + hd0 ys * m + c) % B :: plusL B xs ys.tail m ((x + hd0 ys * m + c) / B)
theorem length_plusL (xs ys : List Nat) (m c : Nat) : (plusL B xs ys m c).length = xs.length := by
  induction xs generalizing ys c with
  | nil => rfl
  | cons x xs ih => simp [plusL, ih]
theorem dg_plusL (hB : 0 < B) (xs ys : List Nat) (m c : Nat) : Dg B (plusL B xs ys m c) := by
  induction xs generalizing ys c with
  | nil => exact Dg.nil
  | cons x xs ih => exact Dg.cons (Nat.mod_lt _ hB) (ih _ _)
theorem dig_plusL (hB : 0 < B) (xs ys : List Nat) (m c : Nat) (h : dig B xs + dig B ys * m + c < B ^ xs.length) : dig B (plusL B xs ys m c) = dig B xs + dig B ys * m + c := by
  induction xs generalizing ys c with
  | nil => simp only [List.length_nil, Nat.pow_zero, dig] at h; simp only [plusL, dig]; omega
  | cons x xs ih =>
    have e : dig B (x :: xs) + dig B ys * m + c = (x + hd0 ys * m + c) + B * (dig B xs + dig B ys.tail * m) := by
      rw [dig, dig_hd ys, Nat.add_mul, Nat.mul_add, Nat.mul_assoc]; omega
    rw [List.length_cons, Nat.pow_succ, Nat.mul_comm _ B, e] at h
    have h1 := lt_div_step hB h
    simp only [plusL, dig]
    rw [ih _ _ h1, ← dig, e, Nat.mul_add]
    have := Nat.mod_add_div (x + hd0 ys * m + c) B
    omega
/-- The second number taken off the first one's places. -/
def subL (B : Nat) : List Nat → List Nat → Nat → List Nat
  | [], _, _ => []
  | x :: xs, ys, b => (x + B - hd0 ys - b) % B :: subL B xs ys.tail (if x < hd0 ys + b then 1 else 0)
def subB (B : Nat) : List Nat → List Nat → Nat → Nat
  | [], _, b => b
  | x :: xs, ys, b => subB B xs ys.tail (if x < hd0 ys + b then 1 else 0)
theorem length_subL (xs ys : List Nat) (c : Nat) : (subL B xs ys c).length = xs.length := by
  induction xs generalizing ys c with
  | nil => rfl
  | cons x xs ih => simp [subL, ih]
theorem dg_subL (hB : 0 < B) (xs ys : List Nat) (c : Nat) : Dg B (subL B xs ys c) := by
  induction xs generalizing ys c with
  | nil => exact Dg.nil
  | cons x xs ih => exact Dg.cons (Nat.mod_lt _ hB) (ih _ _)
theorem dig_subL (hB : 0 < B) (xs ys : List Nat) (b : Nat) (hx : Dg B xs) (hy : Dg B ys) (hb : b ≤ 1) (h : dig B ys + b ≤ dig B xs) : dig B (subL B xs ys b) + dig B ys + b = dig B xs ∧ subB B xs ys b = 0 := by
  induction xs generalizing ys b with
  | nil => simp only [dig] at h; simp only [subL, subB, dig]; omega
  | cons x xs ih =>
    have hx0 := hx.head
    have hy0 := hd0_lt hy hB
    have e := dig_hd (B := B) ys
    simp only [dig, subL, subB] at h ⊢
    by_cases hlt : x < hd0 ys + b
    · rw [if_pos hlt]
      have h1 : dig B ys.tail + 1 ≤ dig B xs := by
        refine Nat.lt_of_not_le fun hle => ?_
        have := Nat.mul_le_mul_left B hle
        omega
      obtain ⟨i1, i2⟩ := ih ys.tail 1 hx.tail hy.tl (by omega) h1
      refine ⟨?_, i2⟩
      have h2 := congrArg (B * ·) i1
      simp only [Nat.mul_add] at h2
      rw [Nat.mod_eq_of_lt (by omega)]
      omega
    · rw [if_neg hlt]
      have h1 : dig B ys.tail + 0 ≤ dig B xs := by
        refine Nat.le_of_not_lt fun hle => ?_
        have := Nat.mul_le_mul_left B (Nat.succ_le_of_lt hle)
        simp only [Nat.mul_succ, Nat.add_zero] at this
        omega
      obtain ⟨i1, i2⟩ := ih ys.tail 0 hx.tail hy.tl (by omega) h1
      refine ⟨?_, i2⟩
      have h2 := congrArg (B * ·) i1
      simp only [Nat.mul_add, Nat.add_zero] at h2
      have h3 : x + B - hd0 ys - b = (x - hd0 ys - b) + B := by omega
      rw [h3, Nat.add_mod_right, Nat.mod_eq_of_lt (by omega)]
      omega
/-- A place beside: what is added to a place and the next one. -/
theorem dig_set (xs : List Nat) (i d : Nat) {o : Nat} (hi : xs[i]? = some o) : dig B (xs.set i d) + B ^ i * o = dig B xs + B ^ i * d := by
  induction xs generalizing i with
  | nil => simp at hi
  | cons x xs ih =>
    cases i with
    | zero => simp only [List.getElem?_cons_zero, Option.some.injEq] at hi; subst hi; simp only [List.set_cons_zero, dig, Nat.pow_zero, Nat.one_mul]; omega
    | succ i =>
      have := congrArg (B * ·) (ih i hi)
      simp only [Nat.mul_add, ← Nat.mul_assoc] at this
      simp only [List.set_cons_succ, dig, Nat.pow_succ, Nat.mul_comm _ B]
      omega
/-- Comparing from the top. -/
theorem dig_lt_top {l m : List Nat} {x y : Nat} (hl : Dg B l) (hlen : l.length = m.length) (h : x < y) : dig B (l ++ [x]) < dig B (m ++ [y]) := by
  rw [dig_append, dig_append, hlen]
  have h1 := dig_lt hl
  rw [hlen] at h1
  have h2 : B ^ m.length * (x + 1) ≤ B ^ m.length * y := Nat.mul_le_mul_left _ h
  simp only [dig, Nat.mul_zero, Nat.add_zero, Nat.mul_succ] at h2 ⊢
  omega
def cmpN (a b : Nat) : Int := if a < b then -1 else if b < a then 1 else 0
theorem cmpN_lt {a b : Nat} (h : a < b) : cmpN a b = -1 := by simp [cmpN, h]
theorem cmpN_gt {a b : Nat} (h : b < a) : cmpN a b = 1 := by simp only [cmpN]; rw [if_neg (by omega), if_pos h]
theorem cmpN_eq {a b : Nat} (h : a = b) : cmpN a b = 0 := by simp only [cmpN]; rw [if_neg (by omega), if_neg (by omega)]
theorem cmpN_drop {xs ys : List Nat} {k x y : Nat} (hx : Dg B xs) (hxk : xs[k]? = some x) (hyk : ys[k]? = some y) (hd : xs.drop (k + 1) = ys.drop (k + 1)) (hlt : x < y) : dig B xs < dig B ys := by
  have lx := (List.getElem?_eq_some_iff.1 hxk).1
  have ly := (List.getElem?_eq_some_iff.1 hyk).1
  rw [dig_take_drop xs (k + 1) lx, dig_take_drop ys (k + 1) ly, hd]
  have e1 : xs.take (k + 1) = xs.take k ++ [x] := by rw [List.take_add_one, hxk]; rfl
  have e2 : ys.take (k + 1) = ys.take k ++ [y] := by rw [List.take_add_one, hyk]; rfl
  have := dig_lt_top (B := B) (m := ys.take k) (hx.take k) (by rw [List.length_take, List.length_take]; omega) hlt
  rw [e1, e2]
  omega
theorem drop_eq_step {xs ys : List Nat} {k x y : Nat} (hxk : xs[k]? = some x) (hyk : ys[k]? = some y) (hd : xs.drop (k + 1) = ys.drop (k + 1)) (h : x = y) : xs.drop k = ys.drop k := by
  obtain ⟨lx, ex⟩ := List.getElem?_eq_some_iff.1 hxk
  obtain ⟨ly, ey⟩ := List.getElem?_eq_some_iff.1 hyk
  rw [List.drop_eq_getElem_cons lx, List.drop_eq_getElem_cons ly, hd, ex, ey, h]
end
section
variable {B : Nat}
theorem digK_set {k n j v : Nat} (hB : 0 < B) (hj : j < k) (hn : n + B ^ j * v < B ^ k) (hv : n / B ^ j % B + v < B) : (digK B k n).set j (n / B ^ j % B + v) = digK B k (n + B ^ j * v) := by
  refine dig_inj (B := B) ((dg_digK hB _ _).set_ _ hv) (dg_digK hB _ _) (by rw [List.length_set, length_digK, length_digK]) ?_
  have h1 := dig_set (B := B) (digK B k n) j (n / B ^ j % B + v) (digK_get k n j hj)
  rw [dig_digK_lt (by omega)] at h1
  rw [dig_digK_lt hn]
  rw [Nat.mul_add] at h1
  omega
theorem digK_zero (k : Nat) : digK B k 0 = List.replicate k 0 := by
  induction k with
  | zero => rfl
  | succ k ih => simp [digK, ih, List.replicate_succ]
/-- The bytes of a string, the lowest first; the number that they are; the string of a number. -/
def lo8 (s : List UInt8) : List Nat := (s.map UInt8.toNat).reverse
def bn (s : List UInt8) : Nat := dig 256 (lo8 s)
def sb (n : Nat) : List UInt8 := ((digs 256 n).map UInt8.ofNat).reverse
theorem length_lo8 (s : List UInt8) : (lo8 s).length = s.length := by simp [lo8]
theorem dg_lo8 (s : List UInt8) : Dg 256 (lo8 s) := fun d hd => by
  obtain ⟨c, _, rfl⟩ := List.mem_map.1 (List.mem_reverse.1 hd)
  exact c.toNat_lt
theorem bn_lt (s : List UInt8) : bn s < 256 ^ s.length := by have := dig_lt (dg_lo8 s); rwa [length_lo8] at this
theorem lo8_at {s : List UInt8} {i : Nat} {c : UInt8} (hi : i < s.length) (h : s[s.length - 1 - i]? = some c) : (lo8 s)[i]? = some c.toNat := by
  unfold lo8
  rw [List.getElem?_reverse (by simpa using hi), List.length_map, List.getElem?_map, h]; rfl
theorem lo8_sb (n : Nat) : lo8 (sb n) = digs 256 n := by
  unfold lo8 sb
  rw [List.map_reverse, List.reverse_reverse, List.map_map]
  have : ∀ l : List Nat, Dg 256 l → l.map (UInt8.toNat ∘ UInt8.ofNat) = l := by
    intro l
    induction l with
    | nil => intro _; rfl
    | cons d l ih =>
      intro h
      have hd := h.head
      simp only [List.map_cons, ih h.tail, Function.comp]
      congr 1
      simp only [UInt8.toNat_ofNat']
      omega
  exact this _ (can_digs (by omega) n).1
theorem bn_sb (n : Nat) : bn (sb n) = n := by rw [bn, lo8_sb, dig_digs (by omega)]
theorem sb_inj {a b : Nat} (h : sb a = sb b) : a = b := by rw [← bn_sb a, h, bn_sb]
theorem length_sb (n : Nat) : (sb n).length = (digs 256 n).length := by simp [sb]
theorem lo8_inj {s t : List UInt8} (h : lo8 s = lo8 t) : s = t := by
  have h1 := List.reverse_inj.1 h
  exact (List.map_inj_right fun a b h => UInt8.toNat_inj.1 h).1 h1
theorem sb_of {s : List UInt8} {n : Nat} (h : lo8 s = digs 256 n) : s = sb n := lo8_inj (by rw [h, lo8_sb])
theorem sb_zero : sb 0 = [] := by rw [sb, digs_zero (by omega)]; rfl
theorem sb_nil {n : Nat} : sb n = [] ↔ n = 0 := ⟨fun h => by rw [← sb_zero] at h; exact sb_inj h, fun h => by rw [h, sb_zero]⟩
theorem length_sb_le {n k : Nat} (h : n < 256 ^ k) : (sb n).length ≤ k := by rw [length_sb]; exact digs_len_le (by omega) h
theorem length_sb_bn (s : List UInt8) : (sb (bn s)).length ≤ s.length := length_sb_le (bn_lt s)
theorem bn_nil : bn [] = 0 := rfl
theorem bn_cons0 (s : List UInt8) : bn (0 :: s) = bn s := by
  unfold bn lo8
  rw [List.map_cons, List.reverse_cons, dig_append]; simp [dig]
/-- A byte string that does not begin with 0 is in the one form. -/
theorem sb_bn {s : List UInt8} (h : s.head? ≠ some 0) : sb (bn s) = s := by
  refine (sb_of ?_).symm
  rw [bn, digs_dig (by omega) ⟨dg_lo8 s, ?_⟩]
  unfold lo8
  rw [List.getLast?_reverse, List.head?_map]
  cases s with
  | nil => simp
  | cons c s =>
    simp only [List.head?_cons, Option.map_some]
    intro h0
    injection h0 with h0
    apply h
    simp only [List.head?_cons]
    congr 1
    exact UInt8.toNat_inj.1 (by simpa using h0)
theorem sb_head (n : Nat) : (sb n).head? ≠ some 0 := by
  unfold sb
  rw [List.head?_reverse]
  have h := (can_digs (B := 256) (by omega) n).2
  have hd := (can_digs (B := 256) (by omega) n).1
  rw [List.getLast?_map]
  cases hl : (digs 256 n).getLast? with
  | none => simp
  | some d =>
    simp only [Option.map_some]
    intro h0
    injection h0 with h0
    have h1 := hd d (List.mem_of_getLast? hl)
    have h2 := congrArg UInt8.toNat h0
    simp only [UInt8.toNat_ofNat'] at h2
    have : d = 0 := by have : (0 : UInt8).toNat = 0 := rfl; omega
    rw [this] at hl
    exact h hl
end
/-- How many bits a number has. -/
def blen (n : Nat) : Nat := (digs 2 n).length
theorem blen_zero : blen 0 = 0 := by rw [blen, digs_zero (by omega)]; rfl
theorem lt_blen (n : Nat) : n < 2 ^ blen n := digs_lt (by omega) n
theorem blen_le {n k : Nat} (h : n < 2 ^ k) : blen n ≤ k := digs_len_le (by omega) h
theorem ge_blen {n : Nat} (h : n ≠ 0) : 2 ^ (blen n - 1) ≤ n := by
  have h1 := dig_ge (B := 2) (can_digs (B := 2) (by omega) n).2 (fun h0 => h ((digs_nil (by omega)).1 h0))
  rwa [dig_digs (by omega)] at h1
theorem blen_pos {n : Nat} (h : n ≠ 0) : 0 < blen n := by
  rw [blen]
  have : digs 2 n ≠ [] := fun h0 => h ((digs_nil (by omega)).1 h0)
  exact List.length_pos_iff.2 this
theorem blen_eq {n k : Nat} (h1 : n < 2 ^ k) (h2 : 2 ^ (k - 1) ≤ n) : blen n = k := by
  have h3 := blen_le h1
  rcases Nat.lt_or_ge (blen n) k with h | h
  · have h4 := lt_blen n
    have h5 : 2 ^ blen n ≤ 2 ^ (k - 1) := Nat.pow_le_pow_right (by omega) (by omega)
    omega
  · omega
/-- A number of which the top digit is known. -/
theorem blen_top {B b m : Nat} (hB : B = 2 ^ b) {l : List Nat} {d : Nat} (hl : Dg B l) (hlen : l.length = m) (hd : d ≠ 0) : blen (dig B (l ++ [d])) = b * m + blen d := by
  have hlt := dig_lt hl
  rw [hlen] at hlt
  have hp : B ^ m = 2 ^ (b * m) := by rw [hB, ← Nat.pow_mul]
  rw [dig_append, hlen]
  simp only [dig, Nat.mul_zero, Nat.add_zero]
  rw [hp] at hlt ⊢
  apply blen_eq
  · have h1 := lt_blen d
    have h2 : 2 ^ (b * m) * (d + 1) ≤ 2 ^ (b * m) * 2 ^ blen d := Nat.mul_le_mul_left _ h1
    rw [Nat.pow_add]
    rw [Nat.mul_succ] at h2
    omega
  · have h1 := ge_blen hd
    have h2 := blen_pos hd
    have e : b * m + blen d - 1 = b * m + (blen d - 1) := by omega
    rw [e, Nat.pow_add]
    have h3 : 2 ^ (b * m) * 2 ^ (blen d - 1) ≤ 2 ^ (b * m) * d := Nat.mul_le_mul_left _ h1
    omega
theorem or_add {a c s : Nat} (h : a < 2 ^ s) : a ||| (c * 2 ^ s) = a + c * 2 ^ s := by
  have h1 := Nat.shiftLeft_add_eq_or_of_lt h c
  rw [Nat.shiftLeft_eq] at h1
  rw [Nat.or_comm, ← h1, Nat.add_comm]
/-- Reading bytes: the next byte, into its limb. -/
theorem of_step {k i c : Nat} (n : Nat) (hn : n < 256 ^ i) (hc : c < 256) (hi : i / 8 < k) :
    n / 18446744073709551616 ^ (i / 8) % 18446744073709551616 < 2 ^ (i % 8 * 8) ∧ c * 2 ^ (i % 8 * 8) < 18446744073709551616 ∧
    (digK 18446744073709551616 k n).set (i / 8) (n / 18446744073709551616 ^ (i / 8) % 18446744073709551616 + c * 2 ^ (i % 8 * 8)) = digK 18446744073709551616 k (n + 256 ^ i * c) := by
  have hW : (18446744073709551616 : Nat) = 2 ^ 64 := by decide
  have h256 : (256 : Nat) = 2 ^ 8 := by decide
  have hp : 256 ^ i = 18446744073709551616 ^ (i / 8) * 2 ^ (i % 8 * 8) := by
    rw [hW, h256, ← Nat.pow_mul, ← Nat.pow_mul, ← Nat.pow_add]; congr 1; omega
  have h1 : n / 18446744073709551616 ^ (i / 8) < 2 ^ (i % 8 * 8) := by
    rw [Nat.div_lt_iff_lt_mul (Nat.pow_pos (by decide)), Nat.mul_comm, ← hp]; exact hn
  have hs : 2 ^ (i % 8 * 8) * 256 ≤ 18446744073709551616 := by
    rw [h256, hW, ← Nat.pow_add]; exact Nat.pow_le_pow_right (by omega) (by omega)
  have h2 : n / 18446744073709551616 ^ (i / 8) % 18446744073709551616 < 2 ^ (i % 8 * 8) := Nat.lt_of_le_of_lt (Nat.mod_le _ _) h1
  have h3 : (c + 1) * 2 ^ (i % 8 * 8) ≤ 256 * 2 ^ (i % 8 * 8) := Nat.mul_le_mul_right _ hc
  rw [Nat.succ_mul] at h3
  have hpos : 0 < 2 ^ (i % 8 * 8) := Nat.pow_pos (by omega)
  refine ⟨h2, by omega, ?_⟩
  have h4 : 256 ^ i * c = 18446744073709551616 ^ (i / 8) * (c * 2 ^ (i % 8 * 8)) := by rw [hp, Nat.mul_assoc, Nat.mul_comm c]
  rw [h4]
  refine digK_set (by decide) hi ?_ (by omega)
  rw [← h4]
  have h5 : 256 ^ i * (c + 1) ≤ 256 ^ i * 256 := Nat.mul_le_mul_left _ hc
  have h6 : 256 ^ i * 256 ≤ 18446744073709551616 ^ k := by
    have : 256 ^ i * 256 = 2 ^ (8 * (i + 1)) := by rw [h256, ← Nat.pow_mul, ← Nat.pow_add]; congr 1
    rw [this, hW, ← Nat.pow_mul]
    exact Nat.pow_le_pow_right (by omega) (by omega)
  rw [Nat.mul_succ] at h5
  omega
/-- A byte of a row of limbs. -/
theorem text_step (n i : Nat) : n / 18446744073709551616 ^ (i / 8) % 18446744073709551616 / 2 ^ (i % 8 * 8) % 256 = n / 256 ^ i % 256 := by
  have hW : (18446744073709551616 : Nat) = 2 ^ 64 := by decide
  have h256 : (256 : Nat) = 2 ^ 8 := by decide
  have hp : 256 ^ i = 18446744073709551616 ^ (i / 8) * 2 ^ (i % 8 * 8) := by
    rw [hW, h256, ← Nat.pow_mul, ← Nat.pow_mul, ← Nat.pow_add]; congr 1; omega
  rw [hp, ← Nat.div_div_eq_div_mul]
  generalize n / 18446744073709551616 ^ (i / 8) = m
  have e : (18446744073709551616 : Nat) = 2 ^ (i % 8 * 8) * 2 ^ (64 - i % 8 * 8) := by rw [← Nat.pow_add, hW]; congr 1; omega
  rw [e, Nat.mod_mul_right_div_self]
  have e2 : 2 ^ (64 - i % 8 * 8) = 256 * 2 ^ (56 - i % 8 * 8) := by rw [h256, ← Nat.pow_add]; congr 1; omega
  rw [e2, Nat.mod_mul_right_mod]
/-- Bits moved down over two limbs. -/
theorem down_limb (n j s : Nat) (hs : s < 64) (h0 : 0 < s) :
    (n / 18446744073709551616 ^ j % 18446744073709551616 / 2 ^ s) < 2 ^ (64 - s) ∧
    n / 18446744073709551616 ^ j % 18446744073709551616 / 2 ^ s + n / 18446744073709551616 ^ (j + 1) % 2 ^ s * 2 ^ (64 - s) = n / 2 ^ (64 * j + s) % 18446744073709551616 := by
  have hW : (18446744073709551616 : Nat) = 2 ^ 64 := by decide
  have e : (18446744073709551616 : Nat) = 2 ^ s * 2 ^ (64 - s) := by rw [← Nat.pow_add, hW]; congr 1; omega
  have hp : (18446744073709551616 : Nat) ^ (j + 1) = 18446744073709551616 ^ j * 18446744073709551616 := Nat.pow_succ ..
  rw [hp, ← Nat.div_div_eq_div_mul, Nat.pow_add, Nat.pow_mul, ← hW, ← Nat.div_div_eq_div_mul]
  generalize n / 18446744073709551616 ^ j = m
  have e1 : m % 18446744073709551616 / 2 ^ s = m / 2 ^ s % 2 ^ (64 - s) := by rw [e, Nat.mod_mul_right_div_self]
  rw [e1]
  refine ⟨Nat.mod_lt _ (Nat.pow_pos (by omega)), ?_⟩
  have e2 : m / 18446744073709551616 = m / 2 ^ s / 2 ^ (64 - s) := by rw [e, ← Nat.div_div_eq_div_mul]
  rw [e2]
  generalize m / 2 ^ s = q
  have e3 : (18446744073709551616 : Nat) = 2 ^ (64 - s) * 2 ^ s := by rw [Nat.mul_comm]; exact e
  rw [e3, Nat.mod_mul, Nat.mul_comm (2 ^ (64 - s))]
theorem up_shl {d s : Nat} (hd : d < 18446744073709551616) (hs : s ≤ 64) : d * 2 ^ s % 18446744073709551616 + d / 2 ^ (64 - s) * 18446744073709551616 = d * 2 ^ s ∧ d / 2 ^ (64 - s) < 2 ^ s := by
  have hW : (18446744073709551616 : Nat) = 2 ^ 64 := by decide
  have e : (18446744073709551616 : Nat) = 2 ^ (64 - s) * 2 ^ s := by rw [← Nat.pow_add, hW]; congr 1; omega
  have h1 : d * 2 ^ s / 18446744073709551616 = d / 2 ^ (64 - s) := by rw [e, Nat.mul_div_mul_right _ _ (Nat.pow_pos (by omega))]
  rw [← h1]
  constructor
  · have := Nat.mod_add_div (d * 2 ^ s) 18446744073709551616
    omega
  · rw [h1, Nat.div_lt_iff_lt_mul (Nat.pow_pos (by omega)), Nat.mul_comm, ← e]; exact hd
end Go.Proofs.YthmmofllajkejaaGreatDoor

/- Strings as lists of bytes; exponents. Plain lemmas, no program in sight. -/
namespace Go.Proofs.YthmmofllajkejaaGreatDoor
open Go.RowKit
def str (l : List UInt8) : ByteArray := ⟨l.toArray⟩
theorem str_toList (l : List UInt8) : (str l).data.toList = l := by simp [str]
theorem ba_ext {a b : ByteArray} (h : a.data.toList = b.data.toList) : a = b := by
  cases a; cases b; congr 1; exact Array.ext' h
theorem str_of (s : ByteArray) : str s.data.toList = s := ba_ext (str_toList _)
theorem str_size (l : List UInt8) : (str l).size = l.length := by simp [str, ByteArray.size]
theorem ba_size (s : ByteArray) : s.size = s.data.toList.length := (Array.length_toList).symm
theorem ba_toList (s : ByteArray) : s.toList = s.data.toList := by
  unfold ByteArray.toList
  have : ∀ (n i : Nat) (r : List UInt8), s.size - i = n → ByteArray.toList.loop s i r = r.reverse ++ s.data.toList.drop i := by
    intro n
    induction n with
    | zero =>
      intro i r h
      rw [ByteArray.toList.loop, if_neg (by omega), List.drop_of_length_le (by rw [← ba_size]; omega)]
      simp
    | succ n ih =>
      intro i r h
      have hi : i < s.size := by omega
      rw [ByteArray.toList.loop, if_pos hi, ih (i + 1) _ (by omega)]
      have hi2 : i < s.data.toList.length := by rw [← ba_size]; exact hi
      rw [List.drop_eq_getElem_cons hi2]
      have : s.get! i = s.data.toList[i] := by
        show s.data[i]! = _
        rw [getElem!_pos s.data i (by simpa using hi2)]
        simp
      simp [this]
  simpa using this (s.size - 0) 0 [] rfl
theorem str_append (a b : List UInt8) : str a ++ str b = str (a ++ b) := by
  apply ba_ext
  simp [str]
theorem str_inj {a b : List UInt8} : str a = str b ↔ a = b := ⟨fun h => by have := congrArg (fun s => s.data.toList) h; simpa [str] using this, fun h => by rw [h]⟩
def i64s (l : List Int) : List Value := l.map (Value.int .i64)
theorem length_i64s (l : List Int) : (i64s l).length = l.length := by simp [i64s]
theorem i64s_append (a b : List Int) : i64s (a ++ b) = i64s a ++ i64s b := by simp [i64s]
theorem i64s_at {l : List Int} {k : Nat} {x : Int} (h : l[k]? = some x) : (i64s l)[k]? = some (.int .i64 x) := by simp [i64s, h]
theorem u8s_append (a b : List UInt8) : u8s (a ++ b) = u8s a ++ u8s b := by simp [u8s]
theorem oneCells_i64s (l : List Int) : ((i64s l).all Value.oneCell') = true := by simp [i64s, Value.oneCell']
def strs (l : List ByteArray) : List Value := l.map Value.string
theorem length_strs (l : List ByteArray) : (strs l).length = l.length := by simp [strs]
theorem strs_at {l : List ByteArray} {k : Nat} {x : ByteArray} (h : l[k]? = some x) : (strs l)[k]? = some (.string x) := by simp [strs, h]
theorem take_snoc {α : Type} {l : List α} {k : Nat} {x : α} (h : l[k]? = some x) : l.take (k + 1) = l.take k ++ [x] := by rw [List.take_add_one, h]; rfl
theorem get_of_lt {α : Type} {l : List α} {k : Nat} (h : k < l.length) : ∃ x, l[k]? = some x := ⟨_, List.getElem?_eq_getElem h⟩

def mayB (l : List UInt8) : Bool := l.all fun c => decide (c.toNat < 128)
theorem mayB_snoc (l : List UInt8) (c : UInt8) : mayB (l ++ [c]) = (mayB l && decide (c.toNat < 128)) := by simp [mayB]
theorem mayB_bad {l : List UInt8} {k : Nat} {c : UInt8} (h : l[k]? = some c) (hc : ¬ c.toNat < 128) : mayB l = false := by
  rw [← List.take_append_drop (k + 1) l, take_snoc h]
  simp only [mayB, List.all_append]
  simp; omega
theorem mayB_at {l : List UInt8} (h : mayB l = true) {k : Nat} {c : UInt8} (hc : l[k]? = some c) : c.toNat < 128 := by
  have := List.all_eq_true.1 h c (List.mem_of_getElem? hc)
  simpa using this
def expOk (x : Int) : Bool := decide (0 ≤ x) && decide (x ≤ 127)
def toB (x : Int) : UInt8 := UInt8.ofNat x.toNat
/-- the product that exponents are; 3: ErrLimit. -/
def ofL (xs : List Int) : List UInt8 := if xs.all expOk then xs.map toB else []
def ofE (xs : List Int) : Int := if xs.all expOk then 0 else 3
theorem of_bad {xs : List Int} {k : Nat} {x : Int} (hx : xs[k]? = some x) (h : expOk x = false) : ofL xs = [] ∧ ofE xs = 3 := by
  have : xs.all expOk = false := by
    cases hc : xs.all expOk with
    | false => rfl
    | true => rw [List.all_eq_true.1 hc x (List.mem_of_getElem? hx)] at h; cases h
  simp [ofL, ofE, this]
theorem of_good {xs : List Int} (h : xs.all expOk = true) : ofL xs = xs.map toB ∧ ofE xs = 0 := by simp [ofL, ofE, h]
theorem all_snoc {α : Type} {p : α → Bool} {l : List α} {k : Nat} {x : α} (h : l[k]? = some x) (h1 : (l.take k).all p = true) (h2 : p x = true) : (l.take (k + 1)).all p = true := by
  rw [take_snoc h, List.all_append, h1]; simp [h2]
theorem wrap_u8 {x : Int} (h : 0 ≤ x) (h2 : x ≤ 255) : IntKind.u8.wrap x = x := by
  have : IntKind.u8.wrap x = x % 256 := rfl
  rw [this]; omega
theorem toB_val {x : Int} (h : expOk x = true) : Value.int .u8 x = .int .u8 (toB x).toNat := by
  simp only [expOk, Bool.and_eq_true, decide_eq_true_eq] at h
  congr 1
  simp only [toB, UInt8.toNat_ofNat']
  omega
theorem u8s_snoc {xs : List Int} {k : Nat} {x : Int} (hx : xs[k]? = some x) (h : expOk x = true) : u8s ((xs.take k).map toB) ++ [.int .u8 x] = u8s ((xs.take (k + 1)).map toB) := by
  rw [take_snoc hx, List.map_append, u8s_append, toB_val h]; rfl
def ints (l : List UInt8) : List Int := l.map fun c => (c.toNat : Int)
def expsL (l : List UInt8) : List Int := if mayB l then ints l else []
def degL (l : List UInt8) : Int := (expsL l).sum
theorem length_ints (l : List UInt8) : (ints l).length = l.length := by simp [ints]
theorem oneCells_u8s (l : List UInt8) : ((u8s l).all Value.oneCell') = true := by simp [u8s, Value.oneCell']
theorem i64s_ints_snoc {l : List UInt8} {k : Nat} {c : UInt8} (h : l[k]? = some c) : i64s (ints (l.take k)) ++ [.int .i64 c.toNat] = i64s (ints (l.take (k + 1))) := by
  rw [take_snoc h]; simp [i64s, ints]
def lenOf : Value → Nat | .slice _ n _ => n | _ => 0
theorem exps_good {l : List UInt8} (h : mayB l = true) : expsL l = ints l := by simp [expsL, h]
theorem exps_bad {l : List UInt8} (h : mayB l = false) : expsL l = [] := by simp [expsL, h]
theorem length_exps (l : List UInt8) : (expsL l).length ≤ l.length := by unfold expsL; split <;> simp [ints]
theorem ints_at {l : List UInt8} {k : Nat} {c : UInt8} (h : l[k]? = some c) : (ints l)[k]? = some (c.toNat : Int) := by simp [ints, h]
theorem sum_snoc {l : List Int} {k : Nat} {x : Int} (h : l[k]? = some x) : (l.take (k + 1)).sum = (l.take k).sum + x := by rw [take_snoc h]; simp
theorem exps_bd {l : List UInt8} {k : Nat} {x : Int} (h : (expsL l)[k]? = some x) : 0 ≤ x ∧ x ≤ 127 := by
  unfold expsL at h
  split at h
  · rename_i hm
    simp only [ints, List.getElem?_map, Option.map_eq_some_iff] at h
    obtain ⟨c, hc, rfl⟩ := h
    have := mayB_at hm hc
    omega
  · simp at h
theorem sum_bd {l : List Int} (B : Int) (hB : 0 ≤ B) (h : ∀ (k : Nat) (x : Int), l[k]? = some x → 0 ≤ x ∧ x ≤ B) : ∀ k, 0 ≤ (l.take k).sum ∧ (l.take k).sum ≤ k * B
  | 0 => by simp
  | k + 1 => by
    obtain ⟨h1, h2⟩ := sum_bd B hB h k
    rcases Nat.lt_or_ge k l.length with hk | hk
    · obtain ⟨x, hx⟩ := get_of_lt hk
      rw [sum_snoc hx]
      have := h k x hx
      have e : ((k + 1 : Nat) : Int) * B = k * B + B := by rw [Int.natCast_succ, Int.add_mul, Int.one_mul]
      omega
    · rw [List.take_of_length_le (by omega)]
      rw [List.take_of_length_le hk] at h1 h2
      have e : ((k + 1 : Nat) : Int) * B = k * B + B := by rw [Int.natCast_succ, Int.add_mul, Int.one_mul]
      omega
/-- two strings side by side; none: they may not be, or are unlike long. -/
def bothL (f : Int → Int → Int) (a b : List UInt8) : Option (List Int) :=
  if mayB a && (mayB b && decide ((b.length : Int) = a.length)) then some (List.zipWith f (ints a) (ints b)) else none
def mulL (a b : List UInt8) : List UInt8 × Int :=
  match bothL (· + ·) a b with | some l => (ofL l, ofE l) | none => ([], 1)
def divL (a b : List UInt8) : List UInt8 × Bool :=
  match bothL (· - ·) a b with | some l => (ofL l, decide (ofE l = 0)) | none => ([], false)
theorem zip_at {f : Int → Int → Int} {a b : List Int} {k : Nat} {x y : Int} (hx : a[k]? = some x) (hy : b[k]? = some y) : (List.zipWith f a b)[k]? = some (f x y) := by
  simp [List.getElem?_zipWith, hx, hy]
/-- what stands in the row after k rounds. -/
def mixL (f : Int → Int → Int) (a b : List Int) (k : Nat) : List Int := (List.zipWith f a b).take k ++ b.drop k
theorem mix_zero (f : Int → Int → Int) (a b : List Int) : mixL f a b 0 = b := by simp [mixL]
theorem mix_len {f : Int → Int → Int} {a b : List Int} (h : a.length = b.length) {k : Nat} (hk : k ≤ b.length) : (mixL f a b k).length = b.length := by
  simp [mixL, h]; omega
theorem mix_at {f : Int → Int → Int} {a b : List Int} (h : a.length = b.length) {k : Nat} {y : Int} (hy : b[k]? = some y) : (mixL f a b k)[k]? = some y := by
  have hk : k < b.length := (List.getElem?_eq_some_iff.1 hy).1
  unfold mixL
  rw [List.getElem?_append_right (by simp [h]; omega)]
  simp [h, Nat.min_eq_left (Nat.le_of_lt hk), hy]
theorem mix_set {f : Int → Int → Int} {a b : List Int} (h : a.length = b.length) {k : Nat} {x y : Int} (hx : a[k]? = some x) (hy : b[k]? = some y) :
    splice (i64s (mixL f a b k)) k [.int .i64 (f x y)] = i64s (mixL f a b (k + 1)) := by
  have hk : k < b.length := (List.getElem?_eq_some_iff.1 hy).1
  have hl : ((List.zipWith f a b).take k).length = k := by simp [h]; omega
  have e1 : (mixL f a b k).take k = (List.zipWith f a b).take k := by
    unfold mixL; rw [List.take_append_of_le_length (by omega), List.take_of_length_le (by omega)]
  have e2 : (mixL f a b k).drop (k + 1) = b.drop (k + 1) := by
    unfold mixL
    rw [List.drop_append, hl, List.drop_of_length_le (by omega), show k + 1 - k = 1 by omega, List.drop_drop]
    simp
  simp only [splice, i64s, ← List.map_take, ← List.map_drop, List.length_cons, List.length_nil, Nat.zero_add, e1, e2]
  unfold mixL
  rw [take_snoc (zip_at hx hy)]
  simp
theorem mix_full {f : Int → Int → Int} {a b : List Int} (h : a.length = b.length) : mixL f a b b.length = List.zipWith f a b := by
  unfold mixL
  rw [List.take_of_length_le (by simp [h]), List.drop_length, List.append_nil]
theorem i64s_set_at {l : List Int} {k : Nat} {x : Int} (h : l[k]? = some x) : (i64s l)[k]? = some (.int .i64 x) := i64s_at h
end Go.Proofs.YthmmofllajkejaaGreatDoor
