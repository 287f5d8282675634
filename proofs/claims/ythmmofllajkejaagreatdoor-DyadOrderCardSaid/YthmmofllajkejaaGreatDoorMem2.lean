/- The calculus' rules for operations that make or write memory. Plain lemmas, no program in sight. -/
import Derived.Test.YthmmofllajkejaaGreatDoorMem
namespace Go.Proofs.YthmmofllajkejaaGreatDoor
open Go.RowKit
/-- vs laid over cs from o on. -/
def splice (cs : List Value) (o : Nat) (vs : List Value) : List Value := cs.take o ++ vs ++ cs.drop (o + vs.length)
theorem length_splice {cs vs : List Value} {o : Nat} (h : o + vs.length ≤ cs.length) : (splice cs o vs).length = cs.length := by
  simp only [splice, List.length_append, List.length_take, List.length_drop]; omega
theorem splice_nil (cs : List Value) (o : Nat) : splice cs o [] = cs := by simp [splice]
theorem splice_cons {cs vs : List Value} {o : Nat} {v : Value} (h : o + (v :: vs).length ≤ cs.length) : splice cs o (v :: vs) = splice (cs.set o v) (o + 1) vs := by
  simp only [List.length_cons] at h
  have h0 : cs.set o v = cs.take o ++ v :: cs.drop (o + 1) := by rw [List.set_eq_take_append_cons_drop, if_pos (by omega)]
  have h2 : (cs.take o).length = o := by simp; omega
  have h1 : (cs.set o v).take (o + 1) = cs.take o ++ [v] := by
    rw [h0, List.take_append, h2, List.take_of_length_le (by omega)]
    simp
  have h3 : (cs.set o v).drop (o + 1 + vs.length) = cs.drop (o + 1 + vs.length) := List.drop_set_of_lt (by omega)
  unfold splice
  rw [h1, h3]
  simp [Nat.add_assoc, Nat.add_comm 1]
theorem grownBy_trans {a b c : World} {r : Option Nat} (h : a.grownBy b r) (k : b.grownBy c r) : a.grownBy c r :=
  ⟨k.os.trans h.os, k.tape.trans h.tape, k.output.trans h.output, Nat.le_trans h.size k.size, fun i hi hne => (k.block i (Nat.lt_of_lt_of_le hi h.size) hne).trans (h.block i hi hne)⟩
theorem grownBy_set (w : World) (b o : Nat) (v : Value) : w.grownBy (w.setCell ⟨b, o, none⟩ v) (some b) :=
  ⟨rfl, rfl, rfl, by simp [World.setCell], fun k _ hne => Below.heap_setCell w _ v k (fun e => hne (by rw [e]))⟩
section
variable {P : Program}
theorem run_store_blk {b : Nat} {t : TypeId} {fz : Nat × Nat} (o : Nat) : ∀ (vs : List Value) (i : Nat) (cs : List Value) (w : World), w.heap[b]? = some (.cells cs.toArray t fz) → (cs.length ≤ fz.1 ∨ fz.2 ≤ fz.1) →
    o + i + vs.length ≤ cs.length → (∀ v ∈ vs, v.oneCell' = true) →
    ∃ w', (storeCells ⟨b, o, none⟩ vs i).run P w = .ok () w' ∧ w'.heap[b]? = some (.cells (splice cs (o + i) vs).toArray t fz) ∧ w.grownBy w' (some b) ∧ w'.heap.size = w.heap.size
  | [], i, cs, w, hw, _, _, _ => ⟨w, by simp [storeCells], by rw [splice_nil]; exact hw, World.grownBy.refl _ _, rfl⟩
  | v :: vs, i, cs, w, hw, hf, hl, h1 => by
    simp only [List.length_cons] at hl
    have hoi : o + i < cs.length := by omega
    have hc : w.cell? ⟨b, o + i, none⟩ = some cs[o + i] := by
      rw [cell_of_row w b (o + i) _ t fz hw]
      simp [List.getElem?_eq_getElem hoi]
    have hfr : w.frozen? ⟨b, o + i, none⟩ = false := by
      simp only [World.frozen?, hw]
      rcases hf with hf | hf <;> simp <;> omega
    have hw2 : (w.setCell ⟨b, o + i, none⟩ v).heap[b]? = some (.cells (cs.set (o + i) v).toArray t fz) := by
      simp [World.setCell, Array.getElem?_modify, hw]
    obtain ⟨w', hr, hb', hg, hs⟩ := run_store_blk (b := b) (t := t) (fz := fz) o vs (i + 1) (cs.set (o + i) v) _ hw2 (by simpa using hf) (by simp; omega) (fun u hu => h1 u (List.mem_cons_of_mem _ hu))
    refine ⟨w', ?_, ?_, grownBy_trans (grownBy_set w b (o + i) v) hg, hs.trans (by simp [World.setCell])⟩
    · simp only [storeCells, Sem.run_bind, addr_add, run_store P w ⟨b, o + i, none⟩ v .plain (h1 v (List.mem_cons_self)), hc, hfr]
      simpa using hr
    · rw [splice_cons (by simp; omega)]
      exact hb'
end
/-- fill, on lists. -/
def fillL (pl : Nat → Option (Nat × Nat)) : List Value → List (Nat × Value) → Option (List Value)
  | cs, [] => some cs
  | cs, (i, v) :: r =>
    match pl i with
    | none => none
    | some (off, size) => if v.cells.toList.length ≠ size ∨ cs.length < off + v.cells.toList.length then none else fillL pl (splice cs off v.cells.toList) r
theorem foldl_splice : ∀ (vs : List Value) (k o : Nat) (cs : List Value), o + k + vs.length ≤ cs.length →
    (vs.zipIdx k).foldl (fun (cs : Array Value) (x : Value × Nat) => cs.setIfInBounds (o + x.2) x.1) cs.toArray = (splice cs (o + k) vs).toArray
  | [], k, o, cs, _ => by simp [splice_nil]
  | v :: vs, k, o, cs, h => by
    rw [List.zipIdx_cons, List.foldl_cons]
    simp only [List.setIfInBounds_toArray]
    rw [foldl_splice vs (k + 1) o (cs.set (o + k) v) (by simp at h ⊢; omega), splice_cons (by simp at h ⊢; omega)]
    rfl
theorem fill_of {pl : Nat → Option (Nat × Nat)} : ∀ (ps : List (Nat × Value)) (zs cs : List Value), fillL pl zs ps = some cs → Instr.fill pl zs.toArray ps = some cs.toArray
  | [], zs, cs, h => by simp only [fillL, Option.some.injEq] at h; subst h; rfl
  | (i, v) :: r, zs, cs, h => by
    unfold fillL at h
    unfold Instr.fill
    split at h
    · cases h
    · rename_i off size hpl
      split at h
      · cases h
      · rename_i hc
        simp only [ne_eq, not_or, Decidable.not_not, Nat.not_lt] at hc
        simp only [hpl]
        have h1 : ¬ ((v.cells.size ≠ size || decide (off + v.cells.size > zs.toArray.size)) = true) := by
          have e : v.cells.size = v.cells.toList.length := by simp
          simp only [e, hc.1, List.size_toArray, Bool.or_eq_true, decide_eq_true_eq, ne_eq, not_true, decide_false, Bool.false_eq_true, false_or]
          omega
        rw [if_neg h1]
        have h2 : v.cells.zipIdx.foldl (fun (cs : Array Value) (x : Value × Nat) => cs.setIfInBounds (off + x.2) x.1) zs.toArray = (splice zs off v.cells.toList).toArray := by
          have := foldl_splice v.cells.toList 0 off zs (by omega)
          rw [Nat.add_zero] at this
          rw [← this, ← Array.foldl_toList, Array.toList_zipIdx]
        exact (congrArg (fun x => Instr.fill pl x r) h2).trans (fill_of r _ cs h)
/-- so many elements, each of the cells zc. -/
def zrep : Nat → List Value → List Value
  | 0, _ => []
  | n + 1, zc => zc ++ zrep n zc
theorem length_zrep (n : Nat) (zc : List Value) : (zrep n zc).length = n * zc.length := by
  induction n with
  | zero => simp [zrep]
  | succ n ih => simp [zrep, ih, Nat.add_mul, Nat.add_comm]
theorem zrep_at : ∀ (n : Nat) (zc : List Value) (i : Nat), i < n * zc.length → (zrep n zc)[i]? = zc[i % zc.length]?
  | 0, zc, i, h => by simp at h
  | n + 1, zc, i, h => by
    unfold zrep
    rcases Nat.lt_or_ge i zc.length with hi | hi
    · rw [List.getElem?_append_left hi, Nat.mod_eq_of_lt hi]
    · rw [List.getElem?_append_right hi, zrep_at n zc (i - zc.length) (by rw [Nat.add_mul] at h; omega)]
      congr 1
      rw [Nat.mod_eq_sub_mod hi]
theorem zrep_arr (n : Nat) (zc : List Value) : (Array.range (n * zc.length)).map (fun i => zc.toArray[i % zc.length]!) = (zrep n zc).toArray := by
  apply Array.ext_getElem?
  intro i
  rcases Nat.lt_or_ge i (n * zc.length) with h | h
  · have hpos : 0 < zc.length := by
      rcases Nat.eq_zero_or_pos zc.length with h0 | h0
      · rw [h0] at h; omega
      · exact h0
    have hm : i % zc.length < zc.length := Nat.mod_lt _ hpos
    simp [h, zrep_at n zc i h, List.getElem?_eq_getElem hm]
  · have h2 : (zrep n zc).length ≤ i := by rw [length_zrep]; exact h
    simp [h2, h]
def evp (ρ : Rf) : List (Nat × Operand) → List (Nat × Value)
  | [] => []
  | (i, x) :: l => (i, ev ρ x) :: evp ρ l
theorem evp_arr {ρ : Rf} (parts : Array (Nat × Operand)) {ps : List (Nat × Value)} (h : evp ρ parts.toList = ps) : (parts.map fun (i, x) => (i, ev ρ x)) = ps.toArray := by
  have h1 : ∀ l : List (Nat × Operand), l.map (fun (i, x) => (i, ev ρ x)) = evp ρ l := by
    intro l
    induction l with
    | nil => rfl
    | cons a l ih => simp only [List.map_cons, ih]; rfl
  subst h
  rw [← h1]
  apply Array.ext'
  simp
section
variable {P : Program} {N : Nat} {ops : Array Oper} {Q : Kq} {ρ : Rf} {w w0 : World} {rest : List Oper} {H : List HE} {d : Nat} {ty : TypeId} {pos : String} {af : Array Edge}
theorem below_of_grown {w' : World} {r : Option Nat} (h : Below w0.heap.size w0 w) (hg : w.grownBy w' r) (hr : ∀ k, r = some k → w0.heap.size ≤ k) : Below w0.heap.size w0 w' := h.grown hg h.size hr
/-- An entry whose row is written or left for a new one. -/
theorem Hp.grown {w' : World} {x y : HE} {i : Nat} (h : Hp w0 H w) (hi : H[i]? = some x) (hg : w.grownBy w' x.id) (hid : y.id = x.id ∨ y.id = none ∨ y.id = some w.heap.size) (hy : y.holds w0.heap.size w') : Hp w0 (H.set i y) w' := by
  refine h.set_ hi (fun b hb => ?_) (below_of_grown h.below hg fun k hk => (holds_lt (h.at_ hi) hk).1) (fun b hlt hne => hg.block b hlt (fun e => hne e.symm)) hy
  rcases hid with e | e | e
  · exact .inl (by rw [← e]; exact hb)
  · rw [e] at hb; cases hb
  · rw [e] at hb
    injection hb with hb
    exact .inr (by omega)
theorem Hp.nil_row (h : Hp w0 H w) (t : TypeId) (sz : Nat) : Hp w0 (.row none 0 0 t sz [] :: H) w :=
  ⟨h.below, fun x hx => by
    rcases List.mem_cons.1 hx with rfl | hx
    · exact World.ownsRow_nil _ _ _ _
    · exact h.own x hx, by show (List.filterMap HE.id H).Nodup; exact h.nd⟩
theorem Hp.new_blk (h : Hp w0 H w) (t : TypeId) (cs : List Value) : Hp w0 (.blk w.heap.size t cs (0, 0) :: H) (w.alloc (.cells cs.toArray t)) :=
  h.push_new ((Below.refl _ _).alloc (Nat.le_refl _) _) ⟨Nat.le_refl _, heap_alloc_new w _, .inr (Nat.le_refl _)⟩
theorem Hp.new_row (h : Hp w0 H w) (t : TypeId) (sz n : Nat) (cs : List Value) (hl : cs.length = n * sz) (hn : n ≤ maxLen) : Hp w0 (.row (some ⟨w.heap.size, 0, none⟩) n n t sz cs :: H) (w.alloc (.cells cs.toArray t)) :=
  h.push_new ((Below.refl _ _).alloc (Nat.le_refl _) _) ⟨hl, .inr ⟨w.heap.size, n, cs.toArray, rfl, Nat.le_refl _, heap_alloc_new w _, Nat.le_refl _, hn, by simpa using hl, by simp only [List.take_of_length_le (show cs.length ≤ n * sz by omega)]⟩⟩
/-- box: a variable with a value. -/
theorem wl_box (hh : Hp w0 H w) {t : TypeId} {x : Operand} {cs : List Value} {v : Value} (hx : ev ρ x = v) (hc : v.cells = cs.toArray) (hN : d < N)
    (k : ∀ b w', Hp w0 (.blk b t cs (0, 0) :: H) w' → WL P N ops Q rest (upd ρ d (.pointer (some ⟨b, 0, none⟩))) w') : WL P N ops Q (⟨some d, .box t x, ty, pos, af, none⟩ :: rest) ρ w :=
  wl_val rfl rfl hN (w' := w.alloc (.cells cs.toArray t)) (v := .pointer (some ⟨w.heap.size, 0, none⟩)) (by simp [execOp, hx, Instr.box, newVar, newRow, hc]) (k _ _ (hh.new_blk t cs))
theorem wl_alloc (hh : Hp w0 H w) {t : TypeId} {n by' : Nat} {ag : Bool} {zc : List Value} (ht : tinfo P t = some (n, ag, by', zc)) (hN : d < N)
    (k : ∀ b w', Hp w0 (.blk b t zc (0, 0) :: H) w' → WL P N ops Q rest (upd ρ d (.pointer (some ⟨b, 0, none⟩))) w') : WL P N ops Q (⟨some d, .alloc t, ty, pos, af, none⟩ :: rest) ρ w := by
  obtain ⟨z, hz, hzc⟩ := run_zeroValue' (w := w) ht
  exact wl_val rfl rfl hN (w' := w.alloc (.cells zc.toArray t)) (v := .pointer (some ⟨w.heap.size, 0, none⟩)) (by simp [execOp, Instr.alloc, newVar, newRow, hz, hzc]) (k _ _ (hh.new_blk t zc))
/-- store into a block. -/
theorem wl_store (hh : Hp w0 H w) {t t' : TypeId} {x y : Operand} {i b o n by' : Nat} {ag : Bool} {zc cs vs : List Value} {fz : Nat × Nat} {v : Value} (hx : ev ρ x = .pointer (some ⟨b, o, none⟩)) (hi : H[i]? = some (.blk b t' cs fz))
    (hy : ev ρ y = v) (hc : v.cells = vs.toArray) (ht : tinfo P t = some (n, ag, by', zc)) (hl : vs.length = n) (ho : o + n ≤ cs.length) (h1 : (vs.all Value.oneCell') = true)
    (k : ∀ w', Hp w0 (H.set i (.blk b t' (splice cs o vs) fz)) w' → WL P N ops Q rest ρ w') : WL P N ops Q (⟨none, .store t x y, ty, pos, af, none⟩ :: rest) ρ w := by
  have hb := hh.at_ hi
  obtain ⟨w', hr, hb', hg, hs⟩ := run_store_blk (P := P) (b := b) (t := t') (fz := fz) o vs 0 cs w hb.2.1 hb.2.2 (by omega) (by simpa using h1)
  refine wl_skip rfl rfl (w' := w') ?_ (k w' (hh.grown hi hg (.inl rfl) ⟨hb.1, by simpa using hb', by rw [length_splice (by omega)]; exact hb.2.2⟩))
  simp [execOp, hx, hy, Instr.storeAt, Instr.sureAddr, storeVar, run_sizeOf' ht, hl, hc, hr]
/-- store into a row that one owns. -/
theorem wl_store_row (hh : Hp w0 H w) {t t' : TypeId} {x y : Operand} {i b o n m c sz by' : Nat} {ag : Bool} {zc xs vs : List Value} {v : Value} (hx : ev ρ x = .pointer (some ⟨b, o, none⟩)) (hi : H[i]? = some (.row (some ⟨b, 0, none⟩) m c t' sz xs))
    (hy : ev ρ y = v) (hc : v.cells = vs.toArray) (ht : tinfo P t = some (n, ag, by', zc)) (hl : vs.length = n) (ho : o + n ≤ xs.length) (h1 : (vs.all Value.oneCell') = true)
    (k : ∀ w', Hp w0 (H.set i (.row (some ⟨b, 0, none⟩) m c t' sz (splice xs o vs))) w' → WL P N ops Q rest ρ w') : WL P N ops Q (⟨none, .store t x y, ty, pos, af, none⟩ :: rest) ρ w := by
  have hrow := hh.at_ hi
  obtain ⟨hlen, h2⟩ := hrow
  rcases h2 with ⟨h2, _⟩ | ⟨g, cap, cur, hv, hg, hheap, hmc, hcm, hcur, htake⟩
  · injection h2 with h2; cases h2
  · injection hv with hA hn hcap
    injection hA with hA
    injection hA with hA
    subst hA; subst hcap
    have hcl : cur.size = cur.toList.length := by simp
    have hle : m * sz ≤ c * sz := Nat.mul_le_mul_right _ hmc
    obtain ⟨w', hr, hb', hgr, hs⟩ := run_store_blk (P := P) (b := b) (t := t') (fz := (0, 0)) o vs 0 cur.toList w (by simpa using hheap) (.inr (Nat.le_refl _)) (by rw [← hcl]; omega) (by simpa using h1)
    refine wl_skip rfl rfl (w' := w') ?_ (k w' (hh.grown hi hgr (.inl rfl) ⟨by rw [length_splice (by omega)]; exact hlen, .inr ⟨b, c, (splice cur.toList o vs).toArray, rfl, hg, by simpa using hb', hmc, hcm, ?_, ?_⟩⟩))
    · simp [execOp, hx, hy, Instr.storeAt, Instr.sureAddr, storeVar, run_sizeOf' ht, hl, hc, hr]
    · simp only [List.size_toArray]
      rw [length_splice (by rw [← hcl]; omega), ← hcl, hcur]
    · simp only [splice]
      rw [← htake]
      have h5 : o + vs.length ≤ m * sz := by omega
      have h6 : m * sz ≤ cur.toList.length := by rw [← hcl, hcur]; exact hle
      rw [List.take_take, Nat.min_eq_left (by omega), List.drop_take, List.append_assoc, List.append_assoc, List.take_append, List.take_append]
      simp only [List.length_take, Nat.min_eq_left (show o ≤ cur.toList.length by omega)]
      rw [List.take_of_length_le (l := cur.toList.take o) (by simp; omega), List.take_of_length_le (l := vs) (by omega)]
      congr 2
      congr 1
      omega
/-- A slice literal. -/
theorem wl_buildSlice (hh : Hp w0 H w) {t e : TypeId} {len sz by' : Nat} {ag : Bool} {parts : Array (Nat × Operand)} {ps : List (Nat × Value)} {zc cs : List Value} (ht : P.underlying t = some (.slice e)) (hte : tinfo P e = some (sz, ag, by', zc))
    (hp : evp ρ parts.toList = ps) (hzl : zc.length = sz) (hf : fillL (fun i => some (i * sz, sz)) (zrep len zc) ps = some cs) (h0 : ¬ len * sz = 0) (hle : len ≤ 1000) (hsl : len * sz ≤ 16777216) (hl : cs.length = len * sz) (hN : d < N)
    (k : ∀ b w', Hp w0 (.row (some ⟨b, 0, none⟩) len len e sz cs :: H) w' → WL P N ops Q rest (upd ρ d (.slice (some ⟨b, 0, none⟩) len len)) w') : WL P N ops Q (⟨some d, .buildSlice t len parts, ty, pos, af, none⟩ :: rest) ρ w := by
  obtain ⟨z, hz, hzc⟩ := run_zeroValue' (w := w) hte
  refine wl_val rfl rfl hN (w' := w.alloc (.cells cs.toArray e)) (v := .slice (some ⟨w.heap.size, 0, none⟩) len len) ?_ (k _ _ (hh.new_row e sz len cs hl (by unfold maxLen; omega)))
  have h16 : ¬ 2 ^ 24 < len * sz := by omega
  have hf' := fill_of _ _ _ hf
  rw [← zrep_arr, hzl] at hf'
  have hzs : zc.toArray.size = sz := by simpa using hzl
  have hp' := evp_arr parts hp
  simp only [execOp, hp', Instr.buildSlice, Sem.run_bind, run_underlying ht, Result.andThen_ok, run_sizeOf' hte, gt_iff_lt, if_neg h16, if_neg h0, hz, hzc, Sem.run_pure, hzs, hf']
  simp [newRow]
def placesOf (P : Program) (t : TypeId) : Option (List (Nat × Nat)) :=
  match P.underlying t with
  | some (.struct fs) => fs.toList.mapM fun f => (P.info? f.type).map fun i => (f.offset, i.size)
  | _ => none
theorem places_run {P : Program} {w : World} : ∀ (l : List Field) (pl : List (Nat × Nat)), (l.mapM fun f => (P.info? f.type).map fun i => (f.offset, i.size)) = some pl →
    (l.mapM (m := Sem) fun f => do pure (f.offset, ← sizeOf f.type)).run P w = .ok pl w
  | [], pl, h => by
    simp at h; subst h; simp
  | f :: l, pl, h => by
    rw [List.mapM_cons] at h
    cases hi : P.info? f.type with
    | none => simp [hi] at h
    | some i =>
      cases hr : l.mapM (fun f => (P.info? f.type).map fun i => (f.offset, i.size)) with
      | none => simp [hr] at h
      | some pl' =>
        simp [hi, hr] at h
        have ih := places_run (w := w) l pl' hr
        have hs : (sizeOf f.type).run P w = .ok i.size w := by simp [sizeOf, typeInfo, hi]
        rw [List.mapM_cons, Sem.run_bind, Sem.run_bind, hs, Result.andThen_ok, Sem.run_pure, Result.andThen_ok, Sem.run_bind, ih, Result.andThen_ok, Sem.run_pure, h]
theorem x_build {dd : Option Nat} {g : Option (Nat × Bool)} {t : TypeId} {n by' : Nat} {parts : Array (Nat × Operand)} {ps : List (Nat × Value)} {zc cs : List Value} {pl : List (Nat × Nat)} (hte : tinfo P t = some (n, true, by', zc))
    (hpl : placesOf P t = some pl)
    (hp : evp ρ parts.toList = ps) (hf : fillL (pl[·]?) zc ps = some cs) :
    (execOp (ev ρ) ⟨dd, .build t parts, ty, pos, af, g⟩).run P w = .ok (.value (.agg cs.toArray)) w := by
  obtain ⟨z, hz, hzc⟩ := run_zeroValue' (w := w) hte
  unfold placesOf at hpl
  split at hpl
  · rename_i fs hfs
    have h1 := places_run (w := w) _ _ hpl
    have h2 : (fs.mapM (m := Sem) fun f => do pure (f.offset, ← sizeOf f.type)).run P w = .ok pl.toArray w := by
      have e : fs = fs.toList.toArray := by simp
      rw [e, List.mapM_toArray, Sem.run_map, h1]
      rfl
    have hf' := fill_of _ _ _ hf
    have hpp : (fun (x : Nat) => pl.toArray[x]?) = fun x => pl[x]? := by funext x; simp
    have hp' := evp_arr parts hp
    simp only [execOp, hp', Instr.build, Sem.run_bind, hz, Result.andThen_ok, run_underlying hfs, h2, hzc, hpp, hf', Sem.run_pure]
  · cases hpl
end
end Go.Proofs.YthmmofllajkejaaGreatDoor
