/- The calculus' rules for memory: what a call has made itself is a list of blocks and rows, known whole; what was there before it stays. Plain lemmas, no program in sight. -/
import Derived.Test.YthmmofllajkejaaGreatDoorOps
import Derived.Deep.AppendLies
import Derived.Maps.AppendAt
import Derived.OwnWalk
namespace Go.Proofs.YthmmofllajkejaaGreatDoor
open Go.RowKit

def tinfo (P : Program) (t : TypeId) : Option (Nat × Bool × Nat × List Value) :=
  match P.info? t, P.underlying t with
  | some i, some d => i.zero.map fun z => (i.size, (match d with | .struct _ | .array _ _ => true | _ => false), i.bytes, z.cells.toList)
  | _, _ => none
theorem tinfo_spec {P : Program} {t : TypeId} {n by' : Nat} {ag : Bool} {zc : List Value} (h : tinfo P t = some (n, ag, by', zc)) :
    ∃ i z d, P.info? t = some i ∧ P.underlying t = some d ∧ i.zero = some z ∧ i.size = n ∧ i.bytes = by' ∧ z.cells = zc.toArray ∧ (match d with | .struct _ | .array _ _ => true | _ => false) = ag := by
  unfold tinfo at h
  split at h
  · rename_i i d hi hd
    obtain ⟨z, hz, he⟩ := Option.map_eq_some_iff.1 h
    simp only [Prod.mk.injEq] at he
    exact ⟨i, z, d, hi, hd, hz, he.1, he.2.2.1, by rw [← he.2.2.2], he.2.1⟩
  · cases h
section
variable {P : Program} {w : World} {t : TypeId} {n by' : Nat} {ag : Bool} {zc : List Value}
theorem run_sizeOf' (h : tinfo P t = some (n, ag, by', zc)) : (sizeOf t).run P w = .ok n w := by
  obtain ⟨i, z, d, hi, hd, hz, hs, _⟩ := tinfo_spec h
  simp [sizeOf, typeInfo, hi, hs]
theorem run_isAgg' (h : tinfo P t = some (n, ag, by', zc)) : (isAgg t).run P w = .ok ag w := by
  obtain ⟨i, z, d, hi, hd, hz, hs, _, _, ha⟩ := tinfo_spec h
  simp only [isAgg, Sem.run_bind, run_underlying hd, Result.andThen_ok]
  subst ha
  cases d <;> rfl
theorem run_zeroValue' (h : tinfo P t = some (n, ag, by', zc)) : ∃ z, (zeroValue t).run P w = .ok z w ∧ z.cells = zc.toArray := by
  obtain ⟨i, z, d, hi, hd, hz, hs, _, hc, _⟩ := tinfo_spec h
  exact ⟨z, by simp [zeroValue, typeInfo, hi, hz], hc⟩
end

/-- At an address one reads the cells vs. -/
def Rd (w : World) (ad : Addr) (vs : List Value) : Prop := ∀ j u, vs[j]? = some u → w.cell? (ad.add j) = some u
/-- A slice value '.slice A n c', elements of k cells, reads as the cells xs. -/
def Sl (w : World) (A : Option Addr) (n k : Nat) (xs : List Value) : Prop := xs.length = n * k ∧ (0 < n → ∃ ad, A = some ad ∧ Rd w ad xs)
theorem addr_add (b o n : Nat) : (⟨b, o, none⟩ : Addr).add n = ⟨b, o + n, none⟩ := by
  unfold Addr.add
  split
  · rename_i h; subst h; rfl
  · rfl
theorem addr_block (a : Addr) (n : Nat) : (a.add n).block = a.block := by unfold Addr.add; split <;> rfl
theorem addr_add_add (a : Addr) (i j : Nat) : (a.add i).add j = a.add (i + j) := by
  unfold Addr.add
  by_cases hi : i = 0 <;> by_cases hj : j = 0 <;> simp [hi, hj, Nat.add_assoc]
theorem cell_lt {w : World} {a : Addr} {v : Value} (h : w.cell? a = some v) : a.block < w.heap.size := block_lt_of_cell h
theorem below_cell {w w' : World} (h : Below w.heap.size w w') {a : Addr} {v : Value} (hc : w.cell? a = some v) : w'.cell? a = some v := (h.cell (cell_lt hc)).trans hc
theorem Rd.ext {w w' : World} {ad : Addr} {vs : List Value} (h : Rd w ad vs) (hb : Below w.heap.size w w') : Rd w' ad vs := fun j u hu => below_cell hb (h j u hu)
theorem Sl.ext {w w' : World} {A : Option Addr} {n k : Nat} {xs : List Value} (h : Sl w A n k xs) (hb : Below w.heap.size w w') : Sl w' A n k xs :=
  ⟨h.1, fun hn => let ⟨ad, ha, hr⟩ := h.2 hn; ⟨ad, ha, hr.ext hb⟩⟩
theorem Rd.drop {w : World} {ad : Addr} {vs : List Value} (h : Rd w ad vs) (i : Nat) : Rd w (ad.add i) (vs.drop i) := fun j u hu => by
  rw [addr_add_add]
  exact h _ u (by rw [← hu, List.getElem?_drop])
theorem Rd.take {w : World} {ad : Addr} {vs : List Value} (h : Rd w ad vs) (n : Nat) : Rd w ad (vs.take n) := fun j u hu => by
  rw [List.getElem?_take] at hu
  split at hu
  · exact h _ u hu
  · cases hu
theorem Rd.cell {w : World} {ad : Addr} {vs : List Value} (h : Rd w ad vs) {i : Nat} {v : Value} (hv : vs[i]? = some v) : w.cell? (ad.add i) = some v := h i v hv
theorem Sl.nil (w : World) (A : Option Addr) (k : Nat) : Sl w A 0 k [] := ⟨by simp, fun h => absurd h (by omega)⟩
/-- The address of a slice that is not empty. -/
theorem Sl.at_ {w : World} {A : Option Addr} {n k : Nat} {xs : List Value} (h : Sl w A n k xs) (hn : 0 < n) : ∃ ad, A = some ad ∧ Rd w ad xs := h.2 hn
/-- The i-th element's cells. -/
theorem Rd.elem {w : World} {ad : Addr} {xs : List Value} (h : Rd w ad xs) (i k : Nat) : Rd w (ad.add (i * k)) ((xs.drop (i * k)).take k) := (h.drop _).take _
theorem Sl.cut {w : World} {A : Option Addr} {n k c l m : Nat} {xs : List Value} (h : Sl w A n k xs) (hl : l ≤ m) (hm : m ≤ n) (hc : n ≤ c) :
    Sl w (if c = l then A else A.map (·.add (l * k))) (m - l) k ((xs.drop (l * k)).take ((m - l) * k)) := by
  have hle : l * k + (m - l) * k ≤ n * k := by
    rw [← Nat.add_mul]
    exact Nat.mul_le_mul_right _ (by omega)
  refine ⟨by rw [List.length_take, List.length_drop, h.1]; omega, fun hn => ?_⟩
  obtain ⟨ad, rfl, hr⟩ := h.2 (by omega)
  rw [if_neg (by omega)]
  exact ⟨_, rfl, (hr.drop _).take _⟩

/-- What a call owns: a block that is known whole, or a row that may still grow. -/
inductive HE where
  | blk (b : Nat) (t : TypeId) (cs : List Value) (fz : Nat × Nat)
  | row (A : Option Addr) (n c : Nat) (t : TypeId) (sz : Nat) (xs : List Value)
  | it (b : Nat) (s : ByteArray) (pos : Nat)
def HE.id : HE → Option Nat
  | .blk b _ _ _ => some b
  | .row A _ _ _ _ _ => A.map (·.block)
  | .it b _ _ => some b
def HE.holds (base : Nat) (w : World) : HE → Prop
  | .blk b t cs fz => base ≤ b ∧ w.heap[b]? = some (.cells cs.toArray t fz) ∧ (cs.length ≤ fz.1 ∨ fz.2 ≤ fz.1)
  | .row A n c t sz xs => w.ownsRow base t sz (.slice A n c) n xs
  | .it b s pos => base ≤ b ∧ w.heap[b]? = some (.stringIter s pos)
structure Hp (w0 : World) (H : List HE) (w : World) : Prop where
  below : Below w0.heap.size w0 w
  own : ∀ x ∈ H, x.holds w0.heap.size w
  nd : (H.filterMap HE.id).Nodup
section
variable {w0 w w' : World} {H : List HE}
theorem Hp.start (w : World) : Hp w [] w := ⟨Below.refl _ _, fun _ h => (nomatch h), List.nodup_nil⟩
theorem Hp.size (h : Hp w0 H w) : w0.heap.size ≤ w.heap.size := h.below.size
theorem holds_lt {base : Nat} {x : HE} (h : x.holds base w) {b : Nat} (hb : x.id = some b) : base ≤ b ∧ b < w.heap.size := by
  cases x with
  | blk b' t cs fz =>
    obtain rfl : b' = b := by simpa [HE.id] using hb
    refine ⟨h.1, ?_⟩
    rcases Nat.lt_or_ge b' w.heap.size with hlt | hge
    · exact hlt
    · have := h.2.1; rw [Array.getElem?_eq_none hge] at this; cases this
  | row A n c t sz xs =>
    cases A with
    | none => simp [HE.id] at hb
    | some a => exact World.ownsRow.lt h b (by simpa [HE.id, Value.ownBlock] using hb)
  | it b' s pos =>
    obtain rfl : b' = b := by simpa [HE.id] using hb
    refine ⟨h.1, ?_⟩
    rcases Nat.lt_or_ge b' w.heap.size with hlt | hge
    · exact hlt
    · have := h.2; rw [Array.getElem?_eq_none hge] at this; cases this
theorem holds_keep {base : Nat} {x : HE} (h : x.holds base w) (hk : ∀ b, x.id = some b → w'.heap[b]? = w.heap[b]?) : x.holds base w' := by
  cases x with
  | blk b t cs fz => exact ⟨h.1, (hk b rfl).trans h.2.1, h.2.2⟩
  | row A n c t sz xs =>
    obtain ⟨h1, h2⟩ := h
    refine ⟨h1, ?_⟩
    rcases h2 with h2 | ⟨g, cap, cur, hv, hg, hh, r⟩
    · exact .inl h2
    · have hA : A = some ⟨g, 0, none⟩ := by injection hv
      subst hA
      exact .inr ⟨g, cap, cur, hv, hg, (hk g rfl).trans hh, r⟩
  | it b s pos => exact ⟨h.1, (hk b rfl).trans h.2⟩
theorem Hp.ext (h : Hp w0 H w) (hb : Below w.heap.size w w') : Hp w0 H w' :=
  ⟨h.below.trans (hb.mono h.size), fun x hx => holds_keep (h.own x hx) fun _ hi => hb.block _ (holds_lt (h.own x hx) hi).2, h.nd⟩
theorem Hp.drew (h : Hp w0 H w) : Hp w0 H w.drew := ⟨h.below.drew, h.own, h.nd⟩
theorem Hp.sub (h : Hp w0 H w) {H' : List HE} (hs : H'.Sublist H) : Hp w0 H' w := ⟨h.below, fun x hx => h.own x (hs.subset hx), h.nd.sublist (hs.filterMap _)⟩
theorem Hp.at_ (h : Hp w0 H w) {i : Nat} {x : HE} (hi : H[i]? = some x) : x.holds w0.heap.size w := h.own x (List.mem_of_getElem? hi)
theorem Hp.push_new (h : Hp w0 H w) (hb : Below w.heap.size w w') {x : HE} (hx : x.holds w.heap.size w') : Hp w0 (x :: H) w' := by
  have h' := h.ext hb
  refine ⟨h'.below, ?_, ?_⟩
  · intro y hy
    rcases List.mem_cons.1 hy with rfl | hy
    · cases y with
      | blk b t cs fz => exact ⟨Nat.le_trans h.size hx.1, hx.2⟩
      | row A n c t sz xs =>
        obtain ⟨h1, h2⟩ := hx
        exact ⟨h1, h2.imp id fun ⟨g, cap, cur, hv, hg, r⟩ => ⟨g, cap, cur, hv, Nat.le_trans h.size hg, r⟩⟩
      | it b s pos => exact ⟨Nat.le_trans h.size hx.1, hx.2⟩
    · exact h'.own y hy
  · rw [List.filterMap_cons]
    split
    · exact h'.nd
    · rename_i b hb'
      refine List.nodup_cons.2 ⟨fun hm => ?_, h'.nd⟩
      obtain ⟨y, hy, hyb⟩ := List.mem_filterMap.1 hm
      have h1 := (holds_lt hx hb').1
      have h2 := (holds_lt (h.own y hy) hyb).2
      omega
/-- One entry's block turns, all else stays. -/
theorem Hp.set_ (h : Hp w0 H w) {i : Nat} {x y : HE} (hi : H[i]? = some x) (hid : ∀ b, y.id = some b → x.id = some b ∨ w.heap.size ≤ b)
    (hb : Below w0.heap.size w0 w') (hk : ∀ b, b < w.heap.size → x.id ≠ some b → w'.heap[b]? = w.heap[b]?) (hy : y.holds w0.heap.size w') : Hp w0 (H.set i y) w' := by
  obtain ⟨hlt, hx⟩ := List.getElem?_eq_some_iff.1 hi
  have hsplit : H = H.take i ++ x :: H.drop (i + 1) := by
    rw [← hx, ← List.drop_eq_getElem_cons hlt, List.take_append_drop]
  have hset : H.set i y = H.take i ++ y :: H.drop (i + 1) := by rw [List.set_eq_take_append_cons_drop, if_pos hlt]
  have hnd := h.nd
  rw [hsplit, List.filterMap_append] at hnd
  have hother : ∀ z, z ∈ H.take i ∨ z ∈ H.drop (i + 1) → z ∈ H ∧ (∀ b, z.id = some b → x.id ≠ some b) := by
    intro z hz
    refine ⟨hz.elim List.mem_of_mem_take List.mem_of_mem_drop, fun b hzb hxb => ?_⟩
    rw [List.filterMap_cons, hxb] at hnd
    simp only [] at hnd
    rw [List.nodup_append] at hnd
    rcases hz with hz | hz
    · exact hnd.2.2 b (List.mem_filterMap.2 ⟨z, hz, hzb⟩) b (List.mem_cons_self) rfl
    · exact (List.nodup_cons.1 hnd.2.1).1 (List.mem_filterMap.2 ⟨z, hz, hzb⟩)
  have hold : ∀ z, z ∈ H.take i ∨ z ∈ H.drop (i + 1) → z.holds w0.heap.size w' := fun z hz => by
    obtain ⟨hm, hne⟩ := hother z hz
    exact holds_keep (h.own z hm) fun b hzb => hk b (holds_lt (h.own z hm) hzb).2 (hne b hzb)
  rw [hset]
  refine ⟨hb, ?_, ?_⟩
  · intro z hz
    rcases List.mem_append.1 hz with hz | hz
    · exact hold z (.inl hz)
    · rcases List.mem_cons.1 hz with rfl | hz
      · exact hy
      · exact hold z (.inr hz)
  · rw [List.filterMap_append]
    have hsub : ((H.take i).filterMap HE.id ++ (H.drop (i + 1)).filterMap HE.id).Nodup := by
      refine hnd.sublist (List.Sublist.append (List.Sublist.refl _) ?_)
      exact List.Sublist.filterMap _ (List.sublist_cons_self _ _)
    rw [List.filterMap_cons]
    split
    · exact hsub
    · rename_i b hyb
      have hfresh : ∀ z, z ∈ H.take i ∨ z ∈ H.drop (i + 1) → z.id ≠ some b := fun z hz hzb => by
        obtain ⟨hm, hne⟩ := hother z hz
        rcases hid b hyb with h1 | h1
        · exact hne b hzb h1
        · have := (holds_lt (h.own z hm) hzb).2; omega
      rw [List.nodup_append] at hsub ⊢
      refine ⟨hsub.1, List.nodup_cons.2 ⟨fun hm => ?_, hsub.2.1⟩, fun u hu v hv => ?_⟩
      · obtain ⟨z, hz, hzb⟩ := List.mem_filterMap.1 hm
        exact hfresh z (.inr hz) hzb
      · rcases List.mem_cons.1 hv with rfl | hv
        · rintro rfl
          obtain ⟨z, hz, hzb⟩ := List.mem_filterMap.1 hu
          exact hfresh z (.inl hz) hzb
        · exact hsub.2.2 u hu v hv
end
/-! Reading what one owns. -/
section
variable {w0 w w' : World} {H : List HE}
theorem Hp.rd_blk (h : Hp w0 H w) {i b : Nat} {t : TypeId} {cs : List Value} {fz : Nat × Nat} (hi : H[i]? = some (.blk b t cs fz)) : Rd w ⟨b, 0, none⟩ cs := fun j u hu => by
  have h1 := (h.at_ hi).2.1
  rw [addr_add, Nat.zero_add, cell_of_row w b j _ t fz h1]
  simpa using hu
theorem Hp.cell_blk (h : Hp w0 H w) {i b o : Nat} {t : TypeId} {cs : List Value} {fz : Nat × Nat} {v : Value} (hi : H[i]? = some (.blk b t cs fz)) (hv : cs[o]? = some v) : w.cell? ⟨b, o, none⟩ = some v := by
  have := h.rd_blk hi o v hv
  rwa [addr_add, Nat.zero_add] at this
theorem Hp.rd_blk_at (h : Hp w0 H w) {i b o n : Nat} {t : TypeId} {cs vs : List Value} {fz : Nat × Nat} (hi : H[i]? = some (.blk b t cs fz)) (hv : (cs.drop o).take n = vs) : Rd w ⟨b, o, none⟩ vs := by
  have := ((h.rd_blk hi).drop o).take n
  rwa [addr_add, Nat.zero_add, hv] at this
theorem owns_sl {base : Nat} {t : TypeId} {A : Option Addr} {n c sz : Nat} {xs : List Value} (h : w.ownsRow base t sz (.slice A n c) n xs) : Sl w A n sz xs := by
  refine ⟨h.1, fun hn => ?_⟩
  obtain ⟨g, cap, hv, _, hlt⟩ := h.form hn
  have hA : A = some ⟨g, 0, none⟩ := by injection hv
  subst hA
  exact ⟨_, rfl, h.cells (g := g) rfl⟩
theorem Hp.row_some (h : Hp w0 H w) {i n c sz : Nat} {A : Option Addr} {t : TypeId} {xs : List Value} (hi : H[i]? = some (.row A n c t sz xs)) (hn : 0 < n) : ∃ g, A = some ⟨g, 0, none⟩ := by
  obtain ⟨g, cap, hv, _⟩ := World.ownsRow.form (h.at_ hi) hn
  injection hv with hA
  exact ⟨g, hA⟩
theorem Hp.cell_row (h : Hp w0 H w) {i b n c sz o : Nat} {t : TypeId} {xs : List Value} {v : Value} (hi : H[i]? = some (.row (some ⟨b, 0, none⟩) n c t sz xs)) (hv : xs[o]? = some v) : w.cell? ⟨b, o, none⟩ = some v := by
  have := World.ownsRow.cells (h.at_ hi) (g := b) rfl o v hv
  rwa [addr_add, Nat.zero_add] at this
theorem Hp.row_len (h : Hp w0 H w) {i n c sz : Nat} {A : Option Addr} {t : TypeId} {xs : List Value} (hi : H[i]? = some (.row A n c t sz xs)) : xs.length = n * sz := (h.at_ hi).1
theorem Hp.sl_row (h : Hp w0 H w) {i n c sz : Nat} {A : Option Addr} {t : TypeId} {xs : List Value} (hi : H[i]? = some (.row A n c t sz xs)) : Sl w A n sz xs := owns_sl (h.at_ hi)
end
section
variable {P : Program} {ρ : Rf} {w : World} {d : Option Nat} {ty : TypeId} {pos : String} {af : Array Edge} {g : Option (Nat × Bool)}
theorem x_load {t : TypeId} {x : Operand} {ad : Addr} {n by' : Nat} {zc vs : List Value} (ht : tinfo P t = some (n, true, by', zc)) (hx : ev ρ x = .pointer (some ad)) (hr : Rd w ad vs) (hl : vs.length = n) :
    (execOp (ev ρ) ⟨d, .load t x, ty, pos, af, g⟩).run P w = .ok (.value (.agg vs.toArray)) w := by
  subst hl
  simp [execOp, hx, Instr.loadAt, Instr.sureAddr, loadVar, run_isAgg' ht, run_sizeOf' ht, run_loadCells_list (P := P) w ad vs hr]
theorem x_load1 {t : TypeId} {x : Operand} {ad : Addr} {n by' : Nat} {zc : List Value} {v : Value} (ht : tinfo P t = some (n, false, by', zc)) (hx : ev ρ x = .pointer (some ad)) (hc : w.cell? ad = some v) :
    (execOp (ev ρ) ⟨d, .load t x, ty, pos, af, g⟩).run P w = .ok (.value v) w := by
  simp [execOp, hx, Instr.loadAt, Instr.sureAddr, loadVar, run_isAgg' ht, run_load, hc]
theorem lv_agg {t : TypeId} {ad : Addr} {n by' : Nat} {zc vs : List Value} (ht : tinfo P t = some (n, true, by', zc)) (hr : Rd w ad vs) (hl : vs.length = n) :
    (loadVar t ad).run P w = .ok (.agg vs.toArray) w := by
  subst hl
  simp [loadVar, run_isAgg' ht, run_sizeOf' ht, run_loadCells_list (P := P) w ad vs hr]
theorem lv_one {t : TypeId} {ad : Addr} {n by' : Nat} {zc : List Value} {v : Value} (ht : tinfo P t = some (n, false, by', zc)) (hc : w.cell? ad = some v) :
    (loadVar t ad).run P w = .ok v w := by
  simp [loadVar, run_isAgg' ht, run_load, hc]
/-- The offset of a struct's field of at least one cell. -/
def fieldOff (P : Program) (s : TypeId) (i : Nat) : Option (Nat × TypeId) :=
  match P.underlying s with
  | some (.struct fs) => match fs[i]? with
    | some f => if P.cellsOf f.type = 0 then none else some (f.offset, f.type)
    | none => none
  | _ => none
theorem x_fieldAddr {s : TypeId} {x : Operand} {f b o off : Nat} {ft : TypeId} (hf : fieldOff P s f = some (off, ft)) (hx : ev ρ x = .pointer (some ⟨b, o, none⟩)) :
    (execOp (ev ρ) ⟨d, .fieldAddr s x f, ty, pos, af, g⟩).run P w = .ok (.value (.pointer (some ⟨b, o + off, none⟩))) w := by
  unfold fieldOff at hf
  split at hf
  · rename_i fs hs
    split at hf
    · rename_i fd hfd
      split at hf
      · cases hf
      · rename_i hc
        simp only [Option.some.injEq, Prod.mk.injEq] at hf
        obtain ⟨rfl, rfl⟩ := hf
        have hsz : ∃ i, P.info? fd.type = some i ∧ i.size ≠ 0 := by
          unfold Program.cellsOf at hc
          cases hi : P.info? fd.type with
          | none => simp [hi] at hc
          | some i => exact ⟨i, rfl, by simpa [hi] using hc⟩
        obtain ⟨i, hi, hi0⟩ := hsz
        simp [execOp, hx, Instr.fieldAt, run_underlying hs, hfd, Instr.sureAddr, fieldPlace, sizeOf, typeInfo, hi, hi0, addr_add]
    · cases hf
  · cases hf
theorem x_fieldAddrA {s : TypeId} {x : Operand} {f off : Nat} {ad : Addr} {ft : TypeId} (hf : fieldOff P s f = some (off, ft)) (hx : ev ρ x = .pointer (some ad)) :
    (execOp (ev ρ) ⟨d, .fieldAddr s x f, ty, pos, af, g⟩).run P w = .ok (.value (.pointer (some (ad.add off)))) w := by
  unfold fieldOff at hf
  split at hf
  · rename_i fs hs
    split at hf
    · rename_i fd hfd
      split at hf
      · cases hf
      · rename_i hc
        simp only [Option.some.injEq, Prod.mk.injEq] at hf
        obtain ⟨rfl, rfl⟩ := hf
        have hsz : ∃ i, P.info? fd.type = some i ∧ i.size ≠ 0 := by
          unfold Program.cellsOf at hc
          cases hi : P.info? fd.type with
          | none => simp [hi] at hc
          | some i => exact ⟨i, rfl, by simpa [hi] using hc⟩
        obtain ⟨i, hi, hi0⟩ := hsz
        simp [execOp, hx, Instr.fieldAt, run_underlying hs, hfd, Instr.sureAddr, fieldPlace, sizeOf, typeInfo, hi, hi0]
    · cases hf
  · cases hf
theorem x_field1 {s : TypeId} {x : Operand} {f off n by' : Nat} {ft : TypeId} {cs : Array Value} {v : Value} {zc : List Value} (hf : fieldOff P s f = some (off, ft)) (ht : tinfo P ft = some (n, false, by', zc)) (hx : ev ρ x = .agg cs) (hv : cs[off]? = some v) :
    (execOp (ev ρ) ⟨d, .field s x f, ty, pos, af, g⟩).run P w = .ok (.value v) w := by
  unfold fieldOff at hf
  split at hf
  · rename_i fs hs
    split at hf
    · rename_i fd hfd
      split at hf
      · cases hf
      · simp only [Option.some.injEq, Prod.mk.injEq] at hf
        obtain ⟨rfl, rfl⟩ := hf
        simp [execOp, hx, Instr.field, run_underlying hs, hfd, asAgg, part, run_isAgg' ht, hv]
    · cases hf
  · cases hf
theorem x_field {s : TypeId} {x : Operand} {f off n by' : Nat} {ft : TypeId} {cs vs : Array Value} {zc : List Value} (hf : fieldOff P s f = some (off, ft)) (ht : tinfo P ft = some (n, true, by', zc)) (hx : ev ρ x = .agg cs) (hv : cs.extract off (off + n) = vs) :
    (execOp (ev ρ) ⟨d, .field s x f, ty, pos, af, g⟩).run P w = .ok (.value (.agg vs)) w := by
  unfold fieldOff at hf
  split at hf
  · rename_i fs hs
    split at hf
    · rename_i fd hfd
      split at hf
      · cases hf
      · simp only [Option.some.injEq, Prod.mk.injEq] at hf
        obtain ⟨rfl, rfl⟩ := hf
        simp [execOp, hx, Instr.field, run_underlying hs, hfd, asAgg, part, run_isAgg' ht, run_sizeOf' ht, hv]
    · cases hf
  · cases hf
end
end Go.Proofs.YthmmofllajkejaaGreatDoor
