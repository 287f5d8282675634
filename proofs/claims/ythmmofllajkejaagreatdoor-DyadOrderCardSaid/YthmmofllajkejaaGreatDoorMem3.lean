/- The calculus' rules, more: append, make, copy, bytes and strings, ranging over a string. Plain lemmas, no program in sight. -/
import Derived.Test.YthmmofllajkejaaGreatDoorMem2
namespace Go.Proofs.YthmmofllajkejaaGreatDoor
open Go.RowKit
theorem slice_ownBlock (A : Option Addr) (n c : Nat) : (Value.slice A n c).ownBlock = A.map (·.block) := by cases A <;> rfl
theorem zrep_one (n : Nat) (z : Value) : zrep n [z] = List.replicate n z := by
  induction n with
  | zero => rfl
  | succ n ih => simp [zrep, ih, List.replicate_succ]
theorem rd_elem1 {w : World} {ad : Addr} {xs : List Value} {m : Int} {k : Nat} {v : Value} (h : Rd w ad xs) (hx : xs[k]? = some v) (hm : m = (k : Int)) : w.cell? (ad.add (m.toNat * 1)) = some v := by
  subst hm
  simpa using h k v hx
def u8s (l : List UInt8) : List Value := l.map fun c => .int .u8 c.toNat
theorem length_u8s (l : List UInt8) : (u8s l).length = l.length := by simp [u8s]
section
variable {P : Program} {w : World}
theorem run_append_nilsrc (base : Nat) (t ty e : TypeId) (i : TypeInfo) (ht : P.underlying t = some (.slice e)) (hi : P.info? e = some i)
    (v : Value) (n : Nat) (xs : List Value) (sz : Nat) (hown : w.ownsRow base e sz v n xs) (c : Nat) : (Builtin.append_ #[t, t] ty #[v, .slice none 0 c]).run P w = .ok v w := by
  rcases hown.2 with ⟨rfl, rfl⟩ | ⟨g, cap, cur, rfl, _, _, hnc, _⟩
  · simp [Builtin.append_, run_underlying ht, sizeOf, typeInfo, hi, Builtin.lenOf, Builtin.firstCells]
  · simp [Builtin.append_, run_underlying ht, sizeOf, typeInfo, hi, Builtin.lenOf, Builtin.firstCells, hnc, storeCells]
theorem run_append_sl (base : Nat) (t ty e : TypeId) (sz by' : Nat) (ag : Bool) (zc : List Value) (ht : P.underlying t = some (.slice e)) (hte : tinfo P e = some (sz, ag, by', zc)) (hzl : zc.length = sz) (hsz : 0 < sz)
    (A : Option Addr) (n c : Nat) (xs : List Value) (hown : w.ownsRow base e sz (.slice A n c) n xs) (B : Option Addr) (m c' : Nat) (news : List Value) (hsl : Sl w B m sz news) (h1 : ∀ u ∈ news, u.oneCell' = true)
    (h63 : n + m ≤ maxLen) (hbytes : (n + m) * by' ≤ 140737488355328) (hbase : base ≤ w.heap.size) :
    ∃ A' c2 w', (Builtin.append_ #[t, t] ty #[.slice A n c, .slice B m c']).run P w = .ok (.slice A' (n + m) c2) w' ∧ w'.ownsRow base e sz (.slice A' (n + m) c2) (n + m) (xs ++ news) ∧
      w.grownBy w' (A.map (·.block)) ∧ (A'.map (·.block) = A.map (·.block) ∨ A'.map (·.block) = none ∨ A'.map (·.block) = some w.heap.size) := by
  obtain ⟨i, z, d, hi, hd, hz, hs, hby, hzc, _⟩ := tinfo_spec hte
  have hzs : z.cells.size = sz := by rw [hzc]; simpa using hzl
  have fin : ∀ (ad : Addr), B = some ad → Rd w ad news → ∃ A' c2 w', (Builtin.append_ #[t, t] ty #[.slice A n c, .slice B m c']).run P w = .ok (.slice A' (n + m) c2) w' ∧ w'.ownsRow base e sz (.slice A' (n + m) c2) (n + m) (xs ++ news) ∧
      w.grownBy w' (A.map (·.block)) ∧ (A'.map (·.block) = A.map (·.block) ∨ A'.map (·.block) = none ∨ A'.map (·.block) = some w.heap.size) := by
    rintro ad rfl hr
    obtain ⟨v', w', hrun, h2, h3, _, h5⟩ := run_append_own_at (P := P) w base t ty e i z sz by' ht hi hz hs hby hzs hsz (.slice A n c) n xs hown ad m c' news hsl.1 hr h1 h63 hbytes hbase
    rw [slice_ownBlock] at h3
    rcases h2.2 with ⟨hv, h0⟩ | ⟨g, cap, cur, hv, r⟩
    · subst hv
      refine ⟨none, 0, w', by rw [hrun, h0], by rw [h0]; exact h0 ▸ h2, h3, .inr (.inl rfl)⟩
    · subst hv
      refine ⟨_, _, w', hrun, h2, h3, ?_⟩
      rcases h5 with h5 | h5
      · exact .inl (by rw [← slice_ownBlock _ (n + m) cap, h5, slice_ownBlock])
      · exact .inr (.inr (by rw [← slice_ownBlock _ (n + m) cap, h5]))
  rcases Nat.eq_zero_or_pos m with h0 | h0
  · subst h0
    have hnews : news = [] := List.eq_nil_of_length_eq_zero (by simpa using hsl.1)
    subst hnews
    cases B with
    | none => exact ⟨A, c, w, run_append_nilsrc base t ty e i ht hi _ n xs sz hown c', by simpa using hown, World.grownBy.refl _ _, .inl rfl⟩
    | some ad => exact fin ad rfl (fun j u hu => by simp at hu)
  · obtain ⟨ad, hB, hr⟩ := hsl.2 h0
    exact fin ad hB hr
theorem run_bytes_str {A : Option Addr} {n c : Nat} {l : List UInt8} (h : Sl w A n 1 (u8s l)) : (Conv.bytesToString (.slice A n c)).run P w = .ok (.string ⟨l.toArray⟩) w := by
  have hn : l.length = n := by have := h.1; rw [length_u8s] at this; omega
  cases A with
  | none =>
    have h0 : n = 0 := by
      rcases Nat.eq_zero_or_pos n with h0 | h0
      · exact h0
      · obtain ⟨ad, h1, _⟩ := h.2 h0; cases h1
    have : l = [] := List.eq_nil_of_length_eq_zero (by omega)
    subst this
    simp [Conv.bytesToString, ByteArray.empty, ByteArray.emptyWithCapacity]
    rfl
  | some a =>
    have hr : Rd w a (u8s l) := by
      rcases Nat.eq_zero_or_pos n with h0 | h0
      · have : l = [] := List.eq_nil_of_length_eq_zero (by omega)
        subst this
        intro j u hu; simp [u8s] at hu
      · obtain ⟨ad, h1, h2⟩ := h.2 h0
        injection h1 with h1; subst h1; exact h2
    have e1 : u8s l = (l.map fun c : UInt8 => (c.toNat : Int)).map (Value.int .u8) := by simp [u8s]
    have hld := run_loadCells_list (P := P) w a (u8s l) hr
    rw [length_u8s, hn, e1] at hld
    rw [run_bytesToString w a n c _ hld]
    congr 2
    have : ∀ (l : List UInt8) (s : ByteArray), (l.map fun c : UInt8 => (c.toNat : Int)).foldl (fun r n => r.push (UInt8.ofNat n.toNat)) s = ⟨s.data ++ l.toArray⟩ := by
      intro l
      induction l with
      | nil => intro s; simp
      | cons c l ih =>
        intro s
        simp only [List.map_cons, List.foldl_cons]
        rw [ih]
        have : (s.push (UInt8.ofNat ((c.toNat : Int)).toNat)).data = s.data.push c := by simp [ByteArray.push]
        rw [this]
        congr 1
        apply Array.ext'
        simp
    rw [this]
    congr 1
    apply Array.ext'
    simp [ByteArray.empty, ByteArray.emptyWithCapacity]
    rfl
end
section
variable {P : Program} {N : Nat} {ops : Array Oper} {Q : Kq} {ρ : Rf} {w w0 : World} {rest : List Oper} {H : List HE} {d : Nat} {ty : TypeId} {pos : String} {af : Array Edge}
theorem wl_append (hh : Hp w0 H w) {t e : TypeId} {s x : Operand} {i n c m c' sz by' : Nat} {ag : Bool} {A B : Option Addr} {zc xs news : List Value} (hi : H[i]? = some (.row A n c e sz xs)) (hs : ev ρ s = .slice A n c) (hx : ev ρ x = .slice B m c')
    (hsl : Sl w B m sz news) (ht : P.underlying t = some (.slice e)) (hte : tinfo P e = some (sz, ag, by', zc)) (hzl : zc.length = sz) (hsz : 0 < sz) (h1 : (news.all Value.oneCell') = true)
    (h63 : n + m ≤ 9223372036854775807) (hbytes : (n + m) * by' ≤ 140737488355328) (hN : d < N)
    (k : ∀ A' c2 w', Hp w0 (H.set i (.row A' (n + m) c2 e sz (xs ++ news))) w' → WL P N ops Q rest (upd ρ d (.slice A' (n + m) c2)) w') :
    WL P N ops Q (⟨some d, .call ⟨.builtin .append, #[s, x], #[t, t]⟩, ty, pos, af, none⟩ :: rest) ρ w := by
  obtain ⟨A', c2, w', hr, hown, hg, hid⟩ := run_append_sl (P := P) w0.heap.size t ty e sz by' ag zc ht hte hzl hsz A n c xs (hh.at_ hi) B m c' news hsl (by simpa using h1) (by unfold maxLen; omega) hbytes hh.size
  refine wl_val rfl rfl hN (w' := w') (v := .slice A' (n + m) c2) ?_ (k A' c2 w' (hh.grown hi hg hid hown))
  simp only [execOp, resolve, invoke, builtin, Sem.run_bind, Sem.run_pure, Result.andThen_ok, List.map_toArray, List.map_cons, List.map_nil, hs, hx, hr]
theorem wl_make (hh : Hp w0 H w) {t e : TypeId} {l cp : Operand} {kl kc : IntKind} {L C : Int} {n sz by' : Nat} {ag : Bool} {zc : List Value} (hl : ev ρ l = .int kl L) (hc : ev ρ cp = .int kc C) (hL : L = (n : Int)) (hC : C = (n : Int))
    (ht : P.underlying t = some (.slice e)) (hte : tinfo P e = some (sz, ag, by', zc)) (hzl : zc.length = sz) (hb : by' * n ≤ 281474976710656) (h63 : n ≤ 9223372036854775807) (hN : d < N)
    (k : ∀ b w', Hp w0 (.row (some ⟨b, 0, none⟩) n n e sz (zrep n zc) :: H) w' → WL P N ops Q rest (upd ρ d (.slice (some ⟨b, 0, none⟩) n n)) w') :
    WL P N ops Q (⟨some d, .makeSlice t l cp, ty, pos, af, none⟩ :: rest) ρ w := by
  obtain ⟨i, z, dd, hi, hd, hz, hs, hby, hzc, _⟩ := tinfo_spec hte
  subst hL; subst hC
  obtain ⟨w', hr, hown, hg⟩ := run_make_full (P := P) w w.heap.size t e i z sz ht hi hz hs kl kc n (by rw [hby]; exact hb) (by unfold maxLen; omega) (Nat.le_refl _)
  have hzz : (madeCells z.cells (n * sz)).toList = zrep n zc := by
    have := zrep_arr n zc
    rw [hzl] at this
    unfold madeCells
    rw [hzc]
    have e2 : zc.toArray.size = sz := by simpa using hzl
    rw [e2, this]
  rw [hzz] at hown
  refine wl_val rfl rfl hN (w' := w') (v := .slice (some ⟨w.heap.size, 0, none⟩) n n) ?_ (k _ w' (hh.push_new ⟨hg.os, hg.tape, hg.output, hg.size, fun j hj => hg.block j hj (by simp)⟩ hown))
  simp [execOp, hl, hc, hr]
theorem wl_buildSlice0 (hh : Hp w0 H w) {t e : TypeId} {sz by' : Nat} {ag : Bool} {zc : List Value} (ht : P.underlying t = some (.slice e)) (hte : tinfo P e = some (sz, ag, by', zc)) (hN : d < N)
    (k : ∀ b w', Hp w0 (.row (some ⟨b, 0, none⟩) 0 0 e sz [] :: H) w' → WL P N ops Q rest (upd ρ d (.slice (some ⟨b, 0, none⟩) 0 0)) w') : WL P N ops Q (⟨some d, .buildSlice t 0 #[], ty, pos, af, none⟩ :: rest) ρ w := by
  refine wl_val rfl rfl hN (w' := w.alloc (.cells #[] e)) (v := .slice (some ⟨w.heap.size, 0, none⟩) 0 0) ?_ (k _ _ (hh.new_row e sz 0 [] (by simp) (by unfold maxLen; omega)))
  have e0 : Array.range 0 = #[] := rfl
  simp [execOp, Instr.buildSlice, run_underlying ht, run_sizeOf' hte, Instr.fill, newRow, e0]
theorem x_bytes_str {dd : Option Nat} {g : Option (Nat × Bool)} {s t e : TypeId} {x : Operand} {A : Option Addr} {n c : Nat} {l : List UInt8} (hs : P.underlying s = some (.slice e)) (he : P.underlying e = some (.int .u8)) (ht : P.underlying t = some .string)
    (hx : ev ρ x = .slice A n c) (h : Sl w A n 1 (u8s l)) : (execOp (ev ρ) ⟨dd, .convert s t x, ty, pos, af, g⟩).run P w = .ok (.value (.string ⟨l.toArray⟩)) w := by
  simp [execOp, hx, run_convert_bytes_string w s t e A n c hs he ht, run_bytes_str h]
/-- []byte(s): the bytes, and behind them what the capacity leaves. -/
theorem wl_str_bytes (hh : Hp w0 H w) {s t e : TypeId} {x : Operand} {b : ByteArray} (hs : P.underlying s = some .string) (ht : P.underlying t = some (.slice e)) (he : P.underlying e = some (.int .u8)) (hx : ev ρ x = .string b) (hN : d < N)
    (k : ∀ g c ex w', Hp w0 (.blk g e (u8s b.data.toList ++ ex) ((u8s b.data.toList ++ ex).length, (u8s b.data.toList ++ ex).length + 1) :: H) w' → WL P N ops Q rest (upd ρ d (.slice (some ⟨g, 0, none⟩) b.size c)) w') :
    WL P N ops Q (⟨some d, .convert s t x, ty, pos, af, none⟩ :: rest) ρ w := by
  let c := grownCap w b.size 0 e
  let ex : List Value := List.replicate (c - b.size) (.int .u8 0)
  let cells : List Value := u8s b.data.toList ++ ex
  let w1 := w.drew.alloc (.cells cells.toArray e)
  let w' := w1.freeze ⟨w.heap.size, cells.length, none⟩ 1
  have hw1 : w1.heap[w.heap.size]? = some (.cells cells.toArray e (0, 0)) := heap_alloc_new w.drew _
  have hheap : w'.heap[w.heap.size]? = some (.cells cells.toArray e (cells.length, cells.length + 1)) := by
    show (w1.heap.modify w.heap.size _)[w.heap.size]? = _
    rw [Array.getElem?_modify, if_pos rfl, hw1]
    simp
  have hbl : Below w.heap.size w w' := by
    refine ⟨rfl, rfl, rfl, ?_, fun j hj => ?_⟩
    · show w.heap.size ≤ (w1.heap.modify w.heap.size _).size
      rw [Array.size_modify]
      show w.heap.size ≤ w1.heap.size
      simp [w1]
    · show (w1.heap.modify w.heap.size _)[j]? = _
      rw [Array.getElem?_modify, if_neg (by omega)]
      exact Below.heap_alloc w.drew _ j hj
  refine wl_val rfl rfl hN (w' := w') (v := .slice (some ⟨w.heap.size, 0, none⟩) b.size c) ?_ (k w.heap.size c ex w' (hh.push_new hbl ⟨Nat.le_refl _, hheap, .inl (Nat.le_refl _)⟩))
  have harr : (b.data.map fun b => Value.int .u8 b.toNat) ++ Array.replicate (c - b.size) (Value.int .u8 0) = cells.toArray := by
    apply Array.ext'
    simp [cells, ex, u8s]
  have hsh : w1.shape? w.heap.size = some (e, cells.length) := by simp [World.shape?, hw1]
  have hch : (choose (.appendCap b.size 0 e)).run P w = .ok c w.drew := by simp [choose, Sem.run, Question.forced, grownCap, c]
  have hnr : (newRow e cells.toArray).run P w.drew = .ok ⟨w.heap.size, 0, none⟩ w1 := by simp [newRow, w1]
  have hms : (markStringish ⟨w.heap.size, 0, none⟩).run P w1 = .ok () w' := by simp [markStringish, shape, Sem.run, hsh, freeze, w']
  simp only [execOp, hx, convert, Sem.run_bind, run_underlying hs, run_underlying ht, run_underlying he, Result.andThen_ok, Conv.stringToBytes]
  rw [hch, Result.andThen_ok, harr, hnr, Result.andThen_ok, hms, Result.andThen_ok, Sem.run_pure, Result.andThen_ok, Sem.run_pure]
/-- Ranging over a string all of whose bytes are below 128. -/
theorem wl_range_str (hh : Hp w0 H w) {t : TypeId} {x : Operand} {s : ByteArray} (ht : P.underlying t = some .string) (hx : ev ρ x = .string s) (hN : d < N)
    (k : ∀ b w', Hp w0 (.it b s 0 :: H) w' → WL P N ops Q rest (upd ρ d (.pointer (some ⟨b, 0, none⟩))) w') : WL P N ops Q (⟨some d, .range t x, ty, pos, af, none⟩ :: rest) ρ w := by
  refine wl_val rfl rfl hN (w' := w.alloc (.stringIter s 0)) (v := .pointer (some ⟨w.heap.size, 0, none⟩)) (by simp [execOp, hx, Instr.range, run_underlying ht]) (k _ _ (hh.push_new ((Below.refl _ _).alloc (Nat.le_refl _) _) ⟨Nat.le_refl _, heap_alloc_new w _⟩))
theorem wl_next_done (hh : Hp w0 H w) {x : Operand} {i b p : Nat} {s : ByteArray} (hi : H[i]? = some (.it b s p)) (hx : ev ρ x = .pointer (some ⟨b, 0, none⟩)) (hp : ¬ p < s.size) (hN : d < N)
    (k : WL P N ops Q rest (upd ρ d (.tuple #[.bool false])) w) : WL P N ops Q (⟨some d, .next x true, ty, pos, af, none⟩ :: rest) ρ w := by
  have h1 := (hh.at_ hi).2
  refine wl_val rfl rfl hN (w' := w) (v := .tuple #[.bool false]) ?_ k
  simp [execOp, hx, Instr.next, getObj, Sem.run, h1, hp]
theorem wl_next_more (hh : Hp w0 H w) {x : Operand} {i b p : Nat} {s : ByteArray} {c : UInt8} (hi : H[i]? = some (.it b s p)) (hx : ev ρ x = .pointer (some ⟨b, 0, none⟩)) (hc : s.data.toList[p]? = some c) (h128 : c.toNat < 128) (hN : d < N)
    (k : ∀ w', Hp w0 (H.set i (.it b s (p + 1))) w' → WL P N ops Q rest (upd ρ d (.tuple #[.bool true, .int .i64 p, .int .i32 c.toNat])) w') : WL P N ops Q (⟨some d, .next x true, ty, pos, af, none⟩ :: rest) ρ w := by
  have h1 := (hh.at_ hi).2
  obtain ⟨hlt, hcc⟩ := List.getElem?_eq_some_iff.1 hc
  have hlt' : p < s.size := by simpa using hlt
  have hget : s.get! p = c := by
    have : s.get! p = s.data[p]! := rfl
    rw [this, getElem!_pos s.data p hlt']
    simpa using hcc
  have hdec : Utf8.decode s p = (c.toNat, 1) := by
    unfold Utf8.decode
    simp only [Nat.add_zero, hget]
    rw [if_pos h128]
  let w' : World := { w with heap := w.heap.setIfInBounds b (.stringIter s (p + 1)) }
  have hb := holds_lt (hh.at_ hi) (b := b) rfl
  have hg : w.grownBy w' (some b) := ⟨rfl, rfl, rfl, by simp [w'], fun k _ hne => by
    show (w.heap.setIfInBounds b _)[k]? = _
    rw [Array.getElem?_setIfInBounds_ne (fun e => hne (by rw [e]))]⟩
  refine wl_val rfl rfl hN (w' := w') (v := .tuple #[.bool true, .int .i64 p, .int .i32 c.toNat]) ?_ (k w' (hh.grown hi hg (.inl rfl) ⟨hb.1, ?_⟩))
  · simp [execOp, hx, Instr.next, getObj, setObj, Sem.run, h1, hlt', hdec, goInt, w']
  · show (w.heap.setIfInBounds b _)[b]? = _
    simp [hb.2]
end
end Go.Proofs.YthmmofllajkejaaGreatDoor
