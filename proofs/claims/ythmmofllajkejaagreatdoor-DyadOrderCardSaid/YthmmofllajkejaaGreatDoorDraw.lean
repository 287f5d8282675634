/- The calculus' rule for a region whose order is left open: every operation but a last run of them reads and calls in whatever order; each is met by itself. Plain lemmas, no program in sight. -/
import Derived.Test.YthmmofllajkejaaGreatDoorSteps
namespace Go.Proofs.YthmmofllajkejaaGreatDoor
open Go.RowKit
section
variable {P : Program} {N : Nat} {Q : Kq} {ρ : Rf} {w : World}
/-- Must the operation k come behind i? (to a depth) -/
def dep (ops : Array Oper) : Nat → Nat → Nat → Bool
  | 0, _, _ => false
  | n + 1, k, i => match ops[k]? with
    | none => false
    | some o => (o.after.any fun e => Region.binds .any e && e.on == i) || o.after.any fun e => Region.binds .any e && dep ops n e.on i
def Closed (ops : Array Oper) (L : Array Bool) : Prop := ∀ k o, ops[k]? = some o → L.getD k false = true → ∀ e ∈ o.after, Region.binds .any e = true → L.getD e.on false = true
theorem dep_spec {ops : Array Oper} {L : Array Bool} (hc : Closed ops L) : ∀ (n k i : Nat), (∀ o, ops[k]? = some o → ∀ e ∈ o.after, Region.binds .any e = true → L.getD e.on false = true) → dep ops n k i = true → L.getD i false = true
  | 0, _, _, _, h => by simp [dep] at h
  | n + 1, k, i, hk, h => by
    unfold dep at h
    split at h
    · cases h
    · rename_i o ho
      rw [Bool.or_eq_true] at h
      rcases h with h | h
      · obtain ⟨e, he, h⟩ := Array.any_eq_true'.1 h
        simp only [Bool.and_eq_true, beq_iff_eq] at h
        rw [← h.2]
        exact hk o ho e he h.1
      · obtain ⟨e, he, h⟩ := Array.any_eq_true'.1 h
        simp only [Bool.and_eq_true] at h
        have h1 := hk o ho e he h.1
        exact dep_spec hc n e.on i (fun o' ho' => hc e.on o' ho' h1) h.2
/-- One operation, guard and all: what it yields meets K. -/
structure OG (P : Program) (ops : Array Oper) (o : Oper) (ρ : Rf) (w : World) (K : Value → World → Prop) : Prop where
  out : ∀ (a : Act) (next : Act → World → Prop) (Q : Exit → Act → World → Prop), (∀ i, a.tmps.getD i undef = ρ i) → (∀ v w', K v w' → next (a.put o.dst v) w') →
    if Region.wanted o (yielded ops a.tmps) then o.wp P a w next Q ∨ (o.asks P a w ∧ LetsOut Q) else next (a.put o.dst undef) w
theorem eval_of {a : Act} (h : ∀ i, a.tmps.getD i undef = ρ i) : a.eval = ev ρ := by
  funext x
  cases x with
  | tmp t => exact h t
  | _ => rfl
theorem og_val {ops : Array Oper} {o : Oper} {K : Value → World → Prop} {v : Value} {w' : World} (hg : o.guard = none) (hr : (execOp (ev ρ) o).run P w = .ok (.value v) w') (hk : K v w') : OG P ops o ρ w K :=
  ⟨fun a next Q ha hn => by
    rw [if_pos (by simp [Region.wanted, hg])]
    refine .inl ?_
    unfold Oper.wp
    rw [eval_of ha, hr]
    exact hn _ _ hk⟩
theorem og_enter {ops : Array Oper} {o : Oper} {K : Value → World → Prop} {f : FuncId} {args : Array Value} {w1 : World} {R : Ending → World → Prop} (hg : o.guard = none) (hr : (execOp (ev ρ) o).run P w = .ok (.enter f args) w1) (hc : Calls P f args w1 R)
    (hk : ∀ e w', R e w' → ∃ v, e = .returned v ∧ K v w') : OG P ops o ρ w K :=
  ⟨fun a next Q ha hn => by
    rw [if_pos (by simp [Region.wanted, hg])]
    refine .inl ?_
    unfold Oper.wp
    rw [eval_of ha, hr]
    show Calls P f args w1 _
    refine hc.mono fun e w' hR => ?_
    obtain ⟨v, rfl, hkv⟩ := hk e w' hR
    exact hn _ _ hkv⟩
theorem og_guard_take {ops : Array Oper} {K : Value → World → Prop} {d : Option Nat} {op : Op} {ty : TypeId} {pos : String} {af : Array Edge} {j dj : Nat} {b : Bool}
    (hj : (ops[j]?).bind (·.dst) = some dj) (hv : ρ dj = .bool b) (h : OG P ops ⟨d, op, ty, pos, af, none⟩ ρ w K) : OG P ops ⟨d, op, ty, pos, af, some (j, b)⟩ ρ w K :=
  ⟨fun a next Q ha hn => by
    have h1 : Region.wanted ⟨d, op, ty, pos, af, some (j, b)⟩ (yielded ops a.tmps) = true := by
      have h2 := ha dj
      rw [hv, Array.getD_eq_getD_getElem?] at h2
      cases h3 : a.tmps[dj]? with
      | none => rw [h3] at h2; cases h2
      | some x =>
        rw [h3] at h2
        simp only [Option.getD_some] at h2
        subst h2
        simp [Region.wanted, yielded, hj, h3]
    have h2 := h.out a next Q ha hn
    rw [if_pos (by simp [Region.wanted])] at h2
    rw [if_pos h1]
    exact h2⟩
theorem og_guard_skip {ops : Array Oper} {K : Value → World → Prop} {d : Option Nat} {op : Op} {ty : TypeId} {pos : String} {af : Array Edge} {j dj : Nat} {b c : Bool}
    (hj : (ops[j]?).bind (·.dst) = some dj) (hv : ρ dj = .bool c) (hb : c ≠ b) (h : K undef w) : OG P ops ⟨d, op, ty, pos, af, some (j, b)⟩ ρ w K :=
  ⟨fun a next Q ha hn => by
    have h1 : Region.wanted ⟨d, op, ty, pos, af, some (j, b)⟩ (yielded ops a.tmps) = false := by
      have h2 := ha dj
      rw [hv, Array.getD_eq_getD_getElem?] at h2
      cases h3 : a.tmps[dj]? with
      | none => rw [h3] at h2; cases h2
      | some x =>
        rw [h3] at h2
        simp only [Option.getD_some] at h2
        subst h2
        simp [Region.wanted, yielded, hj, h3, hb]
    rw [h1]
    exact hn _ _ h⟩
/-- What an operation reads: slots, each with the operation whose value it sees, or none: as the region began. -/
def RdOk (V : Nat → Value → World → Prop) (ρ ρ1 : Rf) (w1 : World) : List (Nat × Option Nat) → Prop
  | [] => True
  | (t, some j) :: r => V j (ρ1 t) w1 ∧ RdOk V ρ ρ1 w1 r
  | (t, none) :: r => ρ1 t = ρ t ∧ RdOk V ρ ρ1 w1 r
def DO (P : Program) (ops : Array Oper) (J : World → Prop) (V : Nat → Value → World → Prop) (ρ : Rf) : Nat → List Oper → List (List (Nat × Option Nat)) → Prop
  | i, o :: os, s :: ss => ((∀ v w w', V i v w → Below w.heap.size w w' → V i v w') ∧ ∀ ρ1 w1, J w1 → RdOk V ρ ρ1 w1 s → OG P ops o ρ1 w1 fun v w2 => Below w1.heap.size w1 w2 ∧ V i v w2) ∧ DO P ops J V ρ (i + 1) os ss
  | _, [], [] => True
  | _, _, _ => False
theorem do_at {ops : Array Oper} {J : World → Prop} {V : Nat → Value → World → Prop} : ∀ (l : List Oper) (ss : List (List (Nat × Option Nat))) (i : Nat), DO P ops J V ρ i l ss → l.length = ss.length ∧ ∀ k o, l[k]? = some o → ∃ s, ss[k]? = some s ∧
    (∀ v w w', V (i + k) v w → Below w.heap.size w w' → V (i + k) v w') ∧ ∀ ρ1 w1, J w1 → RdOk V ρ ρ1 w1 s → OG P ops o ρ1 w1 fun v w2 => Below w1.heap.size w1 w2 ∧ V (i + k) v w2
  | [], [], _, _ => ⟨rfl, fun k o h => by simp at h⟩
  | [], _ :: _, _, h => h.elim
  | _ :: _, [], _, h => h.elim
  | o :: l, s :: ss, i, h => by
    obtain ⟨h1, h2⟩ := do_at l ss (i + 1) h.2
    refine ⟨by simp [h1], fun k o' hk => ?_⟩
    cases k with
    | zero =>
      simp only [List.getElem?_cons_zero, Option.some.injEq] at hk
      subst hk
      exact ⟨s, rfl, h.1⟩
    | succ k =>
      obtain ⟨s', hs, h3⟩ := h2 k o' (by simpa using hk)
      refine ⟨s', by simpa using hs, ?_⟩
      have e : i + 1 + k = i + (k + 1) := by omega
      rw [e] at h3
      exact h3
def updL (ρ : Rf) (f : Nat → Value) : List (Nat × Nat) → Rf
  | [] => ρ
  | (i, d) :: r => upd (updL ρ f r) d (f i)
def AllV (V : Nat → Value → World → Prop) (f : Nat → Value) (w : World) : List (Nat × Nat) → Prop
  | [] => True
  | (i, _) :: r => V i (f i) w ∧ AllV V f w r
def upTo (n k : Nat) : Array Bool := (List.replicate k true ++ List.replicate (n - k) false).toArray
/-- The closed facts on a region: see wc_draw. -/
def drawOk (l : List Oper) (m N : Nat) (src : List (List (Nat × Option Nat))) (ds : List (Nat × Nat)) : Bool :=
  let ops := l.toArray
  let pre := (List.range m).map fun i => ((ops[i]?).bind (·.dst))
  (m ≤ l.length) && (src.length == m) &&
  -- the slots that the first part writes
  (ds == (pre.zipIdx.filterMap fun (d, i) => d.map fun d => (i, d)).reverse) && (decide (ds.map (·.2)).Nodup) && (ds.all fun p => p.2 < N) &&
  -- what each reads
  ((List.range m).all fun i => match ops[i]?, src[i]? with
    | some o, some s => ((o.looksAt ops).all fun t => s.any fun p => p.1 == t) &&
        s.all fun p => match p.2 with
          | some j => (j < m) && ((ops[j]?).bind (·.dst) == some p.1) && dep ops 16 i j
          | none => (List.range m).all fun j => !((ops[j]?).bind (·.dst) == some p.1) || (j != i && dep ops 16 j i)
    | _, _ => false) &&
  -- the last part comes behind the whole first one, in order
  (l.length == m || ((List.range m).all fun i => dep ops 16 m i)) &&
  ((List.range (l.length - m)).all fun k => Region.ready .any ops (upTo l.length (m + k)) == [m + k]) && (Region.ready .any ops (upTo l.length l.length) == []) &&
  ((List.range (l.length - m)).all fun k => k == 0 || dep ops 16 (m + k) m) &&
  ((List.range l.length).all fun i => match ops[i]? with | some o => o.after.all fun e => !Region.binds .any e || e.on < i | none => false)
theorem upTo_getD (n k i : Nat) : (upTo n k).getD i false = decide (i < k) := by
  unfold upTo
  rw [Array.getD_eq_getD_getElem?, List.getElem?_toArray]
  rcases Nat.lt_or_ge i k with h | h
  · rw [List.getElem?_append_left (by simpa using h)]
    simp [h]
  · rw [List.getElem?_append_right (by simpa using h), List.getElem?_replicate]
    have : ¬ i < k := by omega
    split <;> simp [this]
theorem upTo_set (n k : Nat) (hk : k < n) : (upTo n k).setIfInBounds k true = upTo n (k + 1) := by
  unfold upTo
  rw [List.setIfInBounds_toArray]
  congr 1
  apply List.ext_getElem?
  intro i
  rw [List.getElem?_set]
  simp only [List.getElem?_append, List.length_replicate, List.getElem?_replicate, List.length_append]
  by_cases h1 : k = i
  · subst h1
    rw [if_pos rfl, if_pos (by omega), if_pos (show k < k + 1 by omega), if_pos (show k < k + 1 by omega)]
  · rw [if_neg h1]
    by_cases h2 : i < k
    · rw [if_pos h2, if_pos h2, if_pos (show i < k + 1 by omega), if_pos (show i < k + 1 by omega)]
    · rw [if_neg h2, if_neg (show ¬ i < k + 1 by omega)]
      by_cases h3 : i - k < n - k
      · rw [if_pos h3, if_pos (show i - (k + 1) < n - (k + 1) by omega)]
      · rw [if_neg h3, if_neg (show ¬ i - (k + 1) < n - (k + 1) by omega)]
theorem size_upTo (n k : Nat) (hk : k ≤ n) : (upTo n k).size = n := by simp [upTo]; omega
theorem count_upTo (n k : Nat) : (upTo n k).toList.countP (fun b => b) = k := by
  simp [upTo, List.countP_replicate]
theorem eq_upTo {L : Array Bool} {n k : Nat} (hs : L.size = n) (hk : k ≤ n) (h1 : ∀ i, i < k → L.getD i false = true) (h2 : ∀ i, k ≤ i → L.getD i false = false) : L = upTo n k := by
  apply Array.ext
  · rw [hs, size_upTo n k hk]
  · intro i hi hi2
    have e1 : L[i] = L.getD i false := by simp [hi]
    have e2 : (upTo n k)[i] = (upTo n k).getD i false := by simp [hi2]
    rw [e1, e2, upTo_getD n k i]
    rcases Nat.lt_or_ge i k with h | h
    · rw [h1 i h]; simp [h]
    · rw [h2 i h]
      have : ¬ i < k := by omega
      simp [this]
theorem tail_any {l : List Oper} {Q' : Exit → Act → World → Prop} (m : Nat)
    (hr : ∀ k, m ≤ k → k < l.length → Region.ready .any l.toArray (upTo l.length k) = [k]) (hend : Region.ready .any l.toArray (upTo l.length l.length) = []) :
    ∀ (fuel k : Nat) (a : Act) (w : World), m ≤ k → k ≤ l.length → l.length ≤ fuel + k → wpList P l.toArray Q' (l.drop k) a w → wpAny P .any l.toArray Q' fuel (upTo l.length k) a w
  | fuel, k, a, w, hmk, hk, hf, h => by
    rcases Nat.lt_or_ge k l.length with hlt | hge
    · cases fuel with
      | zero => omega
      | succ fuel =>
        refine wpAny_all (hr k hmk hlt) (by simp) fun i hi => ?_
        obtain rfl : i = k := by simpa using hi
        rw [List.drop_eq_getElem_cons hlt] at h
        unfold wpList at h
        have ho : l.toArray[i]? = some l[i] := by simp [hlt]
        have hset := upTo_set l.length i hlt
        have hgo : ∀ a w, wpList P l.toArray Q' (l.drop (i + 1)) a w → wpAny P .any l.toArray Q' fuel ((upTo l.length i).setIfInBounds i true) a w := fun a w h => by
          rw [hset]
          exact tail_any m hr hend fuel (i + 1) a w (by omega) (by omega) (by omega) h
        unfold wpOp
        rw [ho]
        simp only []
        split at h
        · rename_i hw
          rw [if_pos hw]
          exact h.imp (Oper.wp_mono hgo) id
        · rename_i hw
          rw [if_neg hw]
          exact hgo _ _ h
    · obtain rfl : k = l.length := by omega
      rw [List.drop_length] at h
      exact wpAny_done hend h fuel
structure DI (N : Nat) (ops : Array Oper) (m : Nat) (ρ : Rf) (J : World → Prop) (V : Nat → Value → World → Prop) (L : Array Bool) (a : Act) (w : World) : Prop where
  nd : a.defers = []
  sz : a.tmps.size = N
  j : J w
  ls : L.size = ops.size
  cl : Closed ops L
  tl : ∀ k, m ≤ k → L.getD k false = false
  vs : ∀ i d, i < m → L.getD i false = true → (ops[i]?).bind (·.dst) = some d → V i (a.tmps.getD d undef) w
  old : ∀ s, (∀ i, i < m → L.getD i false = true → (ops[i]?).bind (·.dst) ≠ some s) → a.tmps.getD s undef = ρ s
theorem getD_set {L : Array Bool} {i j : Nat} (hi : i < L.size) : (L.setIfInBounds i true).getD j false = (decide (j = i) || L.getD j false) := by
  rw [Array.getD_eq_getD_getElem?, Array.getElem?_setIfInBounds]
  by_cases h : i = j
  · subst h; simp [hi]
  · have : ¬ j = i := fun e => h e.symm
    simp [h, this]
theorem getD_put {a : Act} {d s : Nat} {v : Value} (hd : d < a.tmps.size) : (a.put (some d) v).tmps.getD s undef = if s = d then v else a.tmps.getD s undef := by
  by_cases h : s = d
  · subst h; simp [Act.put, hd]
  · have : d ≠ s := fun e => h e.symm
    simp [Act.put, Array.getElem?_setIfInBounds_ne this, h]
theorem updL_at (f : Nat → Value) : ∀ (ds : List (Nat × Nat)) (s : Nat), (ds.map (·.2)).Nodup → (∀ i, (i, s) ∈ ds → updL ρ f ds s = f i) ∧ ((∀ i, (i, s) ∉ ds) → updL ρ f ds s = ρ s)
  | [], s, _ => ⟨fun i h => by simp at h, fun _ => rfl⟩
  | (j, d) :: r, s, h => by
    rw [List.map_cons, List.nodup_cons] at h
    obtain ⟨h1, h2⟩ := updL_at f r s h.2
    constructor
    · intro i hi
      rcases List.mem_cons.1 hi with hi' | hi'
      · injection hi' with e1 e2
        subst e1; subst e2
        exact upd_same _ _ _
      · have hne : s ≠ d := fun e => h.1 (e ▸ List.mem_map.2 ⟨_, hi', rfl⟩)
        exact (upd_other _ hne _).trans (h1 i hi')
    · intro hn
      have hne : s ≠ d := by
        rintro rfl
        exact hn j List.mem_cons_self
      exact (upd_other _ hne _).trans (h2 fun i hi => hn i (List.mem_cons_of_mem _ hi))
theorem allV_of {V : Nat → Value → World → Prop} {f : Nat → Value} {w : World} : ∀ (ds : List (Nat × Nat)), (∀ p ∈ ds, V p.1 (f p.1) w) → AllV V f w ds
  | [], _ => trivial
  | (i, d) :: r, h => ⟨h (i, d) List.mem_cons_self, allV_of r fun p hp => h p (List.mem_cons_of_mem _ hp)⟩
theorem rdOk_of {V : Nat → Value → World → Prop} {ρ1 : Rf} {w1 : World} : ∀ (s : List (Nat × Option Nat)), (∀ p ∈ s, match p.2 with | some j => V j (ρ1 p.1) w1 | none => ρ1 p.1 = ρ p.1) → RdOk V ρ ρ1 w1 s
  | [], _ => trivial
  | (t, some j) :: r, h => ⟨h (t, some j) List.mem_cons_self, rdOk_of r fun p hp => h p (List.mem_cons_of_mem _ hp)⟩
  | (t, none) :: r, h => ⟨h (t, none) List.mem_cons_self, rdOk_of r fun p hp => h p (List.mem_cons_of_mem _ hp)⟩
theorem wc_draw {id : Nat} {l : List Oper} (m : Nat) (src : List (List (Nat × Option Nat))) (ds : List (Nat × Nat)) (J : World → Prop) (V : Nat → Value → World → Prop) (hm : P.follows .mixedOrders = true) (hok : drawOk l m N src ds = true)
    (hJ : ∀ w w', J w → Below w.heap.size w w' → J w') (h0 : J w) (hops : DO P l.toArray J V ρ 0 (l.take m) src)
    (tail : ∀ f w', J w' → AllV V f w' ds → WL P N l.toArray Q (l.drop m) (updL ρ f ds) w') : WC P N (.region id l.toArray true) Q ρ w := by
  refine ⟨fun a hf => wp_region_any hm ?_⟩
  simp only [drawOk, Bool.and_eq_true, decide_eq_true_eq, beq_iff_eq, List.all_eq_true, List.mem_range] at hok
  obtain ⟨⟨⟨⟨⟨⟨⟨⟨⟨⟨hml, _⟩, hds⟩, hnd⟩, hdN⟩, hrd⟩, htail⟩, hready⟩, hend⟩, hdep⟩, hedge⟩ := hok
  have hdo := (do_at _ _ _ hops).2
  have hpre : ∀ i d, i < m → ((l.toArray[i]?).bind (·.dst)) = some d → (i, d) ∈ ds := fun i d hi hd => by
    rw [hds, List.mem_reverse, List.mem_filterMap]
    refine ⟨(some d, i), ?_, rfl⟩
    rw [List.mem_zipIdx_iff_getElem?]
    rw [List.getElem?_map, List.getElem?_range hi]
    simp only [Option.map_some, hd]
  have hdsm : ∀ i d, (i, d) ∈ ds → i < m ∧ ((l.toArray[i]?).bind (·.dst)) = some d := fun i d hp => by
    rw [hds, List.mem_reverse, List.mem_filterMap] at hp
    obtain ⟨⟨x, k⟩, hx, hxe⟩ := hp
    rw [List.mem_zipIdx_iff_getElem?] at hx
    cases x with
    | none => simp at hxe
    | some d' =>
      simp only [Option.map_some, Option.some.injEq, Prod.mk.injEq] at hxe
      obtain ⟨rfl, rfl⟩ := hxe
      rw [List.getElem?_map] at hx
      cases hr : (List.range m)[k]? with
      | none => rw [hr] at hx; simp at hx
      | some y =>
        have hkm : k < m := by
          have := (List.getElem?_eq_some_iff.1 hr).1
          simpa using this
        rw [List.getElem?_range hkm] at hx
        simp only [Option.map_some, Option.some.injEq] at hx
        exact ⟨hkm, hx⟩
  have hone : ∀ i j d, i < m → j < m → ((l.toArray[i]?).bind (·.dst)) = some d → ((l.toArray[j]?).bind (·.dst)) = some d → i = j := fun i j d hi hj h1 h2 => by
    have p1 := hpre i d hi h1
    have p2 := hpre j d hj h2
    have e1 := ((updL_at (ρ := ρ) (fun i => .int .i64 i) ds d hnd).1 i p1).symm.trans ((updL_at (ρ := ρ) (fun i => .int .i64 i) ds d hnd).1 j p2)
    injection e1 with _ e1
    omega
  have hnn : l.toArray.size = l.length := by simp
  have full : ∀ (L : Array Bool) (a : Act) (w : World) (fuel : Nat), DI N l.toArray m ρ J V L a w → (∀ i, i < m → L.getD i false = true) → l.length ≤ fuel + m → wpAny P .any l.toArray (lift N Q) fuel L a w := by
    intro L a w fuel hI hall hfu
    have hL : L = upTo l.length m := eq_upTo (by rw [hI.ls, hnn]) hml hall hI.tl
    rw [hL]
    refine tail_any m (fun k h1 h2 => ?_) hend fuel m a w (Nat.le_refl _) hml hfu ?_
    · have := hready (k - m) (by omega)
      rwa [show m + (k - m) = k by omega] at this
    · have hfits : Fits N a (updL ρ (fun i => match (l.toArray[i]?).bind (·.dst) with | some d => a.tmps.getD d undef | none => undef) ds) := by
        refine ⟨hI.nd, hI.sz, fun s => ?_⟩
        by_cases hs : ∃ i, (i, s) ∈ ds
        · obtain ⟨i, hi⟩ := hs
          rw [(updL_at _ ds s hnd).1 i hi, (hdsm i s hi).2]
        · rw [(updL_at _ ds s hnd).2 fun i hi => hs ⟨i, hi⟩]
          exact hI.old s fun i hi _ hd => hs ⟨i, hpre i s hi hd⟩
      refine (tail _ w hI.j (allV_of ds fun p hp => ?_)).out a hfits
      obtain ⟨h1, h2⟩ := hdsm p.1 p.2 hp
      have := hI.vs p.1 p.2 h1 (hall _ h1) h2
      rw [h2]
      exact this
  have key : ∀ (fuel : Nat) (L : Array Bool) (a : Act) (w : World), DI N l.toArray m ρ J V L a w → fuel + L.toList.countP (fun b => b) = l.length → wpAny P .any l.toArray (lift N Q) fuel L a w := by
    intro fuel
    induction fuel with
    | zero =>
      intro L a w hI hc
      have hall : ∀ i, i < l.length → L.getD i false = true := fun i hi => by
        have h1 : L.toList.countP (fun b => b) = L.toList.length := by
          have := hI.ls; simp only [Array.length_toList]; omega
        have h2 := List.countP_eq_length.1 h1
        have h3 : i < L.size := by rw [hI.ls, hnn]; exact hi
        have := h2 L[i] (by simp)
        simpa [h3] using this
      have hmn : l.length ≤ 0 + m := by
        rcases Nat.lt_or_ge m l.length with h | h
        · have h1 := hall m h
          rw [hI.tl m (Nat.le_refl _)] at h1
          cases h1
        · omega
      exact full L a w 0 hI (fun i hi => hall i (by omega)) hmn
    | succ fuel ih =>
      intro L a w hI hc
      by_cases hall : ∀ i, i < m → L.getD i false = true
      · refine full L a w (fuel + 1) hI hall ?_
        have hL : L = upTo l.length m := eq_upTo (by rw [hI.ls, hnn]) hml hall hI.tl
        rw [hL, count_upTo] at hc
        omega
      · have hsome : ∃ i, i < m ∧ L.getD i false = false := by
          refine Classical.byContradiction fun hn => hall fun i hi => ?_
          cases hc2 : L.getD i false with
          | true => rfl
          | false => exact absurd ⟨i, hi, hc2⟩ hn
        have hready_spec : ∀ i, i ∈ Region.ready .any l.toArray L ↔ i < l.length ∧ L.getD i true = false ∧ ∃ o, l.toArray[i]? = some o ∧ ∀ e ∈ o.after, Region.binds .any e = true → L.getD e.on false = true := fun i => by
          unfold Region.ready
          rw [List.mem_filter, List.mem_range, hnn]
          constructor
          · rintro ⟨h1, h2⟩
            have ho : l.toArray[i]? = some l[i] := by simp [h1]
            rw [ho] at h2
            simp only [Option.map_some, Option.getD_some, Bool.and_eq_true, Bool.not_eq_true'] at h2
            refine ⟨h1, h2.1, l[i], ho, fun e he hb => ?_⟩
            have := Array.all_eq_true'.1 h2.2 e he
            simpa [hb] using this
          · rintro ⟨h1, h2, o, ho, h3⟩
            refine ⟨h1, ?_⟩
            rw [ho]
            simp only [Option.map_some, Option.getD_some, Bool.and_eq_true, Bool.not_eq_true']
            refine ⟨h2, Array.all_eq_true'.2 fun e he => ?_⟩
            cases hb : Region.binds .any e with
            | false => simp
            | true => simpa [hb] using h3 e he hb
        refine ⟨fun hnil => ?_, fun i hi => ?_⟩
        · exfalso
          -- the least one that is not listed may come up
          have hmin : ∀ k, (∃ i, i < k ∧ i < m ∧ L.getD i false = false) → ∃ i, i < m ∧ L.getD i false = false ∧ ∀ j, j < i → L.getD j false = true := by
            intro k
            induction k with
            | zero => rintro ⟨i, h, _⟩; omega
            | succ k ihk =>
              rintro ⟨i, h1, h2, h3⟩
              by_cases hex : ∃ i, i < k ∧ i < m ∧ L.getD i false = false
              · exact ihk hex
              · have hik : i = k := by
                  rcases Nat.lt_or_ge i k with h | h
                  · exact absurd ⟨i, h, h2, h3⟩ hex
                  · omega
                subst hik
                refine ⟨i, h2, h3, fun j hj => ?_⟩
                cases hc2 : L.getD j false with
                | true => rfl
                | false => exact absurd ⟨j, hj, by omega, hc2⟩ hex
          obtain ⟨i0, h1, h2⟩ := hsome
          obtain ⟨i, hi, hu, hlow⟩ := hmin (i0 + 1) ⟨i0, by omega, h1, h2⟩
          have hil : i < l.length := by omega
          have hE := hedge i hil
          have ho : l.toArray[i]? = some l[i] := by simp [hil]
          rw [ho] at hE
          have hmem : i ∈ Region.ready .any l.toArray L := (hready_spec i).2 ⟨hil, by
            have h3 : i < L.size := by rw [hI.ls, hnn]; exact hil
            rw [Array.getD_eq_getD_getElem?] at hu ⊢
            rw [Array.getElem?_eq_getElem h3] at hu ⊢
            simpa using hu, l[i], ho, fun e he hb => by
            have := Array.all_eq_true'.1 hE e he
            simp only [hb, Bool.not_true, Bool.false_or, decide_eq_true_eq] at this
            exact hlow _ this⟩
          rw [hnil] at hmem
          cases hmem
        · obtain ⟨hil, hun, o, ho, hed⟩ := (hready_spec i).1 hi
          have hiL : i < L.size := by rw [hI.ls, hnn]; exact hil
          have hun' : L.getD i false = false := by
            rw [Array.getD_eq_getD_getElem?] at hun ⊢
            rw [Array.getElem?_eq_getElem hiL] at hun ⊢
            simpa using hun
          have hed' : ∀ o', l.toArray[i]? = some o' → ∀ e ∈ o'.after, Region.binds .any e = true → L.getD e.on false = true := fun o' ho' => by
            rw [ho] at ho'; injection ho' with ho'; subst ho'; exact hed
          have him : i < m := by
            rcases Nat.lt_or_ge i m with h | h
            · exact h
            · exfalso
              rcases Nat.lt_or_ge m i with h2 | h2
              · have h3 := hdep (i - m) (by omega)
                rw [show m + (i - m) = i by omega] at h3
                have h4 : (i - m == 0) = false := by simp; omega
                rw [h4, Bool.false_or] at h3
                have := dep_spec hI.cl 16 i m hed' h3
                rw [hI.tl m (Nat.le_refl _)] at this
                cases this
              · obtain rfl : i = m := by omega
                have h4 : (l.length == i) = false := by simp; omega
                rw [h4, Bool.false_or] at htail
                have h5 := List.all_eq_true.1 htail
                obtain ⟨j, hj, hju⟩ := hsome
                have := dep_spec hI.cl 16 i j hed' (h5 j (by simpa using hj))
                rw [hju] at this
                cases this
          have hok' : (l.take m)[i]? = some o := by
            rw [List.getElem?_take, if_pos him]
            simpa using ho
          obtain ⟨s, hs, hstab, hog⟩ := hdo i o hok'
          rw [Nat.zero_add] at hstab hog
          have hrdi := hrd i him
          rw [ho, hs] at hrdi
          simp only [Bool.and_eq_true, List.all_eq_true] at hrdi
          have hro : RdOk V ρ (fun t => a.tmps.getD t undef) w s := rdOk_of s fun p hp => by
            have hp2 := hrdi.2 p hp
            cases hp3 : p.2 with
            | some j =>
              rw [hp3] at hp2
              simp only [Bool.and_eq_true, decide_eq_true_eq, beq_iff_eq] at hp2
              exact hI.vs j p.1 hp2.1.1 (dep_spec hI.cl 16 i j hed' hp2.2) hp2.1.2
            | none =>
              rw [hp3] at hp2
              refine hI.old p.1 fun j hj hjl hjd => ?_
              have h6 := List.all_eq_true.1 hp2 j (by simpa using hj)
              rw [hjd] at h6
              simp only [beq_self_eq_true, Bool.not_true, Bool.false_or, Bool.and_eq_true] at h6
              have := dep_spec hI.cl 16 j i (fun o' ho' e he hb => hI.cl j o' ho' hjl e he hb) h6.2
              rw [hun'] at this
              cases this
          have hgo := (hog _ w hI.j hro).out a (wpAny P .any l.toArray (lift N Q) fuel (L.setIfInBounds i true)) (lift N Q) (fun _ => rfl) (fun v w2 hv => by
            refine ih _ _ _ ?_ ?_
            · refine ⟨?_, ?_, hJ _ _ hI.j hv.1, by simpa using hI.ls, ?_, ?_, ?_, ?_⟩
              · cases o.dst <;> exact hI.nd
              · cases hod : o.dst with
                | none => exact hI.sz
                | some d => simpa [Act.put] using hI.sz
              · intro k ok hk hkl e he hb
                rw [getD_set hiL] at hkl ⊢
                by_cases hki : k = i
                · subst hki
                  simp [hed' ok hk e he hb]
                · simp only [hki, decide_false, Bool.false_or] at hkl
                  simp [hI.cl k ok hk hkl e he hb]
              · intro k hk
                rw [getD_set hiL, hI.tl k hk]
                have : ¬ k = i := by omega
                simp [this]
              · intro j d hj hjl hjd
                rw [getD_set hiL] at hjl
                have hd1 : ∀ d', o.dst = some d' → d' < a.tmps.size := fun d' hd' => by
                  rw [hI.sz]
                  exact hdN (i, d') (hpre i d' him (by rw [ho]; exact hd'))
                by_cases hji : j = i
                · subst hji
                  rw [ho] at hjd
                  simp only [Option.bind_some] at hjd
                  rw [hjd, getD_put (hd1 d hjd), if_pos rfl]
                  exact hv.2
                · simp only [hji, decide_false, Bool.false_or] at hjl
                  have hold := hI.vs j d hj hjl hjd
                  have hdj : (j, d) ∈ ds := hpre j d hj hjd
                  have hst := (hdo j (l.toArray[j]?.getD default) (by
                    have : j < l.length := by omega
                    rw [List.getElem?_take, if_pos hj]
                    simp [this])).choose_spec.2.1
                  rw [Nat.zero_add] at hst
                  have hne : ∀ d', o.dst = some d' → d ≠ d' := fun d' hd' e => by
                    subst e
                    exact hji (hone j i d hj him hjd (by rw [ho]; exact hd'))
                  cases hod : o.dst with
                  | none => exact hst _ _ _ hold hv.1
                  | some d' =>
                    rw [getD_put (hd1 d' hod), if_neg (hne d' hod)]
                    exact hst _ _ _ hold hv.1
              · intro s' hs'
                have hni : ((l.toArray[i]?).bind (·.dst)) ≠ some s' := hs' i him (by rw [getD_set hiL]; simp)
                have hold := hI.old s' fun j hj hjl => hs' j hj (by rw [getD_set hiL]; simp [hjl])
                rw [ho] at hni
                simp only [Option.bind_some] at hni
                cases hod : o.dst with
                | none => exact hold
                | some d' =>
                  rw [getD_put (by rw [hI.sz]; exact hdN (i, d') (hpre i d' him (by rw [ho]; exact hod))), if_neg (fun e => hni (by rw [hod, e]))]
                  exact hold
            · have hLi : L.toList[i]? = some false := by
                have h3 : i < L.toList.length := by simpa using hiL
                rw [List.getElem?_eq_getElem h3]
                have : L.getD i false = L.toList[i] := by simp [hiL]
                rw [← this, hun']
              rw [Array.toList_setIfInBounds, List.countP_set (by simpa using hiL)]
              have h4 : L.toList[i]'(by simpa using hiL) = false := (List.getElem?_eq_some_iff.1 hLi).2
              rw [h4]
              simp only [Bool.false_eq_true, if_false, if_true]
              omega)
          unfold wpOp
          rw [ho]
          exact hgo
  have hJ0 : J ({ w with drawn := w.drawn + 1 } : World) := hJ w _ h0 ⟨rfl, rfl, rfl, Nat.le_refl _, fun _ _ => rfl⟩
  have hr0 : ∀ i, (Array.replicate l.toArray.size false).getD i false = false := fun i => by
    rw [Array.getD_eq_getD_getElem?, Array.getElem?_replicate]; split <;> rfl
  refine key _ _ _ _ ⟨hf.nd, hf.sz, hJ0, by simp, fun k o _ hk => ?_, fun k _ => hr0 k, fun i d _ hi => ?_, fun s _ => hf.at_ s⟩ ?_
  · rw [hr0] at hk; cases hk
  · rw [hr0] at hi; cases hi
  · simp [List.countP_replicate]
/-- It is this value. -/
def Is (c : Value) : Value → World → Prop := fun v _ => v = c
theorem Is.ext {c : Value} (v : Value) (w w' : World) (h : Is c v w) (_ : Below w.heap.size w w') : Is c v w' := h
/-- The region's world: what one owns, and that all is as it was when the region began. -/
structure JJ (w0 : World) (H : List HE) (w W : World) : Prop where
  hp : Hp w0 H W
  bl : Below w.heap.size w W
theorem JJ.ext {w0 : World} {H : List HE} {w W W' : World} (h : JJ w0 H w W) (hb : Below W.heap.size W W') : JJ w0 H w W' := ⟨h.hp.ext hb, h.bl.trans (hb.mono h.bl.size)⟩
theorem JJ.start {w0 : World} {H : List HE} {w : World} (h : Hp w0 H w) : JJ w0 H w w := ⟨h, Below.refl _ _⟩
/-- A new row, alone: nothing is said of where it lies but that it reads so. -/
def Fresh (n k : Nat) (cs : List Value) : Value → World → Prop := fun v W => ∃ b, v = .slice (some ⟨b, 0, none⟩) n n ∧ Sl W (some ⟨b, 0, none⟩) n k cs
theorem Fresh.ext {n k : Nat} {cs : List Value} (v : Value) (w w' : World) (h : Fresh n k cs v w) (hb : Below w.heap.size w w') : Fresh n k cs v w' := let ⟨b, h1, h2⟩ := h; ⟨b, h1, h2.ext hb⟩
/-- A new variable. -/
def NewVar (w : World) (t : TypeId) (cs : List Value) : Value → World → Prop := fun v W => ∃ b, v = .pointer (some ⟨b, 0, none⟩) ∧ w.heap.size ≤ b ∧ W.heap[b]? = some (.cells cs.toArray t (0, 0))
theorem NewVar.ext {w : World} {t : TypeId} {cs : List Value} (v : Value) (w1 w2 : World) (h : NewVar w t cs v w1) (hb : Below w1.heap.size w1 w2) : NewVar w t cs v w2 := by
  obtain ⟨b, h1, h2, h3⟩ := h
  have hlt : b < w1.heap.size := by
    rcases Nat.lt_or_ge b w1.heap.size with hlt | hge
    · exact hlt
    · rw [Array.getElem?_eq_none hge] at h3; cases h3
  exact ⟨b, h1, h2, (hb.block b hlt).trans h3⟩
theorem og_buildSlice {ops : Array Oper} {d : Option Nat} {ty : TypeId} {pos : String} {af : Array Edge} {t e : TypeId} {len sz by' : Nat} {ag : Bool} {parts : Array (Nat × Operand)} {ps : List (Nat × Value)} {zc cs : List Value} (ht : P.underlying t = some (.slice e)) (hte : tinfo P e = some (sz, ag, by', zc))
    (hp : evp ρ parts.toList = ps) (hzl : zc.length = sz) (hf : fillL (fun i => some (i * sz, sz)) (zrep len zc) ps = some cs) (h0 : ¬ len * sz = 0) (hsl : len * sz ≤ 16777216) (hl : cs.length = len * sz) {K : Value → World → Prop}
    (hk : ∀ v w2, Fresh len sz cs v w2 → Below w.heap.size w w2 → K v w2) : OG P ops ⟨d, .buildSlice t len parts, ty, pos, af, none⟩ ρ w K := by
  obtain ⟨z, hz, hzc⟩ := run_zeroValue' (w := w) hte
  have hbl : Below w.heap.size w (w.alloc (.cells cs.toArray e)) := (Below.refl _ _).alloc (Nat.le_refl _) _
  refine og_val rfl (w' := w.alloc (.cells cs.toArray e)) (v := .slice (some ⟨w.heap.size, 0, none⟩) len len) ?_ (hk _ _ ⟨w.heap.size, rfl, hl, fun _ => ⟨_, rfl, fun j u hu => ?_⟩⟩ hbl)
  · have h16 : ¬ 2 ^ 24 < len * sz := by omega
    have hf' := fill_of _ _ _ hf
    rw [← zrep_arr, hzl] at hf'
    have hzs : zc.toArray.size = sz := by simpa using hzl
    have hp' := evp_arr parts hp
    simp only [execOp, hp', Instr.buildSlice, Sem.run_bind, run_underlying ht, Result.andThen_ok, run_sizeOf' hte, gt_iff_lt, if_neg h16, if_neg h0, hz, hzc, Sem.run_pure, hzs, hf']
    simp [newRow]
  · rw [addr_add, Nat.zero_add, cell_of_row _ w.heap.size j cs.toArray e (0, 0) (heap_alloc_new w _)]
    simpa using hu
theorem og_alloc {ops : Array Oper} {d : Option Nat} {ty : TypeId} {pos : String} {af : Array Edge} {t : TypeId} {n by' : Nat} {ag : Bool} {zc : List Value} {wr : World} (ht : tinfo P t = some (n, ag, by', zc)) (hb : Below wr.heap.size wr w) {K : Value → World → Prop}
    (hk : ∀ v w2, NewVar wr t zc v w2 → Below w.heap.size w w2 → K v w2) : OG P ops ⟨d, .alloc t, ty, pos, af, none⟩ ρ w K := by
  obtain ⟨z, hz, hzc⟩ := run_zeroValue' (w := w) ht
  exact og_val rfl (w' := w.alloc (.cells zc.toArray t)) (v := .pointer (some ⟨w.heap.size, 0, none⟩)) (by simp [execOp, Instr.alloc, newVar, newRow, hz, hzc]) (hk _ _ ⟨w.heap.size, rfl, hb.size, heap_alloc_new w _⟩ ((Below.refl _ _).alloc (Nat.le_refl _) _))
/-- A new variable is one's own. -/
theorem JJ.newVar {w0 : World} {H : List HE} {w W : World} {t : TypeId} {cs : List Value} {b : Nat} (h : JJ w0 H w W) (hs : Hp w0 H w) (h2 : w.heap.size ≤ b) (h3 : W.heap[b]? = some (.cells cs.toArray t (0, 0))) : Hp w0 (.blk b t cs (0, 0) :: H) W := by
  refine ⟨h.hp.below, ?_, ?_⟩
  · intro y hy
    rcases List.mem_cons.1 hy with rfl | hy
    · exact ⟨Nat.le_trans hs.size h2, h3, .inr (Nat.le_refl _)⟩
    · exact h.hp.own y hy
  · rw [List.filterMap_cons]
    show (b :: H.filterMap HE.id).Nodup
    refine List.nodup_cons.2 ⟨fun hm => ?_, h.hp.nd⟩
    obtain ⟨y, hy, hyb⟩ := List.mem_filterMap.1 hm
    have := (holds_lt (hs.own y hy) hyb).2
    omega
end
section
abbrev VP := Value → World → Prop
def updV (pv : Nat → VP) (i : Nat) (V : VP) : Nat → VP := fun j => cond (Nat.beq j i) V (pv j)
def noV : Nat → VP := fun _ _ _ => True
/-- A drawn region, operation by operation: each one's value is told when it is met. -/
def DX (P : Program) (ops : Array Oper) (J : World → Prop) (ρ : Rf) (T : (Nat → VP) → Prop) : Nat → (Nat → VP) → List Oper → List (List (Nat × Option Nat)) → Prop
  | i, pv, o :: os, s :: ss => ∃ V : VP, (∀ v w w', V v w → Below w.heap.size w w' → V v w') ∧ (∀ ρ1 w1, J w1 → RdOk pv ρ ρ1 w1 s → OG P ops o ρ1 w1 fun v w2 => Below w1.heap.size w1 w2 ∧ V v w2) ∧ DX P ops J ρ T (i + 1) (updV pv i V) os ss
  | _, pv, [], [] => T pv
  | _, _, _, _ => False
theorem updV_at (pv : Nat → VP) (i : Nat) (V : VP) : updV pv i V i = V := by simp [updV]
theorem updV_ne (pv : Nat → VP) {i j : Nat} (V : VP) (h : j ≠ i) : updV pv i V j = pv j := by
  have : Nat.beq j i = false := by rw [Bool.eq_false_iff]; intro h2; exact h (Nat.eq_of_beq_eq_true h2)
  simp only [updV, this, cond_false]
theorem rdOk_mono {V V' : Nat → VP} {ρ ρ1 : Rf} {w1 : World} (h : ∀ j v w, V j v w → V' j v w) : ∀ s, RdOk V ρ ρ1 w1 s → RdOk V' ρ ρ1 w1 s
  | [], _ => trivial
  | (_, some _) :: r, hh => ⟨h _ _ _ hh.1, rdOk_mono h r hh.2⟩
  | (_, none) :: r, hh => ⟨hh.1, rdOk_mono h r hh.2⟩
theorem dx_do {P : Program} {ops : Array Oper} {J : World → Prop} {ρ : Rf} {T : (Nat → VP) → Prop} : ∀ (os : List Oper) (ss : List (List (Nat × Option Nat))) (i : Nat) (pv : Nat → VP), (∀ j, i ≤ j → ∀ v w, pv j v w) → DX P ops J ρ T i pv os ss →
    ∃ V, (∀ j, j < i → V j = pv j) ∧ DO P ops J V ρ i os ss ∧ T V
  | [], [], _, pv, _, h => ⟨pv, fun _ _ => rfl, trivial, h⟩
  | [], _ :: _, _, _, _, h => h.elim
  | _ :: _, [], _, _, _, h => h.elim
  | o :: os, s :: ss, i, pv, hpv, ⟨V, h1, h2, h3⟩ => by
    obtain ⟨V', h4, h5, h6⟩ := dx_do os ss (i + 1) (updV pv i V) (fun j hj v w => by rw [updV_ne _ _ (by omega)]; exact hpv j (by omega) v w) h3
    have e : V' i = V := by rw [h4 i (by omega), updV_at]
    refine ⟨V', fun j hj => by rw [h4 j (by omega), updV_ne _ _ (by omega)], ⟨⟨?_, ?_⟩, h5⟩, h6⟩
    · rw [e]; exact h1
    · intro ρ1 w1 hj hr
      rw [e]
      refine h2 ρ1 w1 hj (rdOk_mono (fun j v w hh => ?_) s hr)
      rcases Nat.lt_or_ge j i with hlt | hge
      · rw [h4 j (by omega), updV_ne _ _ (by omega)] at hh; exact hh
      · exact hpv j hge v w
theorem wc_drawn {P : Program} {N : Nat} {ρ : Rf} {w : World} {Q : Kq} {id : Nat} {l : List Oper} (m : Nat) (src : List (List (Nat × Option Nat))) (ds : List (Nat × Nat)) {w0 : World} {H : List HE} (hh : Hp w0 H w) (hm : P.follows .mixedOrders = true) (hok : drawOk l m N src ds = true)
    (h : DX P l.toArray (JJ w0 H w) ρ (fun V => ∀ f w', JJ w0 H w w' → AllV V f w' ds → WL P N l.toArray Q (l.drop m) (updL ρ f ds) w') 0 noV (l.take m) src) : WC P N (.region id l.toArray true) Q ρ w := by
  obtain ⟨V, _, h1, h2⟩ := dx_do _ _ _ _ (fun _ _ _ _ => trivial) h
  exact wc_draw m src ds (JJ w0 H w) V hm hok (fun _ _ h hb => h.ext hb) (JJ.start hh) h1 h2
variable {P : Program} {ops : Array Oper} {J : World → Prop} {ρ : Rf} {T : (Nat → VP) → Prop} {i : Nat} {pv : Nat → VP} {os : List Oper} {s : List (Nat × Option Nat)} {ss : List (List (Nat × Option Nat))} {d : Option Nat} {op : Op} {ty : TypeId} {pos : String} {af : Array Edge}
theorem dx_nil (h : T pv) : DX P ops J ρ T i pv [] [] := h
theorem dx_gen {o : Oper} (V : VP) (h1 : ∀ v w w', V v w → Below w.heap.size w w' → V v w') (h2 : ∀ ρ1 w1, J w1 → RdOk (pv) ρ ρ1 w1 s → OG P ops o ρ1 w1 fun v w2 => Below w1.heap.size w1 w2 ∧ V v w2)
    (k : DX P ops J ρ T (i + 1) (updV pv i (V)) os ss) : DX P ops J ρ T i pv (o :: os) (s :: ss) := ⟨V, h1, h2, k⟩
theorem dx_val {v : Value} (hr : ∀ ρ1 w1, J w1 → RdOk (pv) ρ ρ1 w1 s → (execOp (ev ρ1) ⟨d, op, ty, pos, af, none⟩).run P w1 = .ok (.value v) w1)
    (k : DX P ops J ρ T (i + 1) (updV pv i (Is v)) os ss) : DX P ops J ρ T i pv (⟨d, op, ty, pos, af, none⟩ :: os) (s :: ss) :=
  dx_gen (Is v) Is.ext (fun ρ1 w1 hj h => og_val rfl (hr ρ1 w1 hj h) ⟨Below.refl _ _, rfl⟩) k
theorem dx_call {v : Value} {f : FuncId} {args : Array Value} (hr : ∀ ρ1 w1, J w1 → RdOk (pv) ρ ρ1 w1 s → (execOp (ev ρ1) ⟨d, op, ty, pos, af, none⟩).run P w1 = .ok (.enter f args) w1)
    (hc : ∀ w1, J w1 → Calls P f args w1 fun e w' => e = .returned v ∧ Below w1.heap.size w1 w')
    (k : DX P ops J ρ T (i + 1) (updV pv i (Is v)) os ss) : DX P ops J ρ T i pv (⟨d, op, ty, pos, af, none⟩ :: os) (s :: ss) :=
  dx_gen (Is v) Is.ext (fun ρ1 w1 hj h => og_enter rfl (hr ρ1 w1 hj h) (hc w1 hj) fun _ _ hq => ⟨v, hq.1, hq.2, rfl⟩) k
/-- A row that reads so; nothing is said of where it lies. -/
def Rows (n k : Nat) (cs : List Value) : VP := fun v W => ∃ A c, v = .slice A n c ∧ Sl W A n k cs
theorem Rows.ext {n k : Nat} {cs : List Value} (v : Value) (w w' : World) (h : Rows n k cs v w) (hb : Below w.heap.size w w') : Rows n k cs v w' := let ⟨A, c, h1, h2⟩ := h; ⟨A, c, h1, h2.ext hb⟩
theorem dx_row {n k : Nat} {cs : List Value} {f : FuncId} {args : Array Value} {t : TypeId} {nn : World → Nat} (hr : ∀ ρ1 w1, J w1 → RdOk (pv) ρ ρ1 w1 s → (execOp (ev ρ1) ⟨d, op, ty, pos, af, none⟩).run P w1 = .ok (.enter f args) w1)
    (hc : ∀ w1, J w1 → Calls P f args w1 fun e w' => ∃ A c, e = .returned (.slice A n c) ∧ w'.ownsRow (nn w1) t k (.slice A n c) n cs ∧ Below w1.heap.size w1 w')
    (kk : DX P ops J ρ T (i + 1) (updV pv i (Rows n k cs)) os ss) : DX P ops J ρ T i pv (⟨d, op, ty, pos, af, none⟩ :: os) (s :: ss) :=
  dx_gen (Rows n k cs) Rows.ext (fun ρ1 w1 hj h => og_enter rfl (hr ρ1 w1 hj h) (hc w1 hj) fun _ _ ⟨A, c, hq, ho, hb⟩ => ⟨_, hq, hb, A, c, rfl, owns_sl ho⟩) kk
theorem dx_buildSlice {t e : TypeId} {len sz by' : Nat} {ag : Bool} {parts : Array (Nat × Operand)} {ps : List (Nat × Value)} {zc cs : List Value} (ht : P.underlying t = some (.slice e)) (hte : tinfo P e = some (sz, ag, by', zc))
    (hp : ∀ ρ1 w1, J w1 → RdOk (pv) ρ ρ1 w1 s → evp ρ1 parts.toList = ps) (hzl : zc.length = sz) (hf : fillL (fun i => some (i * sz, sz)) (zrep len zc) ps = some cs) (h0 : ¬ len * sz = 0) (hsl : len * sz ≤ 16777216) (hl : cs.length = len * sz)
    (k : DX P ops J ρ T (i + 1) (updV pv i (Rows len sz cs)) os ss) : DX P ops J ρ T i pv (⟨d, .buildSlice t len parts, ty, pos, af, none⟩ :: os) (s :: ss) :=
  dx_gen (Rows len sz cs) Rows.ext (fun ρ1 w1 hj h => og_buildSlice ht hte (hp ρ1 w1 hj h) hzl hf h0 hsl hl fun _ _ ⟨_, hv, hs⟩ hb => ⟨hb, _, _, hv, hs⟩) k
theorem dx_take {b : Bool} {j dj : Nat} {v : Value} (hj : (ops[j]?).bind (·.dst) = some dj) (hv : ∀ ρ1 w1, J w1 → RdOk (pv) ρ ρ1 w1 s → ρ1 dj = .bool b)
    (hr : ∀ ρ1 w1, J w1 → RdOk (pv) ρ ρ1 w1 s → (execOp (ev ρ1) ⟨d, op, ty, pos, af, none⟩).run P w1 = .ok (.value v) w1)
    (k : DX P ops J ρ T (i + 1) (updV pv i (Is v)) os ss) : DX P ops J ρ T i pv (⟨d, op, ty, pos, af, some (j, b)⟩ :: os) (s :: ss) :=
  dx_gen (Is v) Is.ext (fun ρ1 w1 hj' h => og_guard_take hj (hv ρ1 w1 hj' h) (og_val rfl (hr ρ1 w1 hj' h) ⟨Below.refl _ _, rfl⟩)) k
theorem dx_take_call {b : Bool} {j dj : Nat} {v : Value} {f : FuncId} {args : Array Value} (hj : (ops[j]?).bind (·.dst) = some dj) (hv : ∀ ρ1 w1, J w1 → RdOk (pv) ρ ρ1 w1 s → ρ1 dj = .bool b)
    (hr : ∀ ρ1 w1, J w1 → RdOk (pv) ρ ρ1 w1 s → (execOp (ev ρ1) ⟨d, op, ty, pos, af, none⟩).run P w1 = .ok (.enter f args) w1)
    (hc : ∀ w1, J w1 → Calls P f args w1 fun e w' => e = .returned v ∧ Below w1.heap.size w1 w')
    (k : DX P ops J ρ T (i + 1) (updV pv i (Is v)) os ss) : DX P ops J ρ T i pv (⟨d, op, ty, pos, af, some (j, b)⟩ :: os) (s :: ss) :=
  dx_gen (Is v) Is.ext (fun ρ1 w1 hj' h => og_guard_take hj (hv ρ1 w1 hj' h) (og_enter rfl (hr ρ1 w1 hj' h) (hc w1 hj') fun _ _ hq => ⟨v, hq.1, hq.2, rfl⟩)) k
theorem dx_skip {b c : Bool} {j dj : Nat} (hj : (ops[j]?).bind (·.dst) = some dj) (hv : ∀ ρ1 w1, J w1 → RdOk (pv) ρ ρ1 w1 s → ρ1 dj = .bool c) (hb : c ≠ b)
    (k : DX P ops J ρ T (i + 1) (updV pv i (Is undef)) os ss) : DX P ops J ρ T i pv (⟨d, op, ty, pos, af, some (j, b)⟩ :: os) (s :: ss) :=
  dx_gen (Is undef) Is.ext (fun ρ1 w1 hj' h => og_guard_skip hj (hv ρ1 w1 hj' h) hb ⟨Below.refl _ _, rfl⟩) k
end
end Go.Proofs.YthmmofllajkejaaGreatDoor
