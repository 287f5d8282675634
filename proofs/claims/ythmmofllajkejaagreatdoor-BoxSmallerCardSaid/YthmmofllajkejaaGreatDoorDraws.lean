/- Several texts in one: Draw, Recs, DrawB, DrawC, OpsA, OpsP, Tree, DrawD, DrawE, DrawF. -/
import Derived.Test.YthmmofllajkejaaGreatDoorCore
import Derived.Deep.AppendSrc
import Derived.Deep.Upon
/- The calculus' rule for a region whose order is left open: every operation but a last run of them reads and calls in whatever order; each is met by itself. Plain lemmas, no program in sight. -/
namespace Go.Proofs.YthmmofllajkejaaGreatDoor
open Go.RowKit
section
variable {P : Program} {N : Nat} {Q : Kq} {ρ : Rf} {w : World}
/-- Must the operation k come behind i? (to a depth) -/
def dep (ops : Array Oper) : Nat → Nat → Nat → Bool
  | 0, _, _ => false
  | n + 1, k, i => match ops[k]? with
    | none => false
    | some o => (o.after.any fun e => Region.binds .any e && e.on == i) || o.after.any fun e => Region.binds .any e && dep ops n e.on i
def Closed (ops : Array Oper) (L : Array Bool) : Prop := ∀ k o, ops[k]? = some o → L.getD k false = true → ∀ e ∈ o.after, Region.binds .any e = true → L.getD e.on false = true
theorem dep_spec {ops : Array Oper} {L : Array Bool} (hc : Closed ops L) : ∀ (n k i : Nat), (∀ o, ops[k]? = some o → ∀ e ∈ o.after, Region.binds .any e = true → L.getD e.on false = true) → dep ops n k i = true → L.getD i false = true
  | 0, _, _, _, h => by simp [dep] at h
  | n + 1, k, i, hk, h => by
    unfold dep at h
    split at h
    · cases h
    · rename_i o ho
      rw [Bool.or_eq_true] at h
      rcases h with h | h
      · obtain ⟨e, he, h⟩ := Array.any_eq_true'.1 h
        simp only [Bool.and_eq_true, beq_iff_eq] at h
        rw [← h.2]
        exact hk o ho e he h.1
      · obtain ⟨e, he, h⟩ := Array.any_eq_true'.1 h
        simp only [Bool.and_eq_true] at h
        have h1 := hk o ho e he h.1
        exact dep_spec hc n e.on i (fun o' ho' => hc e.on o' ho' h1) h.2
/-- One operation, guard and all: what it yields meets K. -/
structure OG (P : Program) (ops : Array Oper) (o : Oper) (ρ : Rf) (w : World) (K : Value → World → Prop) : Prop where
  out : ∀ (a : Act) (next : Act → World → Prop) (Q : Exit → Act → World → Prop), (∀ i, a.tmps.getD i undef = ρ i) → (∀ v w', K v w' → next (a.put o.dst v) w') →
    if Region.wanted o (yielded ops a.tmps) then o.wp P a w next Q ∨ (o.asks P a w ∧ LetsOut Q) else next (a.put o.dst undef) w
theorem eval_of {a : Act} (h : ∀ i, a.tmps.getD i undef = ρ i) : a.eval = ev ρ := by
  funext x
  cases x with
  | tmp t => exact h t
  | _ => rfl
theorem og_val {ops : Array Oper} {o : Oper} {K : Value → World → Prop} {v : Value} {w' : World} (hg : o.guard = none) (hr : (execOp (ev ρ) o).run P w = .ok (.value v) w') (hk : K v w') : OG P ops o ρ w K :=
  ⟨fun a next Q ha hn => by
    rw [if_pos (by simp [Region.wanted, hg])]
    refine .inl ?_
    unfold Oper.wp
    rw [eval_of ha, hr]
    exact hn _ _ hk⟩
theorem og_enter {ops : Array Oper} {o : Oper} {K : Value → World → Prop} {f : FuncId} {args : Array Value} {w1 : World} {R : Ending → World → Prop} (hg : o.guard = none) (hr : (execOp (ev ρ) o).run P w = .ok (.enter f args) w1) (hc : Calls P f args w1 R)
    (hk : ∀ e w', R e w' → ∃ v, e = .returned v ∧ K v w') : OG P ops o ρ w K :=
  ⟨fun a next Q ha hn => by
    rw [if_pos (by simp [Region.wanted, hg])]
    refine .inl ?_
    unfold Oper.wp
    rw [eval_of ha, hr]
    show Calls P f args w1 _
    refine hc.mono fun e w' hR => ?_
    obtain ⟨v, rfl, hkv⟩ := hk e w' hR
    exact hn _ _ hkv⟩
theorem og_guard_take {ops : Array Oper} {K : Value → World → Prop} {d : Option Nat} {op : Op} {ty : TypeId} {pos : String} {af : Array Edge} {j dj : Nat} {b : Bool}
    (hj : (ops[j]?).bind (·.dst) = some dj) (hv : ρ dj = .bool b) (h : OG P ops ⟨d, op, ty, pos, af, none⟩ ρ w K) : OG P ops ⟨d, op, ty, pos, af, some (j, b)⟩ ρ w K :=
  ⟨fun a next Q ha hn => by
    have h1 : Region.wanted ⟨d, op, ty, pos, af, some (j, b)⟩ (yielded ops a.tmps) = true := by
      have h2 := ha dj
      rw [hv, Array.getD_eq_getD_getElem?] at h2
      cases h3 : a.tmps[dj]? with
      | none => rw [h3] at h2; cases h2
      | some x =>
        rw [h3] at h2
        simp only [Option.getD_some] at h2
        subst h2
        simp [Region.wanted, yielded, hj, h3]
    have h2 := h.out a next Q ha hn
    rw [if_pos (by simp [Region.wanted])] at h2
    rw [if_pos h1]
    exact h2⟩
theorem og_guard_skip {ops : Array Oper} {K : Value → World → Prop} {d : Option Nat} {op : Op} {ty : TypeId} {pos : String} {af : Array Edge} {j dj : Nat} {b c : Bool}
    (hj : (ops[j]?).bind (·.dst) = some dj) (hv : ρ dj = .bool c) (hb : c ≠ b) (h : K undef w) : OG P ops ⟨d, op, ty, pos, af, some (j, b)⟩ ρ w K :=
  ⟨fun a next Q ha hn => by
    have h1 : Region.wanted ⟨d, op, ty, pos, af, some (j, b)⟩ (yielded ops a.tmps) = false := by
      have h2 := ha dj
      rw [hv, Array.getD_eq_getD_getElem?] at h2
      cases h3 : a.tmps[dj]? with
      | none => rw [h3] at h2; cases h2
      | some x =>
        rw [h3] at h2
        simp only [Option.getD_some] at h2
        subst h2
        simp [Region.wanted, yielded, hj, h3, hb]
    rw [h1]
    exact hn _ _ h⟩
/-- What an operation reads: slots, each with the operation whose value it sees, or none: as the region began. -/
def RdOk (V : Nat → Value → World → Prop) (ρ ρ1 : Rf) (w1 : World) : List (Nat × Option Nat) → Prop
  | [] => True
  | (t, some j) :: r => V j (ρ1 t) w1 ∧ RdOk V ρ ρ1 w1 r
  | (t, none) :: r => ρ1 t = ρ t ∧ RdOk V ρ ρ1 w1 r
def DO (P : Program) (ops : Array Oper) (J : World → Prop) (V : Nat → Value → World → Prop) (ρ : Rf) : Nat → List Oper → List (List (Nat × Option Nat)) → Prop
  | i, o :: os, s :: ss => ((∀ v w w', V i v w → Below w.heap.size w w' → V i v w') ∧ ∀ ρ1 w1, J w1 → RdOk V ρ ρ1 w1 s → OG P ops o ρ1 w1 fun v w2 => Below w1.heap.size w1 w2 ∧ V i v w2) ∧ DO P ops J V ρ (i + 1) os ss
  | _, [], [] => True
  | _, _, _ => False
theorem do_at {ops : Array Oper} {J : World → Prop} {V : Nat → Value → World → Prop} : ∀ (l : List Oper) (ss : List (List (Nat × Option Nat))) (i : Nat), DO P ops J V ρ i l ss → l.length = ss.length ∧ ∀ k o, l[k]? = some o → ∃ s, ss[k]? = some s ∧
    (∀ v w w', V (i + k) v w → Below w.heap.size w w' → V (i + k) v w') ∧ ∀ ρ1 w1, J w1 → RdOk V ρ ρ1 w1 s → OG P ops o ρ1 w1 fun v w2 => Below w1.heap.size w1 w2 ∧ V (i + k) v w2
  | [], [], _, _ => ⟨rfl, fun k o h => by simp at h⟩
  | [], _ :: _, _, h => h.elim
  | _ :: _, [], _, h => h.elim
  | o :: l, s :: ss, i, h => by
    obtain ⟨h1, h2⟩ := do_at l ss (i + 1) h.2
    refine ⟨by simp [h1], fun k o' hk => ?_⟩
    cases k with
    | zero =>
      simp only [List.getElem?_cons_zero, Option.some.injEq] at hk
      subst hk
      exact ⟨s, rfl, h.1⟩
    | succ k =>
      obtain ⟨s', hs, h3⟩ := h2 k o' (by simpa using hk)
      refine ⟨s', by simpa using hs, ?_⟩
      have e : i + 1 + k = i + (k + 1) := by omega
      rw [e] at h3
      exact h3
def updL (ρ : Rf) (f : Nat → Value) : List (Nat × Nat) → Rf
  | [] => ρ
  | (i, d) :: r => upd (updL ρ f r) d (f i)
def AllV (V : Nat → Value → World → Prop) (f : Nat → Value) (w : World) : List (Nat × Nat) → Prop
  | [] => True
  | (i, _) :: r => V i (f i) w ∧ AllV V f w r
def upTo (n k : Nat) : Array Bool := (List.replicate k true ++ List.replicate (n - k) false).toArray
/-- The closed facts on a region: see wc_draw. -/
def drawOk (l : List Oper) (m N : Nat) (src : List (List (Nat × Option Nat))) (ds : List (Nat × Nat)) : Bool :=
  let ops := l.toArray
  let pre := (List.range m).map fun i => ((ops[i]?).bind (·.dst))
  (m ≤ l.length) && (src.length == m) &&
  -- the slots that the first part writes
  (ds == (pre.zipIdx.filterMap fun (d, i) => d.map fun d => (i, d)).reverse) && (decide (ds.map (·.2)).Nodup) && (ds.all fun p => p.2 < N) &&
  -- what each reads
  ((List.range m).all fun i => match ops[i]?, src[i]? with
    | some o, some s => ((o.looksAt ops).all fun t => s.any fun p => p.1 == t) &&
        s.all fun p => match p.2 with
          | some j => (j < m) && ((ops[j]?).bind (·.dst) == some p.1) && dep ops 16 i j
          | none => (List.range m).all fun j => !((ops[j]?).bind (·.dst) == some p.1) || (j != i && dep ops 16 j i)
    | _, _ => false) &&
  -- the last part comes behind the whole first one, in order
  (l.length == m || ((List.range m).all fun i => dep ops 16 m i)) &&
  ((List.range (l.length - m)).all fun k => Region.ready .any ops (upTo l.length (m + k)) == [m + k]) && (Region.ready .any ops (upTo l.length l.length) == []) &&
  ((List.range (l.length - m)).all fun k => k == 0 || dep ops 16 (m + k) m) &&
  ((List.range l.length).all fun i => match ops[i]? with | some o => o.after.all fun e => !Region.binds .any e || e.on < i | none => false)
theorem upTo_getD (n k i : Nat) : (upTo n k).getD i false = decide (i < k) := by
  unfold upTo
  rw [Array.getD_eq_getD_getElem?, List.getElem?_toArray]
  rcases Nat.lt_or_ge i k with h | h
  · rw [List.getElem?_append_left (by simpa using h)]
    simp [h]
  · rw [List.getElem?_append_right (by simpa using h), List.getElem?_replicate]
    have : ¬ i < k := by omega
    split <;> simp [this]
theorem upTo_set (n k : Nat) (hk : k < n) : (upTo n k).setIfInBounds k true = upTo n (k + 1) := by
  unfold upTo
  rw [List.setIfInBounds_toArray]
  congr 1
  apply List.ext_getElem?
  intro i
  rw [List.getElem?_set]
  simp only [List.getElem?_append, List.length_replicate, List.getElem?_replicate, List.length_append]
  by_cases h1 : k = i
  · subst h1
    rw [if_pos rfl, if_pos (by omega), if_pos (show k < k + 1 by omega), if_pos (show k < k + 1 by omega)]
  · rw [if_neg h1]
    by_cases h2 : i < k
    · rw [if_pos h2, if_pos h2, if_pos (show i < k + 1 by omega), if_pos (show i < k + 1 by omega)]
    · rw [if_neg h2, if_neg (show ¬ i < k + 1 by omega)]
      by_cases h3 : i - k < n - k
      · rw [if_pos h3, if_pos (show i - (k + 1) < n - (k + 1) by omega)]
      · rw [if_neg h3, if_neg (show ¬ i - (k + 1) < n - (k + 1) by omega)]
theorem size_upTo (n k : Nat) (hk : k ≤ n) : (upTo n k).size = n := by simp [upTo]; omega
theorem count_upTo (n k : Nat) : (upTo n k).toList.countP (fun b => b) = k := by
  simp [upTo, List.countP_replicate]
theorem eq_upTo {L : Array Bool} {n k : Nat} (hs : L.size = n) (hk : k ≤ n) (h1 : ∀ i, i < k → L.getD i false = true) (h2 : ∀ i, k ≤ i → L.getD i false = false) : L = upTo n k := by
  apply Array.ext
  · rw [hs, size_upTo n k hk]
  · intro i hi hi2
    have e1 : L[i] = L.getD i false := by simp [hi]
    have e2 : (upTo n k)[i] = (upTo n k).getD i false := by simp [hi2]
    rw [e1, e2, upTo_getD n k i]
    rcases Nat.lt_or_ge i k with h | h
    · rw [h1 i h]; simp [h]
    · rw [h2 i h]
      have : ¬ i < k := by omega
      simp [this]
theorem tail_any {l : List Oper} {Q' : Exit → Act → World → Prop} (m : Nat)
    (hr : ∀ k, m ≤ k → k < l.length → Region.ready .any l.toArray (upTo l.length k) = [k]) (hend : Region.ready .any l.toArray (upTo l.length l.length) = []) :
    ∀ (fuel k : Nat) (a : Act) (w : World), m ≤ k → k ≤ l.length → l.length ≤ fuel + k → wpList P l.toArray Q' (l.drop k) a w → wpAny P .any l.toArray Q' fuel (upTo l.length k) a w
  | fuel, k, a, w, hmk, hk, hf, h => by
    rcases Nat.lt_or_ge k l.length with hlt | hge
    · cases fuel with
      | zero => omega
      | succ fuel =>
        refine wpAny_all (hr k hmk hlt) (by simp) fun i hi => ?_
        obtain rfl : i = k := by simpa using hi
        rw [List.drop_eq_getElem_cons hlt] at h
        unfold wpList at h
        have ho : l.toArray[i]? = some l[i] := by simp [hlt]
        have hset := upTo_set l.length i hlt
        have hgo : ∀ a w, wpList P l.toArray Q' (l.drop (i + 1)) a w → wpAny P .any l.toArray Q' fuel ((upTo l.length i).setIfInBounds i true) a w := fun a w h => by
          rw [hset]
          exact tail_any m hr hend fuel (i + 1) a w (by omega) (by omega) (by omega) h
        unfold wpOp
        rw [ho]
        simp only []
        split at h
        · rename_i hw
          rw [if_pos hw]
          exact h.imp (Oper.wp_mono hgo) id
        · rename_i hw
          rw [if_neg hw]
          exact hgo _ _ h
    · obtain rfl : k = l.length := by omega
      rw [List.drop_length] at h
      exact wpAny_done hend h fuel
structure DI (N : Nat) (ops : Array Oper) (m : Nat) (ρ : Rf) (J : World → Prop) (V : Nat → Value → World → Prop) (L : Array Bool) (a : Act) (w : World) : Prop where
  nd : a.defers = []
  sz : a.tmps.size = N
  j : J w
  ls : L.size = ops.size
  cl : Closed ops L
  tl : ∀ k, m ≤ k → L.getD k false = false
  vs : ∀ i d, i < m → L.getD i false = true → (ops[i]?).bind (·.dst) = some d → V i (a.tmps.getD d undef) w
  old : ∀ s, (∀ i, i < m → L.getD i false = true → (ops[i]?).bind (·.dst) ≠ some s) → a.tmps.getD s undef = ρ s
theorem getD_set {L : Array Bool} {i j : Nat} (hi : i < L.size) : (L.setIfInBounds i true).getD j false = (decide (j = i) || L.getD j false) := by
  rw [Array.getD_eq_getD_getElem?, Array.getElem?_setIfInBounds]
  by_cases h : i = j
  · subst h; simp [hi]
  · have : ¬ j = i := fun e => h e.symm
    simp [h, this]
theorem getD_put {a : Act} {d s : Nat} {v : Value} (hd : d < a.tmps.size) : (a.put (some d) v).tmps.getD s undef = if s = d then v else a.tmps.getD s undef := by
  by_cases h : s = d
  · subst h; simp [Act.put, hd]
  · have : d ≠ s := fun e => h e.symm
    simp [Act.put, Array.getElem?_setIfInBounds_ne this, h]
theorem updL_at (f : Nat → Value) : ∀ (ds : List (Nat × Nat)) (s : Nat), (ds.map (·.2)).Nodup → (∀ i, (i, s) ∈ ds → updL ρ f ds s = f i) ∧ ((∀ i, (i, s) ∉ ds) → updL ρ f ds s = ρ s)
  | [], s, _ => ⟨fun i h => by simp at h, fun _ => rfl⟩
  | (j, d) :: r, s, h => by
    rw [List.map_cons, List.nodup_cons] at h
    obtain ⟨h1, h2⟩ := updL_at f r s h.2
    constructor
    · intro i hi
      rcases List.mem_cons.1 hi with hi' | hi'
      · injection hi' with e1 e2
        subst e1; subst e2
        exact upd_same _ _ _
      · have hne : s ≠ d := fun e => h.1 (e ▸ List.mem_map.2 ⟨_, hi', rfl⟩)
        exact (upd_other _ hne _).trans (h1 i hi')
    · intro hn
      have hne : s ≠ d := by
        rintro rfl
        exact hn j List.mem_cons_self
      exact (upd_other _ hne _).trans (h2 fun i hi => hn i (List.mem_cons_of_mem _ hi))
theorem allV_of {V : Nat → Value → World → Prop} {f : Nat → Value} {w : World} : ∀ (ds : List (Nat × Nat)), (∀ p ∈ ds, V p.1 (f p.1) w) → AllV V f w ds
  | [], _ => trivial
  | (i, d) :: r, h => ⟨h (i, d) List.mem_cons_self, allV_of r fun p hp => h p (List.mem_cons_of_mem _ hp)⟩
theorem rdOk_of {V : Nat → Value → World → Prop} {ρ1 : Rf} {w1 : World} : ∀ (s : List (Nat × Option Nat)), (∀ p ∈ s, match p.2 with | some j => V j (ρ1 p.1) w1 | none => ρ1 p.1 = ρ p.1) → RdOk V ρ ρ1 w1 s
  | [], _ => trivial
  | (t, some j) :: r, h => ⟨h (t, some j) List.mem_cons_self, rdOk_of r fun p hp => h p (List.mem_cons_of_mem _ hp)⟩
  | (t, none) :: r, h => ⟨h (t, none) List.mem_cons_self, rdOk_of r fun p hp => h p (List.mem_cons_of_mem _ hp)⟩
theorem wc_draw {id : Nat} {l : List Oper} (m : Nat) (src : List (List (Nat × Option Nat))) (ds : List (Nat × Nat)) (J : World → Prop) (V : Nat → Value → World → Prop) (hm : P.follows .mixedOrders = true) (hok : drawOk l m N src ds = true)
    (hJ : ∀ w w', J w → Below w.heap.size w w' → J w') (h0 : J w) (hops : DO P l.toArray J V ρ 0 (l.take m) src)
    (tail : ∀ f w', J w' → AllV V f w' ds → WL P N l.toArray Q (l.drop m) (updL ρ f ds) w') : WC P N (.region id l.toArray true) Q ρ w := by
  refine ⟨fun a hf => wp_region_any hm ?_⟩
  simp only [drawOk, Bool.and_eq_true, decide_eq_true_eq, beq_iff_eq, List.all_eq_true, List.mem_range] at hok
  obtain ⟨⟨⟨⟨⟨⟨⟨⟨⟨⟨hml, _⟩, hds⟩, hnd⟩, hdN⟩, hrd⟩, htail⟩, hready⟩, hend⟩, hdep⟩, hedge⟩ := hok
  have hdo := (do_at _ _ _ hops).2
  have hpre : ∀ i d, i < m → ((l.toArray[i]?).bind (·.dst)) = some d → (i, d) ∈ ds := fun i d hi hd => by
    rw [hds, List.mem_reverse, List.mem_filterMap]
    refine ⟨(some d, i), ?_, rfl⟩
    rw [List.mem_zipIdx_iff_getElem?]
    rw [List.getElem?_map, List.getElem?_range hi]
    simp only [Option.map_some, hd]
  have hdsm : ∀ i d, (i, d) ∈ ds → i < m ∧ ((l.toArray[i]?).bind (·.dst)) = some d := fun i d hp => by
    rw [hds, List.mem_reverse, List.mem_filterMap] at hp
    obtain ⟨⟨x, k⟩, hx, hxe⟩ := hp
    rw [List.mem_zipIdx_iff_getElem?] at hx
    cases x with
    | none => simp at hxe
    | some d' =>
      simp only [Option.map_some, Option.some.injEq, Prod.mk.injEq] at hxe
      obtain ⟨rfl, rfl⟩ := hxe
      rw [List.getElem?_map] at hx
      cases hr : (List.range m)[k]? with
      | none => rw [hr] at hx; simp at hx
      | some y =>
        have hkm : k < m := by
          have := (List.getElem?_eq_some_iff.1 hr).1
          simpa using this
        rw [List.getElem?_range hkm] at hx
        simp only [Option.map_some, Option.some.injEq] at hx
        exact ⟨hkm, hx⟩
  have hone : ∀ i j d, i < m → j < m → ((l.toArray[i]?).bind (·.dst)) = some d → ((l.toArray[j]?).bind (·.dst)) = some d → i = j := fun i j d hi hj h1 h2 => by
    have p1 := hpre i d hi h1
    have p2 := hpre j d hj h2
    have e1 := ((updL_at (ρ := ρ) (fun i => .int .i64 i) ds d hnd).1 i p1).symm.trans ((updL_at (ρ := ρ) (fun i => .int .i64 i) ds d hnd).1 j p2)
    injection e1 with _ e1
    omega
  have hnn : l.toArray.size = l.length := by simp
  have full : ∀ (L : Array Bool) (a : Act) (w : World) (fuel : Nat), DI N l.toArray m ρ J V L a w → (∀ i, i < m → L.getD i false = true) → l.length ≤ fuel + m → wpAny P .any l.toArray (lift N Q) fuel L a w := by
    intro L a w fuel hI hall hfu
    have hL : L = upTo l.length m := eq_upTo (by rw [hI.ls, hnn]) hml hall hI.tl
    rw [hL]
    refine tail_any m (fun k h1 h2 => ?_) hend fuel m a w (Nat.le_refl _) hml hfu ?_
    · have := hready (k - m) (by omega)
      rwa [show m + (k - m) = k by omega] at this
    · have hfits : Fits N a (updL ρ (fun i => match (l.toArray[i]?).bind (·.dst) with | some d => a.tmps.getD d undef | none => undef) ds) := by
        refine ⟨hI.nd, hI.sz, fun s => ?_⟩
        by_cases hs : ∃ i, (i, s) ∈ ds
        · obtain ⟨i, hi⟩ := hs
          rw [(updL_at _ ds s hnd).1 i hi, (hdsm i s hi).2]
        · rw [(updL_at _ ds s hnd).2 fun i hi => hs ⟨i, hi⟩]
          exact hI.old s fun i hi _ hd => hs ⟨i, hpre i s hi hd⟩
      refine (tail _ w hI.j (allV_of ds fun p hp => ?_)).out a hfits
      obtain ⟨h1, h2⟩ := hdsm p.1 p.2 hp
      have := hI.vs p.1 p.2 h1 (hall _ h1) h2
      rw [h2]
      exact this
  have key : ∀ (fuel : Nat) (L : Array Bool) (a : Act) (w : World), DI N l.toArray m ρ J V L a w → fuel + L.toList.countP (fun b => b) = l.length → wpAny P .any l.toArray (lift N Q) fuel L a w := by
    intro fuel
    induction fuel with
    | zero =>
      intro L a w hI hc
      have hall : ∀ i, i < l.length → L.getD i false = true := fun i hi => by
        have h1 : L.toList.countP (fun b => b) = L.toList.length := by
          have := hI.ls; simp only [Array.length_toList]; omega
        have h2 := List.countP_eq_length.1 h1
        have h3 : i < L.size := by rw [hI.ls, hnn]; exact hi
        have := h2 L[i] (by simp)
        simpa [h3] using this
      have hmn : l.length ≤ 0 + m := by
        rcases Nat.lt_or_ge m l.length with h | h
        · have h1 := hall m h
          rw [hI.tl m (Nat.le_refl _)] at h1
          cases h1
        · omega
      exact full L a w 0 hI (fun i hi => hall i (by omega)) hmn
    | succ fuel ih =>
      intro L a w hI hc
      by_cases hall : ∀ i, i < m → L.getD i false = true
      · refine full L a w (fuel + 1) hI hall ?_
        have hL : L = upTo l.length m := eq_upTo (by rw [hI.ls, hnn]) hml hall hI.tl
        rw [hL, count_upTo] at hc
        omega
      · have hsome : ∃ i, i < m ∧ L.getD i false = false := by
          refine Classical.byContradiction fun hn => hall fun i hi => ?_
          cases hc2 : L.getD i false with
          | true => rfl
          | false => exact absurd ⟨i, hi, hc2⟩ hn
        have hready_spec : ∀ i, i ∈ Region.ready .any l.toArray L ↔ i < l.length ∧ L.getD i true = false ∧ ∃ o, l.toArray[i]? = some o ∧ ∀ e ∈ o.after, Region.binds .any e = true → L.getD e.on false = true := fun i => by
          unfold Region.ready
          rw [List.mem_filter, List.mem_range, hnn]
          constructor
          · rintro ⟨h1, h2⟩
            have ho : l.toArray[i]? = some l[i] := by simp [h1]
            rw [ho] at h2
            simp only [Option.map_some, Option.getD_some, Bool.and_eq_true, Bool.not_eq_true'] at h2
            refine ⟨h1, h2.1, l[i], ho, fun e he hb => ?_⟩
            have := Array.all_eq_true'.1 h2.2 e he
            simpa [hb] using this
          · rintro ⟨h1, h2, o, ho, h3⟩
            refine ⟨h1, ?_⟩
            rw [ho]
            simp only [Option.map_some, Option.getD_some, Bool.and_eq_true, Bool.not_eq_true']
            refine ⟨h2, Array.all_eq_true'.2 fun e he => ?_⟩
            cases hb : Region.binds .any e with
            | false => simp
            | true => simpa [hb] using h3 e he hb
        refine ⟨fun hnil => ?_, fun i hi => ?_⟩
        · exfalso
          -- the least one that is not listed may come up
          have hmin : ∀ k, (∃ i, i < k ∧ i < m ∧ L.getD i false = false) → ∃ i, i < m ∧ L.getD i false = false ∧ ∀ j, j < i → L.getD j false = true := by
            intro k
            induction k with
            | zero => rintro ⟨i, h, _⟩; omega
            | succ k ihk =>
              rintro ⟨i, h1, h2, h3⟩
              by_cases hex : ∃ i, i < k ∧ i < m ∧ L.getD i false = false
              · exact ihk hex
              · have hik : i = k := by
                  rcases Nat.lt_or_ge i k with h | h
                  · exact absurd ⟨i, h, h2, h3⟩ hex
                  · omega
                subst hik
                refine ⟨i, h2, h3, fun j hj => ?_⟩
                cases hc2 : L.getD j false with
                | true => rfl
                | false => exact absurd ⟨j, hj, by omega, hc2⟩ hex
          obtain ⟨i0, h1, h2⟩ := hsome
          obtain ⟨i, hi, hu, hlow⟩ := hmin (i0 + 1) ⟨i0, by omega, h1, h2⟩
          have hil : i < l.length := by omega
          have hE := hedge i hil
          have ho : l.toArray[i]? = some l[i] := by simp [hil]
          rw [ho] at hE
          have hmem : i ∈ Region.ready .any l.toArray L := (hready_spec i).2 ⟨hil, by
            have h3 : i < L.size := by rw [hI.ls, hnn]; exact hil
            rw [Array.getD_eq_getD_getElem?] at hu ⊢
            rw [Array.getElem?_eq_getElem h3] at hu ⊢
            simpa using hu, l[i], ho, fun e he hb => by
            have := Array.all_eq_true'.1 hE e he
            simp only [hb, Bool.not_true, Bool.false_or, decide_eq_true_eq] at this
            exact hlow _ this⟩
          rw [hnil] at hmem
          cases hmem
        · obtain ⟨hil, hun, o, ho, hed⟩ := (hready_spec i).1 hi
          have hiL : i < L.size := by rw [hI.ls, hnn]; exact hil
          have hun' : L.getD i false = false := by
            rw [Array.getD_eq_getD_getElem?] at hun ⊢
            rw [Array.getElem?_eq_getElem hiL] at hun ⊢
            simpa using hun
          have hed' : ∀ o', l.toArray[i]? = some o' → ∀ e ∈ o'.after, Region.binds .any e = true → L.getD e.on false = true := fun o' ho' => by
            rw [ho] at ho'; injection ho' with ho'; subst ho'; exact hed
          have him : i < m := by
            rcases Nat.lt_or_ge i m with h | h
            · exact h
            · exfalso
              rcases Nat.lt_or_ge m i with h2 | h2
              · have h3 := hdep (i - m) (by omega)
                rw [show m + (i - m) = i by omega] at h3
                have h4 : (i - m == 0) = false := by simp; omega
                rw [h4, Bool.false_or] at h3
                have := dep_spec hI.cl 16 i m hed' h3
                rw [hI.tl m (Nat.le_refl _)] at this
                cases this
              · obtain rfl : i = m := by omega
                have h4 : (l.length == i) = false := by simp; omega
                rw [h4, Bool.false_or] at htail
                have h5 := List.all_eq_true.1 htail
                obtain ⟨j, hj, hju⟩ := hsome
                have := dep_spec hI.cl 16 i j hed' (h5 j (by simpa using hj))
                rw [hju] at this
                cases this
          have hok' : (l.take m)[i]? = some o := by
            rw [List.getElem?_take, if_pos him]
            simpa using ho
          obtain ⟨s, hs, hstab, hog⟩ := hdo i o hok'
          rw [Nat.zero_add] at hstab hog
          have hrdi := hrd i him
          rw [ho, hs] at hrdi
          simp only [Bool.and_eq_true, List.all_eq_true] at hrdi
          have hro : RdOk V ρ (fun t => a.tmps.getD t undef) w s := rdOk_of s fun p hp => by
            have hp2 := hrdi.2 p hp
            cases hp3 : p.2 with
            | some j =>
              rw [hp3] at hp2
              simp only [Bool.and_eq_true, decide_eq_true_eq, beq_iff_eq] at hp2
              exact hI.vs j p.1 hp2.1.1 (dep_spec hI.cl 16 i j hed' hp2.2) hp2.1.2
            | none =>
              rw [hp3] at hp2
              refine hI.old p.1 fun j hj hjl hjd => ?_
              have h6 := List.all_eq_true.1 hp2 j (by simpa using hj)
              rw [hjd] at h6
              simp only [beq_self_eq_true, Bool.not_true, Bool.false_or, Bool.and_eq_true] at h6
              have := dep_spec hI.cl 16 j i (fun o' ho' e he hb => hI.cl j o' ho' hjl e he hb) h6.2
              rw [hun'] at this
              cases this
          have hgo := (hog _ w hI.j hro).out a (wpAny P .any l.toArray (lift N Q) fuel (L.setIfInBounds i true)) (lift N Q) (fun _ => rfl) (fun v w2 hv => by
            refine ih _ _ _ ?_ ?_
            · refine ⟨?_, ?_, hJ _ _ hI.j hv.1, by simpa using hI.ls, ?_, ?_, ?_, ?_⟩
              · cases o.dst <;> exact hI.nd
              · cases hod : o.dst with
                | none => exact hI.sz
                | some d => simpa [Act.put] using hI.sz
              · intro k ok hk hkl e he hb
                rw [getD_set hiL] at hkl ⊢
                by_cases hki : k = i
                · subst hki
                  simp [hed' ok hk e he hb]
                · simp only [hki, decide_false, Bool.false_or] at hkl
                  simp [hI.cl k ok hk hkl e he hb]
              · intro k hk
                rw [getD_set hiL, hI.tl k hk]
                have : ¬ k = i := by omega
                simp [this]
              · intro j d hj hjl hjd
                rw [getD_set hiL] at hjl
                have hd1 : ∀ d', o.dst = some d' → d' < a.tmps.size := fun d' hd' => by
                  rw [hI.sz]
                  exact hdN (i, d') (hpre i d' him (by rw [ho]; exact hd'))
                by_cases hji : j = i
                · subst hji
                  rw [ho] at hjd
                  simp only [Option.bind_some] at hjd
                  rw [hjd, getD_put (hd1 d hjd), if_pos rfl]
                  exact hv.2
                · simp only [hji, decide_false, Bool.false_or] at hjl
                  have hold := hI.vs j d hj hjl hjd
                  have hdj : (j, d) ∈ ds := hpre j d hj hjd
                  have hst := (hdo j (l.toArray[j]?.getD default) (by
                    have : j < l.length := by omega
                    rw [List.getElem?_take, if_pos hj]
                    simp [this])).choose_spec.2.1
                  rw [Nat.zero_add] at hst
                  have hne : ∀ d', o.dst = some d' → d ≠ d' := fun d' hd' e => by
                    subst e
                    exact hji (hone j i d hj him hjd (by rw [ho]; exact hd'))
                  cases hod : o.dst with
                  | none => exact hst _ _ _ hold hv.1
                  | some d' =>
                    rw [getD_put (hd1 d' hod), if_neg (hne d' hod)]
                    exact hst _ _ _ hold hv.1
              · intro s' hs'
                have hni : ((l.toArray[i]?).bind (·.dst)) ≠ some s' := hs' i him (by rw [getD_set hiL]; simp)
                have hold := hI.old s' fun j hj hjl => hs' j hj (by rw [getD_set hiL]; simp [hjl])
                rw [ho] at hni
                simp only [Option.bind_some] at hni
                cases hod : o.dst with
                | none => exact hold
                | some d' =>
                  rw [getD_put (by rw [hI.sz]; exact hdN (i, d') (hpre i d' him (by rw [ho]; exact hod))), if_neg (fun e => hni (by rw [hod, e]))]
                  exact hold
            · have hLi : L.toList[i]? = some false := by
                have h3 : i < L.toList.length := by simpa using hiL
                rw [List.getElem?_eq_getElem h3]
                have : L.getD i false = L.toList[i] := by simp [hiL]
                rw [← this, hun']
              rw [Array.toList_setIfInBounds, List.countP_set (by simpa using hiL)]
              have h4 : L.toList[i]'(by simpa using hiL) = false := (List.getElem?_eq_some_iff.1 hLi).2
              rw [h4]
              simp only [Bool.false_eq_true, if_false, if_true]
              omega)
          unfold wpOp
          rw [ho]
          exact hgo
  have hJ0 : J ({ w with drawn := w.drawn + 1 } : World) := hJ w _ h0 ⟨rfl, rfl, rfl, Nat.le_refl _, fun _ _ => rfl⟩
  have hr0 : ∀ i, (Array.replicate l.toArray.size false).getD i false = false := fun i => by
    rw [Array.getD_eq_getD_getElem?, Array.getElem?_replicate]; split <;> rfl
  refine key _ _ _ _ ⟨hf.nd, hf.sz, hJ0, by simp, fun k o _ hk => ?_, fun k _ => hr0 k, fun i d _ hi => ?_, fun s _ => hf.at_ s⟩ ?_
  · rw [hr0] at hk; cases hk
  · rw [hr0] at hi; cases hi
  · simp [List.countP_replicate]
/-- It is this value. -/
def Is (c : Value) : Value → World → Prop := fun v _ => v = c
theorem Is.ext {c : Value} (v : Value) (w w' : World) (h : Is c v w) (_ : Below w.heap.size w w') : Is c v w' := h
/-- The region's world: what one owns, and that all is as it was when the region began. -/
structure JJ (w0 : World) (H : List HE) (w W : World) : Prop where
  hp : Hp w0 H W
  bl : Below w.heap.size w W
theorem JJ.ext {w0 : World} {H : List HE} {w W W' : World} (h : JJ w0 H w W) (hb : Below W.heap.size W W') : JJ w0 H w W' := ⟨h.hp.ext hb, h.bl.trans (hb.mono h.bl.size)⟩
theorem JJ.start {w0 : World} {H : List HE} {w : World} (h : Hp w0 H w) : JJ w0 H w w := ⟨h, Below.refl _ _⟩
/-- A new row, alone: nothing is said of where it lies but that it reads so. -/
def Fresh (n k : Nat) (cs : List Value) : Value → World → Prop := fun v W => ∃ b, v = .slice (some ⟨b, 0, none⟩) n n ∧ Sl W (some ⟨b, 0, none⟩) n k cs
theorem Fresh.ext {n k : Nat} {cs : List Value} (v : Value) (w w' : World) (h : Fresh n k cs v w) (hb : Below w.heap.size w w') : Fresh n k cs v w' := let ⟨b, h1, h2⟩ := h; ⟨b, h1, h2.ext hb⟩
/-- A new variable. -/
def NewVar (w : World) (t : TypeId) (cs : List Value) : Value → World → Prop := fun v W => ∃ b, v = .pointer (some ⟨b, 0, none⟩) ∧ w.heap.size ≤ b ∧ W.heap[b]? = some (.cells cs.toArray t (0, 0))
theorem NewVar.ext {w : World} {t : TypeId} {cs : List Value} (v : Value) (w1 w2 : World) (h : NewVar w t cs v w1) (hb : Below w1.heap.size w1 w2) : NewVar w t cs v w2 := by
  obtain ⟨b, h1, h2, h3⟩ := h
  have hlt : b < w1.heap.size := by
    rcases Nat.lt_or_ge b w1.heap.size with hlt | hge
    · exact hlt
    · rw [Array.getElem?_eq_none hge] at h3; cases h3
  exact ⟨b, h1, h2, (hb.block b hlt).trans h3⟩
theorem og_buildSlice {ops : Array Oper} {d : Option Nat} {ty : TypeId} {pos : String} {af : Array Edge} {t e : TypeId} {len sz by' : Nat} {ag : Bool} {parts : Array (Nat × Operand)} {ps : List (Nat × Value)} {zc cs : List Value} (ht : P.underlying t = some (.slice e)) (hte : tinfo P e = some (sz, ag, by', zc))
    (hp : evp ρ parts.toList = ps) (hzl : zc.length = sz) (hf : fillL (fun i => some (i * sz, sz)) (zrep len zc) ps = some cs) (h0 : ¬ len * sz = 0) (hsl : len * sz ≤ 16777216) (hl : cs.length = len * sz) {K : Value → World → Prop}
    (hk : ∀ v w2, Fresh len sz cs v w2 → Below w.heap.size w w2 → K v w2) : OG P ops ⟨d, .buildSlice t len parts, ty, pos, af, none⟩ ρ w K := by
  obtain ⟨z, hz, hzc⟩ := run_zeroValue' (w := w) hte
  have hbl : Below w.heap.size w (w.alloc (.cells cs.toArray e)) := (Below.refl _ _).alloc (Nat.le_refl _) _
  refine og_val rfl (w' := w.alloc (.cells cs.toArray e)) (v := .slice (some ⟨w.heap.size, 0, none⟩) len len) ?_ (hk _ _ ⟨w.heap.size, rfl, hl, fun _ => ⟨_, rfl, fun j u hu => ?_⟩⟩ hbl)
  · have h16 : ¬ 2 ^ 24 < len * sz := by omega
    have hf' := fill_of _ _ _ hf
    rw [← zrep_arr, hzl] at hf'
    have hzs : zc.toArray.size = sz := by simpa using hzl
    have hp' := evp_arr parts hp
    simp only [execOp, hp', Instr.buildSlice, Sem.run_bind, run_underlying ht, Result.andThen_ok, run_sizeOf' hte, gt_iff_lt, if_neg h16, if_neg h0, hz, hzc, Sem.run_pure, hzs, hf']
    simp [newRow]
  · rw [addr_add, Nat.zero_add, cell_of_row _ w.heap.size j cs.toArray e (0, 0) (heap_alloc_new w _)]
    simpa using hu
theorem og_alloc {ops : Array Oper} {d : Option Nat} {ty : TypeId} {pos : String} {af : Array Edge} {t : TypeId} {n by' : Nat} {ag : Bool} {zc : List Value} {wr : World} (ht : tinfo P t = some (n, ag, by', zc)) (hb : Below wr.heap.size wr w) {K : Value → World → Prop}
    (hk : ∀ v w2, NewVar wr t zc v w2 → Below w.heap.size w w2 → K v w2) : OG P ops ⟨d, .alloc t, ty, pos, af, none⟩ ρ w K := by
  obtain ⟨z, hz, hzc⟩ := run_zeroValue' (w := w) ht
  exact og_val rfl (w' := w.alloc (.cells zc.toArray t)) (v := .pointer (some ⟨w.heap.size, 0, none⟩)) (by simp [execOp, Instr.alloc, newVar, newRow, hz, hzc]) (hk _ _ ⟨w.heap.size, rfl, hb.size, heap_alloc_new w _⟩ ((Below.refl _ _).alloc (Nat.le_refl _) _))
/-- A new variable is one's own. -/
theorem JJ.newVar {w0 : World} {H : List HE} {w W : World} {t : TypeId} {cs : List Value} {b : Nat} (h : JJ w0 H w W) (hs : Hp w0 H w) (h2 : w.heap.size ≤ b) (h3 : W.heap[b]? = some (.cells cs.toArray t (0, 0))) : Hp w0 (.blk b t cs (0, 0) :: H) W := by
  refine ⟨h.hp.below, ?_, ?_⟩
  · intro y hy
    rcases List.mem_cons.1 hy with rfl | hy
    · exact ⟨Nat.le_trans hs.size h2, h3, .inr (Nat.le_refl _)⟩
    · exact h.hp.own y hy
  · rw [List.filterMap_cons]
    show (b :: H.filterMap HE.id).Nodup
    refine List.nodup_cons.2 ⟨fun hm => ?_, h.hp.nd⟩
    obtain ⟨y, hy, hyb⟩ := List.mem_filterMap.1 hm
    have := (holds_lt (hs.own y hy) hyb).2
    omega
end
section
abbrev VP := Value → World → Prop
def updV (pv : Nat → VP) (i : Nat) (V : VP) : Nat → VP := fun j => cond (Nat.beq j i) V (pv j)
def noV : Nat → VP := fun _ _ _ => True
/-- A drawn region, operation by operation: each one's value is told when it is met. -/
def DX (P : Program) (ops : Array Oper) (J : World → Prop) (ρ : Rf) (T : (Nat → VP) → Prop) : Nat → (Nat → VP) → List Oper → List (List (Nat × Option Nat)) → Prop
  | i, pv, o :: os, s :: ss => ∃ V : VP, (∀ v w w', V v w → Below w.heap.size w w' → V v w') ∧ (∀ ρ1 w1, J w1 → RdOk pv ρ ρ1 w1 s → OG P ops o ρ1 w1 fun v w2 => Below w1.heap.size w1 w2 ∧ V v w2) ∧ DX P ops J ρ T (i + 1) (updV pv i V) os ss
  | _, pv, [], [] => T pv
  | _, _, _, _ => False
theorem updV_at (pv : Nat → VP) (i : Nat) (V : VP) : updV pv i V i = V := by simp [updV]
theorem updV_ne (pv : Nat → VP) {i j : Nat} (V : VP) (h : j ≠ i) : updV pv i V j = pv j := by
  have : Nat.beq j i = false := by rw [Bool.eq_false_iff]; intro h2; exact h (Nat.eq_of_beq_eq_true h2)
  simp only [updV, this, cond_false]
theorem rdOk_mono {V V' : Nat → VP} {ρ ρ1 : Rf} {w1 : World} (h : ∀ j v w, V j v w → V' j v w) : ∀ s, RdOk V ρ ρ1 w1 s → RdOk V' ρ ρ1 w1 s
  | [], _ => trivial
  | (_, some _) :: r, hh => ⟨h _ _ _ hh.1, rdOk_mono h r hh.2⟩
  | (_, none) :: r, hh => ⟨hh.1, rdOk_mono h r hh.2⟩
theorem dx_do {P : Program} {ops : Array Oper} {J : World → Prop} {ρ : Rf} {T : (Nat → VP) → Prop} : ∀ (os : List Oper) (ss : List (List (Nat × Option Nat))) (i : Nat) (pv : Nat → VP), (∀ j, i ≤ j → ∀ v w, pv j v w) → DX P ops J ρ T i pv os ss →
    ∃ V, (∀ j, j < i → V j = pv j) ∧ DO P ops J V ρ i os ss ∧ T V
  | [], [], _, pv, _, h => ⟨pv, fun _ _ => rfl, trivial, h⟩
  | [], _ :: _, _, _, _, h => h.elim
  | _ :: _, [], _, _, _, h => h.elim
  | o :: os, s :: ss, i, pv, hpv, ⟨V, h1, h2, h3⟩ => by
    obtain ⟨V', h4, h5, h6⟩ := dx_do os ss (i + 1) (updV pv i V) (fun j hj v w => by rw [updV_ne _ _ (by omega)]; exact hpv j (by omega) v w) h3
    have e : V' i = V := by rw [h4 i (by omega), updV_at]
    refine ⟨V', fun j hj => by rw [h4 j (by omega), updV_ne _ _ (by omega)], ⟨⟨?_, ?_⟩, h5⟩, h6⟩
    · rw [e]; exact h1
    · intro ρ1 w1 hj hr
      rw [e]
      refine h2 ρ1 w1 hj (rdOk_mono (fun j v w hh => ?_) s hr)
      rcases Nat.lt_or_ge j i with hlt | hge
      · rw [h4 j (by omega), updV_ne _ _ (by omega)] at hh; exact hh
      · exact hpv j hge v w
theorem wc_drawn {P : Program} {N : Nat} {ρ : Rf} {w : World} {Q : Kq} {id : Nat} {l : List Oper} (m : Nat) (src : List (List (Nat × Option Nat))) (ds : List (Nat × Nat)) {w0 : World} {H : List HE} (hh : Hp w0 H w) (hm : P.follows .mixedOrders = true) (hok : drawOk l m N src ds = true)
    (h : DX P l.toArray (JJ w0 H w) ρ (fun V => ∀ f w', JJ w0 H w w' → AllV V f w' ds → WL P N l.toArray Q (l.drop m) (updL ρ f ds) w') 0 noV (l.take m) src) : WC P N (.region id l.toArray true) Q ρ w := by
  obtain ⟨V, _, h1, h2⟩ := dx_do _ _ _ _ (fun _ _ _ _ => trivial) h
  exact wc_draw m src ds (JJ w0 H w) V hm hok (fun _ _ h hb => h.ext hb) (JJ.start hh) h1 h2
variable {P : Program} {ops : Array Oper} {J : World → Prop} {ρ : Rf} {T : (Nat → VP) → Prop} {i : Nat} {pv : Nat → VP} {os : List Oper} {s : List (Nat × Option Nat)} {ss : List (List (Nat × Option Nat))} {d : Option Nat} {op : Op} {ty : TypeId} {pos : String} {af : Array Edge}
theorem dx_nil (h : T pv) : DX P ops J ρ T i pv [] [] := h
theorem dx_gen {o : Oper} (V : VP) (h1 : ∀ v w w', V v w → Below w.heap.size w w' → V v w') (h2 : ∀ ρ1 w1, J w1 → RdOk (pv) ρ ρ1 w1 s → OG P ops o ρ1 w1 fun v w2 => Below w1.heap.size w1 w2 ∧ V v w2)
    (k : DX P ops J ρ T (i + 1) (updV pv i (V)) os ss) : DX P ops J ρ T i pv (o :: os) (s :: ss) := ⟨V, h1, h2, k⟩
theorem dx_val {v : Value} (hr : ∀ ρ1 w1, J w1 → RdOk (pv) ρ ρ1 w1 s → (execOp (ev ρ1) ⟨d, op, ty, pos, af, none⟩).run P w1 = .ok (.value v) w1)
    (k : DX P ops J ρ T (i + 1) (updV pv i (Is v)) os ss) : DX P ops J ρ T i pv (⟨d, op, ty, pos, af, none⟩ :: os) (s :: ss) :=
  dx_gen (Is v) Is.ext (fun ρ1 w1 hj h => og_val rfl (hr ρ1 w1 hj h) ⟨Below.refl _ _, rfl⟩) k
theorem dx_call {v : Value} {f : FuncId} {args : Array Value} (hr : ∀ ρ1 w1, J w1 → RdOk (pv) ρ ρ1 w1 s → (execOp (ev ρ1) ⟨d, op, ty, pos, af, none⟩).run P w1 = .ok (.enter f args) w1)
    (hc : ∀ w1, J w1 → Calls P f args w1 fun e w' => e = .returned v ∧ Below w1.heap.size w1 w')
    (k : DX P ops J ρ T (i + 1) (updV pv i (Is v)) os ss) : DX P ops J ρ T i pv (⟨d, op, ty, pos, af, none⟩ :: os) (s :: ss) :=
  dx_gen (Is v) Is.ext (fun ρ1 w1 hj h => og_enter rfl (hr ρ1 w1 hj h) (hc w1 hj) fun _ _ hq => ⟨v, hq.1, hq.2, rfl⟩) k
/-- A row that reads so; nothing is said of where it lies. -/
def Rows (n k : Nat) (cs : List Value) : VP := fun v W => ∃ A c, v = .slice A n c ∧ Sl W A n k cs
theorem Rows.ext {n k : Nat} {cs : List Value} (v : Value) (w w' : World) (h : Rows n k cs v w) (hb : Below w.heap.size w w') : Rows n k cs v w' := let ⟨A, c, h1, h2⟩ := h; ⟨A, c, h1, h2.ext hb⟩
theorem dx_row {n k : Nat} {cs : List Value} {f : FuncId} {args : Array Value} {t : TypeId} {nn : World → Nat} (hr : ∀ ρ1 w1, J w1 → RdOk (pv) ρ ρ1 w1 s → (execOp (ev ρ1) ⟨d, op, ty, pos, af, none⟩).run P w1 = .ok (.enter f args) w1)
    (hc : ∀ w1, J w1 → Calls P f args w1 fun e w' => ∃ A c, e = .returned (.slice A n c) ∧ w'.ownsRow (nn w1) t k (.slice A n c) n cs ∧ Below w1.heap.size w1 w')
    (kk : DX P ops J ρ T (i + 1) (updV pv i (Rows n k cs)) os ss) : DX P ops J ρ T i pv (⟨d, op, ty, pos, af, none⟩ :: os) (s :: ss) :=
  dx_gen (Rows n k cs) Rows.ext (fun ρ1 w1 hj h => og_enter rfl (hr ρ1 w1 hj h) (hc w1 hj) fun _ _ ⟨A, c, hq, ho, hb⟩ => ⟨_, hq, hb, A, c, rfl, owns_sl ho⟩) kk
theorem dx_buildSlice {t e : TypeId} {len sz by' : Nat} {ag : Bool} {parts : Array (Nat × Operand)} {ps : List (Nat × Value)} {zc cs : List Value} (ht : P.underlying t = some (.slice e)) (hte : tinfo P e = some (sz, ag, by', zc))
    (hp : ∀ ρ1 w1, J w1 → RdOk (pv) ρ ρ1 w1 s → evp ρ1 parts.toList = ps) (hzl : zc.length = sz) (hf : fillL (fun i => some (i * sz, sz)) (zrep len zc) ps = some cs) (h0 : ¬ len * sz = 0) (hsl : len * sz ≤ 16777216) (hl : cs.length = len * sz)
    (k : DX P ops J ρ T (i + 1) (updV pv i (Rows len sz cs)) os ss) : DX P ops J ρ T i pv (⟨d, .buildSlice t len parts, ty, pos, af, none⟩ :: os) (s :: ss) :=
  dx_gen (Rows len sz cs) Rows.ext (fun ρ1 w1 hj h => og_buildSlice ht hte (hp ρ1 w1 hj h) hzl hf h0 hsl hl fun _ _ ⟨_, hv, hs⟩ hb => ⟨hb, _, _, hv, hs⟩) k
theorem dx_take {b : Bool} {j dj : Nat} {v : Value} (hj : (ops[j]?).bind (·.dst) = some dj) (hv : ∀ ρ1 w1, J w1 → RdOk (pv) ρ ρ1 w1 s → ρ1 dj = .bool b)
    (hr : ∀ ρ1 w1, J w1 → RdOk (pv) ρ ρ1 w1 s → (execOp (ev ρ1) ⟨d, op, ty, pos, af, none⟩).run P w1 = .ok (.value v) w1)
    (k : DX P ops J ρ T (i + 1) (updV pv i (Is v)) os ss) : DX P ops J ρ T i pv (⟨d, op, ty, pos, af, some (j, b)⟩ :: os) (s :: ss) :=
  dx_gen (Is v) Is.ext (fun ρ1 w1 hj' h => og_guard_take hj (hv ρ1 w1 hj' h) (og_val rfl (hr ρ1 w1 hj' h) ⟨Below.refl _ _, rfl⟩)) k
theorem dx_take_call {b : Bool} {j dj : Nat} {v : Value} {f : FuncId} {args : Array Value} (hj : (ops[j]?).bind (·.dst) = some dj) (hv : ∀ ρ1 w1, J w1 → RdOk (pv) ρ ρ1 w1 s → ρ1 dj = .bool b)
    (hr : ∀ ρ1 w1, J w1 → RdOk (pv) ρ ρ1 w1 s → (execOp (ev ρ1) ⟨d, op, ty, pos, af, none⟩).run P w1 = .ok (.enter f args) w1)
    (hc : ∀ w1, J w1 → Calls P f args w1 fun e w' => e = .returned v ∧ Below w1.heap.size w1 w')
    (k : DX P ops J ρ T (i + 1) (updV pv i (Is v)) os ss) : DX P ops J ρ T i pv (⟨d, op, ty, pos, af, some (j, b)⟩ :: os) (s :: ss) :=
  dx_gen (Is v) Is.ext (fun ρ1 w1 hj' h => og_guard_take hj (hv ρ1 w1 hj' h) (og_enter rfl (hr ρ1 w1 hj' h) (hc w1 hj') fun _ _ hq => ⟨v, hq.1, hq.2, rfl⟩)) k
theorem dx_skip {b c : Bool} {j dj : Nat} (hj : (ops[j]?).bind (·.dst) = some dj) (hv : ∀ ρ1 w1, J w1 → RdOk (pv) ρ ρ1 w1 s → ρ1 dj = .bool c) (hb : c ≠ b)
    (k : DX P ops J ρ T (i + 1) (updV pv i (Is undef)) os ss) : DX P ops J ρ T i pv (⟨d, op, ty, pos, af, some (j, b)⟩ :: os) (s :: ss) :=
  dx_gen (Is undef) Is.ext (fun ρ1 w1 hj' h => og_guard_skip hj (hv ρ1 w1 hj' h) hb ⟨Below.refl _ _, rfl⟩) k
end
end Go.Proofs.YthmmofllajkejaaGreatDoor

/- Rows of records: slices of structs. Plain lemmas, no program in sight. -/
namespace Go.Proofs.YthmmofllajkejaaGreatDoor
open Go.RowKit
def recs {α : Type} (f : α → List Value) (l : List α) : List Value := l.flatMap f
section
variable {α : Type} {f : α → List Value} {sz : Nat}
theorem recs_len (hf : ∀ x, (f x).length = sz) (l : List α) : (recs f l).length = l.length * sz := by
  induction l with
  | nil => simp [recs]
  | cons x l ih =>
    have : recs f (x :: l) = f x ++ recs f l := by simp [recs]
    rw [this, List.length_append, hf, ih, List.length_cons, Nat.succ_mul]; omega
theorem recs_cons (x : α) (l : List α) : recs f (x :: l) = f x ++ recs f l := by simp [recs]
theorem recs_append (l m : List α) : recs f (l ++ m) = recs f l ++ recs f m := by simp [recs]
theorem recs_one (x : α) : recs f [x] = f x := by simp [recs]
theorem recs_drop (hf : ∀ x, (f x).length = sz) (l : List α) (k : Nat) : (recs f l).drop (k * sz) = recs f (l.drop k) := by
  induction l generalizing k with
  | nil => simp [recs]
  | cons x l ih =>
    cases k with
    | zero => simp
    | succ k => rw [recs_cons, Nat.succ_mul, Nat.add_comm, ← hf x, List.drop_append, List.drop_succ_cons, ← ih k, hf x]; simp [hf x]
theorem recs_take (hf : ∀ x, (f x).length = sz) (l : List α) (k : Nat) : (recs f l).take (k * sz) = recs f (l.take k) := by
  induction l generalizing k with
  | nil => simp [recs]
  | cons x l ih =>
    cases k with
    | zero => simp [recs]
    | succ k => rw [recs_cons, Nat.succ_mul, Nat.add_comm, List.take_succ_cons, recs_cons, ← ih k, ← hf x, List.take_append]; simp; exact List.take_of_length_le (Nat.le_add_right _ _)
theorem recs_get (hf : ∀ x, (f x).length = sz) {l : List α} {k : Nat} {x : α} (h : l[k]? = some x) : ((recs f l).drop (k * sz)).take sz = f x := by
  obtain ⟨h1, h2⟩ := List.getElem?_eq_some_iff.1 h
  rw [recs_drop hf, List.drop_eq_getElem_cons h1, h2, recs_cons, List.take_append_of_le_length (by rw [hf]; omega), List.take_of_length_le (by rw [hf]; omega)]
theorem Rd.recAt {w : World} {ad : Addr} {l : List α} (h : Rd w ad (recs f l)) (hf : ∀ x, (f x).length = sz) {k : Nat} {x : α} (hx : l[k]? = some x) : Rd w (ad.add (k * sz)) (f x) := by
  have := h.elem k sz
  rwa [recs_get hf hx] at this
theorem Sl.recLen {w : World} {A : Option Addr} {n : Nat} {l : List α} (h : Sl w A n sz (recs f l)) (hf : ∀ x, (f x).length = sz) (h0 : 0 < sz) : l.length = n := by
  have := h.1
  rw [recs_len hf] at this
  exact Nat.eq_of_mul_eq_mul_right h0 this
theorem recs_splice (hf : ∀ x, (f x).length = sz) {l : List α} {k : Nat} {y : α} (h : k < l.length) : splice (recs f l) (k * sz) (f y) = recs f (l.set k y) := by
  unfold splice
  rw [recs_take hf, hf, ← Nat.succ_mul, recs_drop hf, List.set_eq_take_append_cons_drop, if_pos h, recs_append, recs_cons, List.append_assoc]
theorem recs_oneCells (h : ∀ x, (f x).all Value.oneCell' = true) (l : List α) : ((recs f l).all Value.oneCell') = true := by
  rw [List.all_eq_true]
  intro v hv
  obtain ⟨x, _, hx⟩ := List.mem_flatMap.1 hv
  exact List.all_eq_true.1 (h x) v hx
end
end Go.Proofs.YthmmofllajkejaaGreatDoor

/- As Draw, for a region with two or more new variables: they lie apart. -/
namespace Go.Proofs.YthmmofllajkejaaGreatDoor
open Go.RowKit
section
variable {P : Program} {N : Nat} {Q : Kq} {ρ : Rf} {w : World}
/-- What must come ahead of each operation, as bits. -/
def ancOf (acc : List Nat) : List Edge → Nat
  | [] => 0
  | e :: r => bif Region.binds .any e then 1 <<< e.on ||| acc.getD e.on 0 ||| ancOf acc r else ancOf acc r
def ancs : List Oper → List Nat → List Nat
  | [], acc => acc
  | o :: r, acc => ancs r (acc ++ [ancOf acc o.after.toList])
theorem ancOf_spec {acc : List Nat} {i : Nat} : ∀ {es : List Edge}, (ancOf acc es).testBit i = true → ∃ e ∈ es, Region.binds .any e = true ∧ (e.on = i ∨ (acc.getD e.on 0).testBit i = true)
  | [], h => by simp [ancOf] at h
  | e :: r, h => by
    unfold ancOf at h
    cases hb : Region.binds .any e with
    | false =>
      rw [hb, cond_false] at h
      obtain ⟨e', h1, h2⟩ := ancOf_spec h
      exact ⟨e', List.mem_cons_of_mem _ h1, h2⟩
    | true =>
      rw [hb, cond_true, Nat.testBit_or, Nat.testBit_or, Bool.or_eq_true, Bool.or_eq_true] at h
      rcases h with (h | h) | h
      · refine ⟨e, List.mem_cons_self, hb, .inl ?_⟩
        rw [Nat.one_shiftLeft, Nat.testBit_two_pow] at h
        simpa using h
      · exact ⟨e, List.mem_cons_self, hb, .inr h⟩
      · obtain ⟨e', h1, h2⟩ := ancOf_spec h
        exact ⟨e', List.mem_cons_of_mem _ h1, h2⟩
theorem ancs_pre : ∀ (l : List Oper) (acc : List Nat), ∃ t, ancs l acc = acc ++ t
  | [], acc => ⟨[], by simp [ancs]⟩
  | o :: r, acc => by
    obtain ⟨t, h⟩ := ancs_pre r (acc ++ [ancOf acc o.after.toList])
    exact ⟨_, by rw [ancs, h, List.append_assoc]⟩
theorem ancs_at : ∀ (l : List Oper) (acc : List Nat) (k i : Nat), acc.length ≤ k → ((ancs l acc).getD k 0).testBit i = true → ∃ o, l[k - acc.length]? = some o ∧ ∃ e ∈ o.after, Region.binds .any e = true ∧ (e.on = i ∨ e.on < k ∧ ((ancs l acc).getD e.on 0).testBit i = true)
  | [], acc, k, i, hk, h => by
    rw [ancs, List.getD_eq_getElem?_getD, List.getElem?_eq_none hk] at h
    simp at h
  | o :: r, acc, k, i, hk, h => by
    rcases Nat.lt_or_ge acc.length k with hlt | hge
    · have hl : (acc ++ [ancOf acc o.after.toList]).length = acc.length + 1 := by simp
      obtain ⟨o', h1, h2⟩ := ancs_at r (acc ++ [ancOf acc o.after.toList]) k i (by omega) h
      refine ⟨o', ?_, h2⟩
      rw [hl] at h1
      rw [show k - acc.length = (k - (acc.length + 1)) + 1 by omega, List.getElem?_cons_succ]
      exact h1
    · obtain rfl : k = acc.length := by omega
      obtain ⟨t, ht⟩ := ancs_pre r (acc ++ [ancOf acc o.after.toList])
      refine ⟨o, by rw [Nat.sub_self]; rfl, ?_⟩
      rw [ancs, ht] at h ⊢
      rw [List.getD_eq_getElem?_getD, List.append_assoc, List.getElem?_append_right (Nat.le_refl _), Nat.sub_self] at h
      simp only [List.cons_append, List.getElem?_cons_zero, Option.getD_some, List.nil_append] at h
      obtain ⟨e, h1, h2, h3⟩ := ancOf_spec h
      refine ⟨e, by simpa using h1, h2, ?_⟩
      rcases h3 with h3 | h3
      · exact .inl h3
      · have h4 : e.on < acc.length := by
          rcases Nat.lt_or_ge e.on acc.length with h5 | h5
          · exact h5
          · rw [List.getD_eq_getElem?_getD, List.getElem?_eq_none h5] at h3; simp at h3
        refine .inr ⟨h4, ?_⟩
        rw [List.getD_eq_getElem?_getD, List.append_assoc, List.getElem?_append_left h4, ← List.getD_eq_getElem?_getD]
        exact h3
theorem anc_spec {l : List Oper} {M : List Nat} {L : Array Bool} (hM : ancs l [] = M) (hc : Closed l.toArray L) : ∀ (k i : Nat), (∀ o, l.toArray[k]? = some o → ∀ e ∈ o.after, Region.binds .any e = true → L.getD e.on false = true) → (M.getD k 0).testBit i = true → L.getD i false = true := by
  intro k
  induction k using Nat.strongRecOn with
  | _ k ih =>
    intro i hk h
    rw [← hM] at h
    obtain ⟨o, ho, e, he, hb, h3⟩ := ancs_at l [] k i (Nat.zero_le _) h
    have ho' : l.toArray[k]? = some o := by rw [List.getElem?_toArray]; exact ho
    have h1 := hk o ho' e he hb
    rcases h3 with h3 | ⟨h3, h4⟩
    · rw [← h3]; exact h1
    · rw [hM] at h4
      exact ih e.on h3 i (fun o' ho2 => hc e.on o' ho2 h1) h4
def flL (n m : Nat) (fl : List Nat) : Array Bool := ((List.range n).map fun i => decide (i < m ∧ i ∉ fl)).toArray
theorem flL_getD {n m i : Nat} {fl : List Nat} (hi : i < n) : (flL n m fl).getD i true = decide (i < m ∧ i ∉ fl) := by
  unfold flL
  rw [Array.getD_eq_getD_getElem?, List.getElem?_toArray, List.getElem?_map, List.getElem?_range hi]
  rfl
/-- It knows no panic. -/
def NP (Q : Kq) : Prop := ∀ c ρ w, ¬ Q (.panic c) ρ w
theorem np_ret {fn : Func} {R : Ending → World → Prop} : NP (retK P fn R) := fun _ _ _ h => h.1.elim nofun nofun
theorem np_then {next : Rf → World → Prop} (h : NP Q) : NP (thenK next Q) := fun c ρ w hq => h c ρ w hq
theorem np_blk {id : Nat} (h : NP Q) : NP (blkK id Q) := fun c ρ w hq => h c ρ w hq
/-- What yields a value whatever the memory holds. -/
def pureOp : Op → Bool
  | .extract _ _ => true
  | .move _ => true
  | _ => false
/-- A part taken out of a tuple, or a plain copy, which nothing of the rest reads or writes: whenever it comes up, it may as well come first. -/
def flOk (l : List Oper) (m : Nat) (fl : List Nat) (i : Nat) : Bool :=
  Region.free .any l.toArray (flL l.length m fl) i && match l[i]? with
    | some ⟨some _, op, _, _, af, none⟩ => pureOp op && af.all fun e => !Region.binds .any e || (decide (e.on < m) && !fl.contains e.on)
    | _ => false
theorem flOk_spec {l : List Oper} {m : Nat} {fl : List Nat} {i : Nat} (h : flOk l m fl i = true) : Region.free .any l.toArray (flL l.length m fl) i = true ∧ (∀ o, l[i]? = some o → ∀ e ∈ o.after, Region.binds .any e = true → e.on < m ∧ e.on ∉ fl) ∧
    ∃ d op ty pos af, l[i]? = some ⟨some d, op, ty, pos, af, none⟩ ∧ pureOp op = true := by
  unfold flOk at h
  rw [Bool.and_eq_true] at h
  obtain ⟨h1, h2⟩ := h
  split at h2
  · rename_i d op ty pos af ho
    rw [Bool.and_eq_true] at h2
    obtain ⟨hpu, h2⟩ := h2
    refine ⟨h1, fun o ho' e he hb => ?_, d, op, ty, pos, af, ho, hpu⟩
    rw [ho] at ho'
    injection ho' with ho'
    subst ho'
    have := Array.all_eq_true'.1 h2 e he
    simp only [hb, Bool.not_true, Bool.false_or, Bool.and_eq_true, decide_eq_true_eq, Bool.not_eq_true', List.contains_eq_mem, decide_eq_false_iff_not] at this
    exact this
  · cases h2
/-- The closed facts on a region, fl: its floating parts. -/
def drawOk3 (l : List Oper) (m N : Nat) (src : List (List (Nat × Option Nat))) (ds : List (Nat × Nat)) (fl M : List Nat) : Bool :=
  let ops := l.toArray
  let pre := (List.range m).map fun i => ((ops[i]?).bind (·.dst))
  (m ≤ l.length) && (src.length == m) &&
  -- the slots that the first part writes
  (ds == (pre.zipIdx.filterMap fun (d, i) => d.map fun d => (i, d)).reverse) && (decide (ds.map (·.2)).Nodup) && (ds.all fun p => p.2 < N) &&
  -- what each reads
  ((List.range m).all fun i => match ops[i]?, src[i]? with
    | some o, some s => ((o.looksAt ops).all fun t => s.any fun p => p.1 == t) &&
        s.all fun p => match p.2 with
          | some j => (j < m) && ((ops[j]?).bind (·.dst) == some p.1) && (M.getD i 0).testBit j
          | none => (List.range m).all fun j => !((ops[j]?).bind (·.dst) == some p.1) || (j != i && (M.getD j 0).testBit i)
    | _, _ => false) &&
  -- the last part comes behind the whole first one, in order
  (l.length == m || ((List.range m).all fun i => fl.contains i || (M.getD m 0).testBit i)) &&
  ((List.range (l.length - m)).all fun k => Region.ready .any ops (upTo l.length (m + k)) == [m + k]) && (Region.ready .any ops (upTo l.length l.length) == []) &&
  ((List.range (l.length - m)).all fun k => k == 0 || (M.getD (m + k) 0).testBit m) &&
  ((List.range l.length).all fun i => match ops[i]? with | some o => o.after.all fun e => !Region.binds .any e || e.on < i | none => false) &&
  Region.noSelect ops && (fl.all fun i => flOk l m fl i) && (ancs l [] == M)
def AlOk (P : Program) (l : List Oper) : List Nat → Prop
  | [] => True
  | i :: r => (∃ d t ty pos af n ag by' zc, l[i]? = some ⟨some d, .alloc t, ty, pos, af, none⟩ ∧ tinfo P t = some (n, ag, by', zc)) ∧ AlOk P l r
theorem AlOk.at {l : List Oper} : ∀ {fr : List Nat}, AlOk P l fr → ∀ i ∈ fr, ∃ d t ty pos af n ag by' zc, l[i]? = some ⟨some d, .alloc t, ty, pos, af, none⟩ ∧ tinfo P t = some (n, ag, by', zc)
  | [], _, _, hi => by simp at hi
  | j :: r, h, i, hi => by
    rcases List.mem_cons.1 hi with rfl | hi
    · exact h.1
    · exact AlOk.at h.2 i hi
theorem alok_nil {l : List Oper} : AlOk P l [] := trivial
theorem alok_cons {l : List Oper} {i d t ty : Nat} {pos : String} {af : Array Edge} {n by' : Nat} {ag : Bool} {zc : List Value} {r : List Nat} (h : l[i]? = some ⟨some d, .alloc t, ty, pos, af, none⟩) (ht : tinfo P t = some (n, ag, by', zc)) (hr : AlOk P l r) : AlOk P l (i :: r) := ⟨⟨d, t, ty, pos, af, n, ag, by', zc, h, ht⟩, hr⟩
theorem og_fresh {ops : Array Oper} {d : Nat} {t ty : Nat} {pos : String} {af : Array Edge} {n by' : Nat} {ag : Bool} {zc : List Value} {K : Value → World → Prop} (ht : tinfo P t = some (n, ag, by', zc)) (h : OG P ops ⟨some d, .alloc t, ty, pos, af, none⟩ ρ w K)
    (a : Act) (hd : d < a.tmps.size) (next : Act → World → Prop) (Q : Exit → Act → World → Prop) (ha : ∀ i, a.tmps.getD i undef = ρ i) (hn : ∀ v w', K v w' → (∃ b, v = .pointer (some ⟨b, 0, none⟩) ∧ w.heap.size ≤ b ∧ b < w'.heap.size) → next (a.put (some d) v) w') :
    if Region.wanted ⟨some d, .alloc t, ty, pos, af, none⟩ (yielded ops a.tmps) then (Oper.wp P ⟨some d, .alloc t, ty, pos, af, none⟩ a w next Q) ∨ ((Oper.asks P ⟨some d, .alloc t, ty, pos, af, none⟩ a w) ∧ LetsOut Q) else next (a.put (some d) undef) w := by
  have h1 := h.out a (fun a' w' => ∃ v, a' = a.put (some d) v ∧ K v w') Q ha fun v w' hk => ⟨v, rfl, hk⟩
  have hw : Region.wanted ⟨some d, .alloc t, ty, pos, af, none⟩ (yielded ops a.tmps) = true := by simp [Region.wanted]
  rw [if_pos hw] at h1 ⊢
  refine h1.imp (fun h2 => ?_) id
  obtain ⟨z, hz, hzc⟩ := run_zeroValue' (w := w) ht
  have hr : (execOp a.eval ⟨some d, .alloc t, ty, pos, af, none⟩).run P w = .ok (.value (.pointer (some ⟨w.heap.size, 0, none⟩))) (w.alloc (.cells zc.toArray t)) := by simp [execOp, Instr.alloc, newVar, newRow, hz, hzc]
  unfold Oper.wp at h2 ⊢
  rw [hr] at h2 ⊢
  obtain ⟨v, hv, hk⟩ : ∃ v, a.put (some d) (.pointer (some ⟨w.heap.size, 0, none⟩)) = a.put (some d) v ∧ K v (w.alloc (.cells zc.toArray t)) := h2
  have h3 := congrArg (fun a' : Act => a'.tmps.getD d undef) hv
  simp only [getD_put hd, if_pos] at h3
  subst h3
  exact hn _ _ hk ⟨_, rfl, Nat.le_refl _, (Array.getElem?_eq_some_iff.1 (heap_alloc_new w _)).1⟩
theorem extract_run {x : Operand} {k ty d : Nat} {pos : String} {af : Array Edge} (f : Operand → Value) (w : World) : (∃ v, ∀ w', (execOp f ⟨some d, .extract x k, ty, pos, af, none⟩).run P w' = .ok (.value v) w') ∨ ∀ a K, Oper.upon P ⟨some d, .extract x k, ty, pos, af, none⟩ a K (fun _ _ _ => False) ((execOp f ⟨some d, .extract x k, ty, pos, af, none⟩).run P w) → False := by
  cases hx : f x with
  | tuple xs =>
    cases hk : xs[k]? with
    | some v => exact .inl ⟨v, fun w' => by simp [execOp, hx, Instr.extract, hk]⟩
    | none => exact .inr fun a K h => by simp [execOp, hx, Instr.extract, hk, Oper.upon] at h
  | _ => exact .inr fun a K h => by simp [execOp, hx, Instr.extract, Oper.upon] at h
theorem pure_run {op : Op} (hp : pureOp op = true) {ty d : Nat} {pos : String} {af : Array Edge} (f : Operand → Value) (w : World) : (∃ v, ∀ w', (execOp f ⟨some d, op, ty, pos, af, none⟩).run P w' = .ok (.value v) w') ∨ ∀ a K, Oper.upon P ⟨some d, op, ty, pos, af, none⟩ a K (fun _ _ _ => False) ((execOp f ⟨some d, op, ty, pos, af, none⟩).run P w) → False := by
  unfold pureOp at hp
  split at hp
  · exact extract_run f w
  · exact .inl ⟨_, fun w' => by simp [execOp]; rfl⟩
  · cases hp
theorem pure_yields {ops : Array Oper} {d : Nat} {op : Op} (hp : pureOp op = true) {ty : Nat} {pos : String} {af : Array Edge} {K : Value → World → Prop} (h : OG P ops ⟨some d, op, ty, pos, af, none⟩ ρ w K) (a : Act) (hd : d < a.tmps.size) (ha : ∀ i, a.tmps.getD i undef = ρ i) :
    ∃ v, (∀ w', (execOp a.eval ⟨some d, op, ty, pos, af, none⟩).run P w' = .ok (.value v) w') ∧ K v w := by
  have h1 := h.out a (fun a' w' => ∃ v, a' = a.put (some d) v ∧ K v w') (fun _ _ _ => False) ha fun v w' hk => ⟨v, rfl, hk⟩
  rw [if_pos (by simp [Region.wanted])] at h1
  rcases h1 with h1 | ⟨_, _, _, h1⟩
  · unfold Oper.wp at h1
    rcases pure_run (P := P) hp (d := d) (ty := ty) (pos := pos) (af := af) a.eval w with ⟨v, hv⟩ | hn
    · rw [hv w] at h1
      obtain ⟨v', h2, hk⟩ : ∃ v', a.put (some d) v = a.put (some d) v' ∧ K v' w := h1
      have h3 := congrArg (fun a' : Act => a'.tmps.getD d undef) h2
      simp only [getD_put hd, if_pos] at h3
      subst h3
      exact ⟨v, hv, hk⟩
    · exact (hn _ _ h1).elim
  · exact h1.elim
structure DI2 (fr : List Nat) (N : Nat) (ops : Array Oper) (m : Nat) (ρ : Rf) (J : World → Prop) (V : Nat → Value → World → Prop) (L : Array Bool) (a : Act) (w : World) : Prop where
  nd : a.defers = []
  sz : a.tmps.size = N
  j : J w
  ls : L.size = ops.size
  cl : Closed ops L
  tl : ∀ k, m ≤ k → L.getD k false = false
  vs : ∀ i d, i < m → L.getD i false = true → (ops[i]?).bind (·.dst) = some d → V i (a.tmps.getD d undef) w
  old : ∀ s, (∀ i, i < m → L.getD i false = true → (ops[i]?).bind (·.dst) ≠ some s) → a.tmps.getD s undef = ρ s
  fb : ∀ i ∈ fr, L.getD i false = true → ∀ d, (ops[i]?).bind (·.dst) = some d → ∃ b, a.tmps.getD d undef = .pointer (some ⟨b, 0, none⟩) ∧ b < w.heap.size
  fd : ∀ i ∈ fr, ∀ j ∈ fr, i ≠ j → L.getD i false = true → L.getD j false = true → ∀ d e, (ops[i]?).bind (·.dst) = some d → (ops[j]?).bind (·.dst) = some e → a.tmps.getD d undef ≠ a.tmps.getD e undef
theorem wc_draw2 {id : Nat} {l : List Oper} (fr fl M : List Nat) (m : Nat) (src : List (List (Nat × Option Nat))) (ds : List (Nat × Nat)) (J : World → Prop) (V : Nat → Value → World → Prop) (hm : P.follows .mixedOrders = true) (hok : drawOk3 l m N src ds fl M = true) (hfr : AlOk P l fr) (hfm : fr.all (fun i => i < m) = true) (hQp : NP Q)
    (hJ : ∀ w w', J w → Below w.heap.size w w' → J w') (h0 : J w) (hops : DO P l.toArray J V ρ 0 (l.take m) src)
    (tail : ∀ f w', J w' → AllV V f w' ds → (∀ i ∈ fr, ∀ j ∈ fr, i ≠ j → f i ≠ f j) → WL P N l.toArray Q (l.drop m) (updL ρ f ds) w') : WC P N (.region id l.toArray true) Q ρ w := by
  refine ⟨fun a hf => wp_region_any hm ?_⟩
  simp only [drawOk3, Bool.and_eq_true, decide_eq_true_eq, beq_iff_eq, List.all_eq_true, List.mem_range] at hok
  obtain ⟨⟨⟨⟨⟨⟨⟨⟨⟨⟨⟨⟨⟨hml, _⟩, hds⟩, hnd⟩, hdN⟩, hrd⟩, htail⟩, hready⟩, hend⟩, hdep⟩, hedge⟩, hns⟩, hflo⟩, hM⟩ := hok
  have hfl := fun i hi => flOk_spec (hflo i hi)
  have hdo := (do_at _ _ _ hops).2
  have hpre : ∀ i d, i < m → ((l.toArray[i]?).bind (·.dst)) = some d → (i, d) ∈ ds := fun i d hi hd => by
    rw [hds, List.mem_reverse, List.mem_filterMap]
    refine ⟨(some d, i), ?_, rfl⟩
    rw [List.mem_zipIdx_iff_getElem?]
    rw [List.getElem?_map, List.getElem?_range hi]
    simp only [Option.map_some, hd]
  have hdsm : ∀ i d, (i, d) ∈ ds → i < m ∧ ((l.toArray[i]?).bind (·.dst)) = some d := fun i d hp => by
    rw [hds, List.mem_reverse, List.mem_filterMap] at hp
    obtain ⟨⟨x, k⟩, hx, hxe⟩ := hp
    rw [List.mem_zipIdx_iff_getElem?] at hx
    cases x with
    | none => simp at hxe
    | some d' =>
      simp only [Option.map_some, Option.some.injEq, Prod.mk.injEq] at hxe
      obtain ⟨rfl, rfl⟩ := hxe
      rw [List.getElem?_map] at hx
      cases hr : (List.range m)[k]? with
      | none => rw [hr] at hx; simp at hx
      | some y =>
        have hkm : k < m := by
          have := (List.getElem?_eq_some_iff.1 hr).1
          simpa using this
        rw [List.getElem?_range hkm] at hx
        simp only [Option.map_some, Option.some.injEq] at hx
        exact ⟨hkm, hx⟩
  have hone : ∀ i j d, i < m → j < m → ((l.toArray[i]?).bind (·.dst)) = some d → ((l.toArray[j]?).bind (·.dst)) = some d → i = j := fun i j d hi hj h1 h2 => by
    have p1 := hpre i d hi h1
    have p2 := hpre j d hj h2
    have e1 := ((updL_at (ρ := ρ) (fun i => .int .i64 i) ds d hnd).1 i p1).symm.trans ((updL_at (ρ := ρ) (fun i => .int .i64 i) ds d hnd).1 j p2)
    injection e1 with _ e1
    omega
  have hnn : l.toArray.size = l.length := by simp
  have hfm' : ∀ i ∈ fr, i < m := fun i hi => by simpa using List.all_eq_true.1 hfm i hi
  have full : ∀ (L : Array Bool) (a : Act) (w : World) (fuel : Nat), DI2 fr N l.toArray m ρ J V L a w → (∀ i, i < m → L.getD i false = true) → l.length ≤ fuel + m → wpAny P .any l.toArray (lift N Q) fuel L a w := by
    intro L a w fuel hI hall hfu
    have hL : L = upTo l.length m := eq_upTo (by rw [hI.ls, hnn]) hml hall hI.tl
    rw [hL]
    refine tail_any m (fun k h1 h2 => ?_) hend fuel m a w (Nat.le_refl _) hml hfu ?_
    · have := hready (k - m) (by omega)
      rwa [show m + (k - m) = k by omega] at this
    · have hfits : Fits N a (updL ρ (fun i => match (l.toArray[i]?).bind (·.dst) with | some d => a.tmps.getD d undef | none => undef) ds) := by
        refine ⟨hI.nd, hI.sz, fun s => ?_⟩
        by_cases hs : ∃ i, (i, s) ∈ ds
        · obtain ⟨i, hi⟩ := hs
          rw [(updL_at _ ds s hnd).1 i hi, (hdsm i s hi).2]
        · rw [(updL_at _ ds s hnd).2 fun i hi => hs ⟨i, hi⟩]
          exact hI.old s fun i hi _ hd => hs ⟨i, hpre i s hi hd⟩
      refine (tail _ w hI.j (allV_of ds fun p hp => ?_) fun i hi j hj hij => ?_).out a hfits
      rotate_left
      · obtain ⟨d, t, ty, pos, af, n, ag, by', zc, hi1, _⟩ := hfr.at i hi
        obtain ⟨e, t', ty', pos', af', n', ag', by'', zc', hj1, _⟩ := hfr.at j hj
        have hi2 : (l.toArray[i]?).bind (·.dst) = some d := by rw [List.getElem?_toArray, hi1]; rfl
        have hj2 : (l.toArray[j]?).bind (·.dst) = some e := by rw [List.getElem?_toArray, hj1]; rfl
        rw [hi2, hj2]
        exact hI.fd i hi j hj hij (hall i (hfm' i hi)) (hall j (hfm' j hj)) d e hi2 hj2
      obtain ⟨h1, h2⟩ := hdsm p.1 p.2 hp
      have := hI.vs p.1 p.2 h1 (hall _ h1) h2
      rw [h2]
      exact this
  have key : ∀ (fuel : Nat) (L : Array Bool) (a : Act) (w : World), DI2 fr N l.toArray m ρ J V L a w → fuel + L.toList.countP (fun b => b) = l.length → wpAny P .any l.toArray (lift N Q) fuel L a w := by
    intro fuel
    induction fuel with
    | zero =>
      intro L a w hI hc
      have hall : ∀ i, i < l.length → L.getD i false = true := fun i hi => by
        have h1 : L.toList.countP (fun b => b) = L.toList.length := by
          have := hI.ls; simp only [Array.length_toList]; omega
        have h2 := List.countP_eq_length.1 h1
        have h3 : i < L.size := by rw [hI.ls, hnn]; exact hi
        have := h2 L[i] (by simp)
        simpa [h3] using this
      have hmn : l.length ≤ 0 + m := by
        rcases Nat.lt_or_ge m l.length with h | h
        · have h1 := hall m h
          rw [hI.tl m (Nat.le_refl _)] at h1
          cases h1
        · omega
      exact full L a w 0 hI (fun i hi => hall i (by omega)) hmn
    | succ fuel ih =>
      intro L a w hI hc
      by_cases hall : ∀ i, i < m → L.getD i false = true
      · refine full L a w (fuel + 1) hI hall ?_
        have hL : L = upTo l.length m := eq_upTo (by rw [hI.ls, hnn]) hml hall hI.tl
        rw [hL, count_upTo] at hc
        omega
      · have hsome : ∃ i, i < m ∧ L.getD i false = false := by
          refine Classical.byContradiction fun hn => hall fun i hi => ?_
          cases hc2 : L.getD i false with
          | true => rfl
          | false => exact absurd ⟨i, hi, hc2⟩ hn
        have hready_spec : ∀ i, i ∈ Region.ready .any l.toArray L ↔ i < l.length ∧ L.getD i true = false ∧ ∃ o, l.toArray[i]? = some o ∧ ∀ e ∈ o.after, Region.binds .any e = true → L.getD e.on false = true := fun i => by
          unfold Region.ready
          rw [List.mem_filter, List.mem_range, hnn]
          constructor
          · rintro ⟨h1, h2⟩
            have ho : l.toArray[i]? = some l[i] := by simp [h1]
            rw [ho] at h2
            simp only [Option.map_some, Option.getD_some, Bool.and_eq_true, Bool.not_eq_true'] at h2
            refine ⟨h1, h2.1, l[i], ho, fun e he hb => ?_⟩
            have := Array.all_eq_true'.1 h2.2 e he
            simpa [hb] using this
          · rintro ⟨h1, h2, o, ho, h3⟩
            refine ⟨h1, ?_⟩
            rw [ho]
            simp only [Option.map_some, Option.getD_some, Bool.and_eq_true, Bool.not_eq_true']
            refine ⟨h2, Array.all_eq_true'.2 fun e he => ?_⟩
            cases hb : Region.binds .any e with
            | false => simp
            | true => simpa [hb] using h3 e he hb
        have both : ∀ (i : Nat) (_ : i < m) (o : Oper) (_ : l.toArray[i]? = some o) (_ : L.getD i false = false) (_ : ∀ e ∈ o.after, Region.binds .any e = true → L.getD e.on false = true),
            OG P l.toArray o (fun t => a.tmps.getD t undef) w (fun v w2 => Below w.heap.size w w2 ∧ V i v w2) ∧
            ∀ v w2, (Below w.heap.size w w2 ∧ V i v w2) → (i ∈ fr → ∃ b, v = .pointer (some ⟨b, 0, none⟩) ∧ w.heap.size ≤ b ∧ b < w2.heap.size) → wpAny P .any l.toArray (lift N Q) fuel (L.setIfInBounds i true) (a.put o.dst v) w2 := fun i him o ho hun' hed => by
          have hiL : i < L.size := by rw [hI.ls, hnn]; omega
          have hed' : ∀ o', l.toArray[i]? = some o' → ∀ e ∈ o'.after, Region.binds .any e = true → L.getD e.on false = true := fun o' ho' => by
            rw [ho] at ho'; injection ho' with ho'; subst ho'; exact hed
          have hok' : (l.take m)[i]? = some o := by
            rw [List.getElem?_take, if_pos him]
            simpa using ho
          obtain ⟨s, hs, hstab, hog⟩ := hdo i o hok'
          rw [Nat.zero_add] at hstab hog
          have hrdi := hrd i him
          rw [ho, hs] at hrdi
          simp only [Bool.and_eq_true, List.all_eq_true] at hrdi
          have hro : RdOk V ρ (fun t => a.tmps.getD t undef) w s := rdOk_of s fun p hp => by
            have hp2 := hrdi.2 p hp
            cases hp3 : p.2 with
            | some j =>
              rw [hp3] at hp2
              simp only [Bool.and_eq_true, decide_eq_true_eq, beq_iff_eq] at hp2
              exact hI.vs j p.1 hp2.1.1 (anc_spec hM hI.cl i j hed' hp2.2) hp2.1.2
            | none =>
              rw [hp3] at hp2
              refine hI.old p.1 fun j hj hjl hjd => ?_
              have h6 := List.all_eq_true.1 hp2 j (by simpa using hj)
              rw [hjd] at h6
              simp only [beq_self_eq_true, Bool.not_true, Bool.false_or, Bool.and_eq_true] at h6
              have := anc_spec hM hI.cl j i (fun o' ho' e he hb => hI.cl j o' ho' hjl e he hb) h6.2
              rw [hun'] at this
              cases this
          have hnext : ∀ v w2, (Below w.heap.size w w2 ∧ V i v w2) → (i ∈ fr → ∃ b, v = .pointer (some ⟨b, 0, none⟩) ∧ w.heap.size ≤ b ∧ b < w2.heap.size) → wpAny P .any l.toArray (lift N Q) fuel (L.setIfInBounds i true) (a.put o.dst v) w2 := fun v w2 hv hfv => by
            have hd1 : ∀ d', o.dst = some d' → d' < a.tmps.size := fun d' hd' => by
              rw [hI.sz]
              exact hdN (i, d') (hpre i d' him (by rw [ho]; exact hd'))
            have hput : ∀ j d, j < m → j ≠ i → (l.toArray[j]?).bind (·.dst) = some d → (a.put o.dst v).tmps.getD d undef = a.tmps.getD d undef := fun j d hj hji hjd => by
              cases hod : o.dst with
              | none => rfl
              | some d' => rw [getD_put (hd1 d' hod), if_neg fun e => hji (hone j i d hj him hjd (by rw [ho, e]; exact hod))]
            have hputi : ∀ d, (l.toArray[i]?).bind (·.dst) = some d → (a.put o.dst v).tmps.getD d undef = v := fun d hd => by
              rw [ho] at hd
              simp only [Option.bind_some] at hd
              rw [hd, getD_put (hd1 d hd), if_pos rfl]
            have hfd : ∀ j ∈ fr, j ≠ i → L.getD j false = true → i ∈ fr → ∀ e, (l.toArray[j]?).bind (·.dst) = some e → a.tmps.getD e undef ≠ v := fun j hj hji hjl hif e hje heq => by
              obtain ⟨b, hb1, hb2⟩ := hI.fb j hj hjl e hje
              obtain ⟨b', hv1, hb3, _⟩ := hfv hif
              rw [hb1, hv1] at heq
              injection heq with heq
              injection heq with heq
              injection heq with heq
              omega
            refine ih _ _ _ ?_ ?_
            · refine ⟨?_, ?_, hJ _ _ hI.j hv.1, by simpa using hI.ls, ?_, ?_, ?_, ?_, ?_, ?_⟩
              · cases o.dst <;> exact hI.nd
              · cases hod : o.dst with
                | none => exact hI.sz
                | some d => simpa [Act.put] using hI.sz
              · intro k ok hk hkl e he hb
                rw [getD_set hiL] at hkl ⊢
                by_cases hki : k = i
                · subst hki
                  simp [hed' ok hk e he hb]
                · simp only [hki, decide_false, Bool.false_or] at hkl
                  simp [hI.cl k ok hk hkl e he hb]
              · intro k hk
                rw [getD_set hiL, hI.tl k hk]
                have : ¬ k = i := by omega
                simp [this]
              · intro j d hj hjl hjd
                rw [getD_set hiL] at hjl
                have hd1 : ∀ d', o.dst = some d' → d' < a.tmps.size := fun d' hd' => by
                  rw [hI.sz]
                  exact hdN (i, d') (hpre i d' him (by rw [ho]; exact hd'))
                by_cases hji : j = i
                · subst hji
                  rw [ho] at hjd
                  simp only [Option.bind_some] at hjd
                  rw [hjd, getD_put (hd1 d hjd), if_pos rfl]
                  exact hv.2
                · simp only [hji, decide_false, Bool.false_or] at hjl
                  have hold := hI.vs j d hj hjl hjd
                  have hdj : (j, d) ∈ ds := hpre j d hj hjd
                  have hst := (hdo j (l.toArray[j]?.getD default) (by
                    have : j < l.length := by omega
                    rw [List.getElem?_take, if_pos hj]
                    simp [this])).choose_spec.2.1
                  rw [Nat.zero_add] at hst
                  have hne : ∀ d', o.dst = some d' → d ≠ d' := fun d' hd' e => by
                    subst e
                    exact hji (hone j i d hj him hjd (by rw [ho]; exact hd'))
                  cases hod : o.dst with
                  | none => exact hst _ _ _ hold hv.1
                  | some d' =>
                    rw [getD_put (hd1 d' hod), if_neg (hne d' hod)]
                    exact hst _ _ _ hold hv.1
              · intro s' hs'
                have hni : ((l.toArray[i]?).bind (·.dst)) ≠ some s' := hs' i him (by rw [getD_set hiL]; simp)
                have hold := hI.old s' fun j hj hjl => hs' j hj (by rw [getD_set hiL]; simp [hjl])
                rw [ho] at hni
                simp only [Option.bind_some] at hni
                cases hod : o.dst with
                | none => exact hold
                | some d' =>
                  rw [getD_put (by rw [hI.sz]; exact hdN (i, d') (hpre i d' him (by rw [ho]; exact hod))), if_neg (fun e => hni (by rw [hod, e]))]
                  exact hold
              · intro j hj hjl d hjd
                rw [getD_set hiL] at hjl
                by_cases hji : j = i
                · subst hji
                  obtain ⟨b, hb1, _, hb3⟩ := hfv hj
                  exact ⟨b, (hputi d hjd).trans hb1, hb3⟩
                · simp only [hji, decide_false, Bool.false_or] at hjl
                  obtain ⟨b, hb1, hb2⟩ := hI.fb j hj hjl d hjd
                  exact ⟨b, (hput j d (hfm' j hj) hji hjd).trans hb1, Nat.lt_of_lt_of_le hb2 hv.1.size⟩
              · intro j hj k hk hjk hjl hkl d e hjd hke
                rw [getD_set hiL] at hjl hkl
                by_cases hji : j = i
                · subst hji
                  have hkj : k ≠ j := fun e => hjk e.symm
                  simp only [hkj, decide_false, Bool.false_or] at hkl
                  rw [hputi d hjd, hput k e (hfm' k hk) hkj hke]
                  exact fun he => hfd k hk hkj hkl hj e hke he.symm
                · simp only [hji, decide_false, Bool.false_or] at hjl
                  by_cases hki : k = i
                  · subst hki
                    rw [hputi e hke, hput j d (hfm' j hj) hji hjd]
                    exact hfd j hj hji hjl hk d hjd
                  · simp only [hki, decide_false, Bool.false_or] at hkl
                    rw [hput j d (hfm' j hj) hji hjd, hput k e (hfm' k hk) hki hke]
                    exact hI.fd j hj k hk hjk hjl hkl d e hjd hke
            · have hLi : L.toList[i]? = some false := by
                have h3 : i < L.toList.length := by simpa using hiL
                rw [List.getElem?_eq_getElem h3]
                have : L.getD i false = L.toList[i] := by simp [hiL]
                rw [← this, hun']
              rw [Array.toList_setIfInBounds, List.countP_set (by simpa using hiL)]
              have h4 : L.toList[i]'(by simpa using hiL) = false := (List.getElem?_eq_some_iff.1 hLi).2
              rw [h4]
              simp only [Bool.false_eq_true, if_false, if_true]
              omega
          exact ⟨hog _ w hI.j hro, hnext⟩
        by_cases hnf : ∀ i, i < m → i ∉ fl → L.getD i false = true
        · obtain ⟨i, him, hun'⟩ := hsome
          have hif : i ∈ fl := Classical.byContradiction fun h => by
            have h2 := hnf i him h
            rw [hun'] at h2
            cases h2
          obtain ⟨hfree, hedf, d, op, ty, pos, af, hlo, hpu⟩ := hfl i hif
          have ho : l.toArray[i]? = some ⟨some d, op, ty, pos, af, none⟩ := by rw [List.getElem?_toArray]; exact hlo
          have hed : ∀ e ∈ af, Region.binds .any e = true → L.getD e.on false = true := fun e he hb => by
            obtain ⟨h1, h2⟩ := hedf _ hlo e he hb
            exact hnf e.on h1 h2
          have hil : i < l.length := by omega
          have hiL : i < L.size := by rw [hI.ls, hnn]; exact hil
          have hunt : L.getD i true = false := by
            rw [Array.getD_eq_getD_getElem?] at hun' ⊢
            rw [Array.getElem?_eq_getElem hiL] at hun' ⊢
            simpa using hun'
          obtain ⟨hog, hnext⟩ := both i him _ ho hun' hed
          obtain ⟨v, hv, hk⟩ := pure_yields hpu hog a (by rw [hI.sz]; exact hdN (i, d) (hpre i d him (by rw [ho]; rfl))) fun _ => rfl
          refine wpAny_first (v := v) ho (Region.noSelect_spec hns) (fun c a w ⟨ρ', _, hq⟩ => (hQp c ρ' w hq).elim) fuel L a w (fun j oj hj hji hjl hno => ?_) ((hready_spec i).2 ⟨hil, hunt, _, ho, hed⟩) (.inl ⟨by simp [Region.wanted], hv⟩) (hnext v w hk fun hfr' => ?_)
          · refine Region.free_spec ho hfree j oj hj hji ?_ hno
            have hjlen : j < l.length := by have := (Array.getElem?_eq_some_iff.1 hj).1; omega
            rw [flL_getD hjlen]
            rw [decide_eq_false_iff_not]
            rintro ⟨h1, h2⟩
            have h3 := hnf j h1 h2
            have hjL : j < L.size := by rw [hI.ls, hnn]; exact hjlen
            rw [Array.getD_eq_getD_getElem?] at h3 hjl
            rw [Array.getElem?_eq_getElem hjL] at h3 hjl
            simp only [Option.getD_some] at h3 hjl
            rw [h3] at hjl
            cases hjl
          · obtain ⟨d', t, ty', pos', af', n, ag, by', zc, hi1, _⟩ := hfr.at i hfr'
            rw [hlo] at hi1
            injection hi1 with hi1
            injection hi1 with _ hi1
            subst hi1
            cases hpu
        have hsome2 : ∃ i, i < m ∧ i ∉ fl ∧ L.getD i false = false := by
          refine Classical.byContradiction fun hn => hnf fun i hi hif => ?_
          cases hc2 : L.getD i false with
          | true => rfl
          | false => exact absurd ⟨i, hi, hif, hc2⟩ hn
        refine ⟨fun hnil => ?_, fun i hi => ?_⟩
        · exfalso
          -- the least one that is not listed may come up
          have hmin : ∀ k, (∃ i, i < k ∧ i < m ∧ L.getD i false = false) → ∃ i, i < m ∧ L.getD i false = false ∧ ∀ j, j < i → L.getD j false = true := by
            intro k
            induction k with
            | zero => rintro ⟨i, h, _⟩; omega
            | succ k ihk =>
              rintro ⟨i, h1, h2, h3⟩
              by_cases hex : ∃ i, i < k ∧ i < m ∧ L.getD i false = false
              · exact ihk hex
              · have hik : i = k := by
                  rcases Nat.lt_or_ge i k with h | h
                  · exact absurd ⟨i, h, h2, h3⟩ hex
                  · omega
                subst hik
                refine ⟨i, h2, h3, fun j hj => ?_⟩
                cases hc2 : L.getD j false with
                | true => rfl
                | false => exact absurd ⟨j, hj, by omega, hc2⟩ hex
          obtain ⟨i0, h1, h2⟩ := hsome
          obtain ⟨i, hi, hu, hlow⟩ := hmin (i0 + 1) ⟨i0, by omega, h1, h2⟩
          have hil : i < l.length := by omega
          have hE := hedge i hil
          have ho : l.toArray[i]? = some l[i] := by simp [hil]
          rw [ho] at hE
          have hmem : i ∈ Region.ready .any l.toArray L := (hready_spec i).2 ⟨hil, by
            have h3 : i < L.size := by rw [hI.ls, hnn]; exact hil
            rw [Array.getD_eq_getD_getElem?] at hu ⊢
            rw [Array.getElem?_eq_getElem h3] at hu ⊢
            simpa using hu, l[i], ho, fun e he hb => by
            have := Array.all_eq_true'.1 hE e he
            simp only [hb, Bool.not_true, Bool.false_or, decide_eq_true_eq] at this
            exact hlow _ this⟩
          rw [hnil] at hmem
          cases hmem
        · obtain ⟨hil, hun, o, ho, hed⟩ := (hready_spec i).1 hi
          have hiL : i < L.size := by rw [hI.ls, hnn]; exact hil
          have hun' : L.getD i false = false := by
            rw [Array.getD_eq_getD_getElem?] at hun ⊢
            rw [Array.getElem?_eq_getElem hiL] at hun ⊢
            simpa using hun
          have hed' : ∀ o', l.toArray[i]? = some o' → ∀ e ∈ o'.after, Region.binds .any e = true → L.getD e.on false = true := fun o' ho' => by
            rw [ho] at ho'; injection ho' with ho'; subst ho'; exact hed
          have him : i < m := by
            rcases Nat.lt_or_ge i m with h | h
            · exact h
            · exfalso
              rcases Nat.lt_or_ge m i with h2 | h2
              · have h3 := hdep (i - m) (by omega)
                rw [show m + (i - m) = i by omega] at h3
                have h4 : (i - m == 0) = false := by simp; omega
                rw [h4, Bool.false_or] at h3
                have := anc_spec hM hI.cl i m hed' h3
                rw [hI.tl m (Nat.le_refl _)] at this
                cases this
              · obtain rfl : i = m := by omega
                have h4 : (l.length == i) = false := by simp; omega
                rw [h4, Bool.false_or] at htail
                have h5 := List.all_eq_true.1 htail
                obtain ⟨j, hj, hjf, hju⟩ := hsome2
                have h6 := h5 j (by simpa using hj)
                have h7 : fl.contains j = false := by simpa using hjf
                rw [h7, Bool.false_or] at h6
                have := anc_spec hM hI.cl i j hed' h6
                rw [hju] at this
                cases this
          obtain ⟨hog, hnext⟩ := both i him o ho hun' hed
          have hgo : if Region.wanted o (yielded l.toArray a.tmps) then (o.wp P a w (wpAny P .any l.toArray (lift N Q) fuel (L.setIfInBounds i true)) (lift N Q)) ∨ ((o.asks P a w) ∧ LetsOut (lift N Q)) else wpAny P .any l.toArray (lift N Q) fuel (L.setIfInBounds i true) (a.put o.dst undef) w := by
            by_cases hif : i ∈ fr
            · obtain ⟨d, t, ty, pos, af, n, ag, by', zc, hi1, ht⟩ := hfr.at i hif
              have ho2 : o = ⟨some d, .alloc t, ty, pos, af, none⟩ := by
                have h7 := ho
                rw [List.getElem?_toArray, hi1] at h7
                injection h7 with h7
                exact h7.symm
              have hds : d < a.tmps.size := by
                rw [hI.sz]
                exact hdN (i, d) (hpre i d him (by rw [ho, ho2]; rfl))
              subst ho2
              exact og_fresh ht hog a hds _ _ (fun _ => rfl) fun v w' hk hb => hnext v w' hk fun _ => hb
            · exact hog.out a _ _ (fun _ => rfl) fun v w2 hv => hnext v w2 hv fun h => absurd h hif
          unfold wpOp
          rw [ho]
          exact hgo
  have hJ0 : J ({ w with drawn := w.drawn + 1 } : World) := hJ w _ h0 ⟨rfl, rfl, rfl, Nat.le_refl _, fun _ _ => rfl⟩
  have hr0 : ∀ i, (Array.replicate l.toArray.size false).getD i false = false := fun i => by
    rw [Array.getD_eq_getD_getElem?, Array.getElem?_replicate]; split <;> rfl
  refine key _ _ _ _ ⟨hf.nd, hf.sz, hJ0, by simp, fun k o _ hk => ?_, fun k _ => hr0 k, fun i d _ hi => ?_, fun s _ => hf.at_ s, fun i _ hi => ?_, fun i _ j _ _ hi => ?_⟩ ?_
  · rw [hr0] at hk; cases hk
  · rw [hr0] at hi; cases hi
  · rw [hr0] at hi; cases hi
  · rw [hr0] at hi; cases hi
  · simp [List.countP_replicate]
theorem JJ.newVar2 {w0 : World} {H : List HE} {w W : World} {t t' : TypeId} {cs cs' : List Value} {b b' : Nat} (h : JJ w0 H w W) (hs : Hp w0 H w) (h2 : w.heap.size ≤ b) (h3 : W.heap[b]? = some (.cells cs.toArray t (0, 0)))
    (h2' : w.heap.size ≤ b') (h3' : W.heap[b']? = some (.cells cs'.toArray t' (0, 0))) (hbb : b ≠ b') : Hp w0 (.blk b' t' cs' (0, 0) :: .blk b t cs (0, 0) :: H) W := by
  have h1 := h.newVar hs h2 h3
  refine ⟨h.hp.below, ?_, ?_⟩
  · intro y hy
    rcases List.mem_cons.1 hy with rfl | hy
    · exact ⟨Nat.le_trans hs.size h2', h3', .inr (Nat.le_refl _)⟩
    · exact h1.own y hy
  · rw [List.filterMap_cons, List.filterMap_cons]
    show (b' :: b :: H.filterMap HE.id).Nodup
    have hn : ∀ c, w.heap.size ≤ c → c ∉ H.filterMap HE.id := fun c hc hm => by
      obtain ⟨y, hy, hyb⟩ := List.mem_filterMap.1 hm
      have := (holds_lt (hs.own y hy) hyb).2
      omega
    refine List.nodup_cons.2 ⟨fun hm => ?_, List.nodup_cons.2 ⟨hn b h2, h.hp.nd⟩⟩
    rcases List.mem_cons.1 hm with e | hm
    · exact hbb e.symm
    · exact hn b' h2' hm
end
theorem wc_drawn2 {P : Program} {N : Nat} {ρ : Rf} {w : World} {Q : Kq} {id : Nat} {l : List Oper} (fr fl M : List Nat) (m : Nat) (src : List (List (Nat × Option Nat))) (ds : List (Nat × Nat)) {w0 : World} {H : List HE} (hh : Hp w0 H w) (hm : P.follows .mixedOrders = true) (hok : drawOk3 l m N src ds fl M = true)
    (hfr : AlOk P l fr) (hfm : fr.all (fun i => i < m) = true) (hQp : NP Q)
    (h : DX P l.toArray (JJ w0 H w) ρ (fun V => ∀ f w', JJ w0 H w w' → AllV V f w' ds → (∀ i ∈ fr, ∀ j ∈ fr, i ≠ j → f i ≠ f j) → WL P N l.toArray Q (l.drop m) (updL ρ f ds) w') 0 noV (l.take m) src) : WC P N (.region id l.toArray true) Q ρ w := by
  obtain ⟨V, _, h1, h2⟩ := dx_do _ _ _ _ (fun _ _ _ _ => trivial) h
  exact wc_draw2 fr fl M m src ds (JJ w0 H w) V hm hok hfr hfm hQp (fun _ _ h hb => h.ext hb) (JJ.start hh) h1 h2
/-- What the two values' blocks have to do with each other. -/
theorem ptr_ne {f : Nat → Value} {i j b b' : Nat} {fr : List Nat} (h : ∀ i ∈ fr, ∀ j ∈ fr, i ≠ j → f i ≠ f j) (hi : i ∈ fr) (hj : j ∈ fr) (hij : i ≠ j) (h1 : f i = .pointer (some ⟨b, 0, none⟩)) (h2 : f j = .pointer (some ⟨b', 0, none⟩)) : b ≠ b' := fun e => h i hi j hj hij (by rw [h1, h2, e])
end Go.Proofs.YthmmofllajkejaaGreatDoor

/- The values of a drawn region, laid in at one stroke. -/
namespace Go.Proofs.YthmmofllajkejaaGreatDoor
open Go.RowKit
def updK (ρ : Rf) : List (Nat × Value) → Rf
  | [] => ρ
  | (d, v) :: r => upd (updK ρ r) d v
def EqL (f : Nat → Value) : List (Nat × Nat) → List (Nat × Value) → Prop
  | [], [] => True
  | (i, d) :: r, (d', v) :: s => (d = d' ∧ f i = v) ∧ EqL f r s
  | _, _ => False
theorem updL_K {ρ : Rf} {f : Nat → Value} : ∀ {ds : List (Nat × Nat)} {vs : List (Nat × Value)}, EqL f ds vs → updL ρ f ds = updK ρ vs
  | [], [], _ => rfl
  | [], _ :: _, h => h.elim
  | _ :: _, [], h => h.elim
  | (i, d) :: r, (d', v) :: s, h => by
    obtain ⟨⟨rfl, rfl⟩, h2⟩ := h
    rw [updL, updK, updL_K h2]
theorem eql_nil {f : Nat → Value} : EqL f [] [] := trivial
theorem eql_cons {f : Nat → Value} {i d : Nat} {v : Value} {r : List (Nat × Nat)} {s : List (Nat × Value)} (h : f i = v) (hr : EqL f r s) : EqL f ((i, d) :: r) ((d, v) :: s) := ⟨⟨rfl, h⟩, hr⟩
theorem wl_cast {P : Program} {N : Nat} {ops : Array Oper} {Q : Kq} {l : List Oper} {ρ ρ' : Rf} {w : World} (h : ρ = ρ') (k : WL P N ops Q l ρ' w) : WL P N ops Q l ρ w := h ▸ k
section
variable {P : Program} {ops : Array Oper} {J : World → Prop} {ρ : Rf} {T : (Nat → VP) → Prop} {i : Nat} {pv : Nat → VP} {os : List Oper} {s : List (Nat × Option Nat)} {ss : List (List (Nat × Option Nat))} {d : Option Nat} {ty : TypeId} {pos : String} {af : Array Edge}
theorem og_guard_skipU {K : Value → World → Prop} {w : World} {ρ : Rf} {op : Op} {j dj : Nat} {b : Bool} (hj : (ops[j]?).bind (·.dst) = some dj) (hv : ρ dj = undef) (h : K undef w) : OG P ops ⟨d, op, ty, pos, af, some (j, b)⟩ ρ w K :=
  ⟨fun a next Q ha hn => by
    have h1 : Region.wanted ⟨d, op, ty, pos, af, some (j, b)⟩ (yielded ops a.tmps) = false := by
      have h2 := ha dj
      rw [hv, Array.getD_eq_getD_getElem?] at h2
      cases h3 : a.tmps[dj]? with
      | none => simp [Region.wanted, yielded, hj, h3]
      | some x =>
        rw [h3] at h2
        simp only [Option.getD_some] at h2
        subst h2
        simp [Region.wanted, yielded, hj, h3, undef]
    rw [h1]
    exact hn _ _ h⟩
theorem dx_skipU {b : Bool} {op : Op} {j dj : Nat} (hj : (ops[j]?).bind (·.dst) = some dj) (hv : ∀ ρ1 w1, J w1 → RdOk (pv) ρ ρ1 w1 s → ρ1 dj = undef)
    (k : DX P ops J ρ T (i + 1) (updV pv i (Is undef)) os ss) : DX P ops J ρ T i pv (⟨d, op, ty, pos, af, some (j, b)⟩ :: os) (s :: ss) :=
  dx_gen (Is undef) Is.ext (fun ρ1 w1 hj' h => og_guard_skipU hj (hv ρ1 w1 hj' h) ⟨Below.refl _ _, rfl⟩) k
theorem dx_take_buildSlice {b : Bool} {j dj : Nat} {t e : TypeId} {len sz by' : Nat} {ag : Bool} {parts : Array (Nat × Operand)} {ps : List (Nat × Value)} {zc cs : List Value} (hj : (ops[j]?).bind (·.dst) = some dj) (hg : ∀ ρ1 w1, J w1 → RdOk (pv) ρ ρ1 w1 s → ρ1 dj = .bool b)
    (ht : P.underlying t = some (.slice e)) (hte : tinfo P e = some (sz, ag, by', zc))
    (hp : ∀ ρ1 w1, J w1 → RdOk (pv) ρ ρ1 w1 s → evp ρ1 parts.toList = ps) (hzl : zc.length = sz) (hf : fillL (fun i => some (i * sz, sz)) (zrep len zc) ps = some cs) (h0 : ¬ len * sz = 0) (hsl : len * sz ≤ 16777216) (hl : cs.length = len * sz)
    (k : DX P ops J ρ T (i + 1) (updV pv i (Rows len sz cs)) os ss) : DX P ops J ρ T i pv (⟨d, .buildSlice t len parts, ty, pos, af, some (j, b)⟩ :: os) (s :: ss) :=
  dx_gen (Rows len sz cs) Rows.ext (fun ρ1 w1 hj' h => og_guard_take hj (hg ρ1 w1 hj' h) (og_buildSlice ht hte (hp ρ1 w1 hj' h) hzl hf h0 hsl hl fun _ _ ⟨_, hv, hs⟩ hb => ⟨hb, _, _, hv, hs⟩)) k
end
theorem Hp.recRow {α : Type} {f : α → List Value} {sz : Nat} {w0 w : World} {H : List HE} {i n c e k g : Nat} {l : List α} {x : α} (hh : Hp w0 H w) (hi : H[i]? = some (.row (some ⟨g, 0, none⟩) n c e sz (recs f l))) (hf : ∀ x, (f x).length = sz) (h0 : 0 < sz) (hx : l[k]? = some x) : Rd w ⟨g, k * sz, none⟩ (f x) := by
  have hs := hh.sl_row hi
  have hl := hs.recLen hf h0
  obtain ⟨ad, h1, h2⟩ := hs.2 (by have := (List.getElem?_eq_some_iff.1 hx).1; omega)
  injection h1 with h1
  subst h1
  have h3 := h2.recAt hf hx
  rwa [addr_add, Nat.zero_add] at h3
end Go.Proofs.YthmmofllajkejaaGreatDoor

/- Rules for values of array type. -/
namespace Go.Proofs.YthmmofllajkejaaGreatDoor
open Go.RowKit
section
variable {P : Program} {ρ : Rf} {w : World}
theorem x_index_arr {d : Option Nat} {ty : Nat} {pos : String} {af : Array Edge} {g : Option (Nat × Bool)} {t e : TypeId} {len n by' i : Nat} {ki : IntKind} {x ix : Operand} {cs vs : Array Value} {zc : List Value} (ht : P.underlying t = some (.array len e)) (hte : tinfo P e = some (n, true, by', zc))
    (hx : ev ρ x = .agg cs) (hi : ev ρ ix = .int ki (i : Int)) (hlt : i < len) (hv : cs.extract (i * n) (i * n + n) = vs) :
    (execOp (ev ρ) ⟨d, .index t x ix, ty, pos, af, g⟩).run P w = .ok (.value (.agg vs)) w := by
  simp [execOp, hx, hi, Instr.index, asIntOf, run_underlying ht, part, run_isAgg' hte, run_sizeOf' hte, hv]
  exact fun h => absurd h (by omega)
theorem s_index_arr {N d : Nat} {ops : Array Oper} {Q : Kq} {rest : List Oper} {ty : Nat} {pos : String} {af : Array Edge} {t e : TypeId} {len n by' i : Nat} {ki : IntKind} {x ix : Operand} {cs vs : Array Value} {zc : List Value} (ht : P.underlying t = some (.array len e)) (hte : tinfo P e = some (n, true, by', zc))
    (hx : ev ρ x = .agg cs) (hi : ev ρ ix = .int ki (i : Int)) (hlt : i < len) (hv : cs.extract (i * n) (i * n + n) = vs) (hN : d < N) (kk : WL P N ops Q rest (upd ρ d (.agg vs)) w) : WL P N ops Q (⟨some d, .index t x ix, ty, pos, af, none⟩ :: rest) ρ w :=
  wl_val rfl rfl hN (x_index_arr ht hte hx hi hlt hv) kk
theorem or_small : ∀ a b : Fin 4, IntKind.i64.wrap (BitVec.ofInt IntKind.i64.bits (a.val : Int) ||| BitVec.ofInt IntKind.i64.bits (b.val : Int)).toNat = ((a.val ||| b.val : Nat) : Int) := by decide +kernel
theorem s_or4 {N d : Nat} {ops : Array Oper} {Q : Kq} {rest : List Oper} {t u ty : Nat} {pos : String} {af : Array Edge} {x y : Operand} {a b : Nat} (hx : ev ρ x = .int .i64 (a : Int)) (hy : ev ρ y = .int .i64 (b : Int)) (ha : a < 4) (hb : b < 4) (hN : d < N)
    (kk : WL P N ops Q rest (upd ρ d (.int .i64 ((a ||| b : Nat) : Int))) w) : WL P N ops Q (⟨some d, .binOp .or t x y u, ty, pos, af, none⟩ :: rest) ρ w := by
  have h := or_small ⟨a, ha⟩ ⟨b, hb⟩
  refine wl_val rfl rfl hN (x_or hx hy) ?_
  simp only at h
  rw [h]
  exact kk
end
end Go.Proofs.YthmmofllajkejaaGreatDoor

/- Rules for pointers and for values of array type: looks for nil, comparisons with nil, arrays that are built. Plain lemmas, no program in sight. -/
namespace Go.Proofs.YthmmofllajkejaaGreatDoor
open Go.RowKit
section
variable {P : Program} {ρ : Rf} {w : World}
theorem x_nilCheck {d : Option Nat} {ty : Nat} {pos : String} {af : Array Edge} {g : Option (Nat × Bool)} {x : Operand} {a : Addr} (hx : ev ρ x = .pointer (some a)) :
    (execOp (ev ρ) ⟨d, .nilCheck x, ty, pos, af, g⟩).run P w = .ok (.value (.pointer (some a))) w := by simp [execOp, hx]
theorem equal_pf (n : Nat) {t e : TypeId} {a : Addr} (ht : P.underlying t = some (.pointer e)) : (Op.equalIn (n + 1) t (.pointer (some a)) (.pointer none)).run P w = .ok false w := by
  simp [Op.equalIn, run_underlying ht]
theorem equal_pt (n : Nat) {t e : TypeId} (ht : P.underlying t = some (.pointer e)) : (Op.equalIn (n + 1) t (.pointer none) (.pointer none)).run P w = .ok true w := by
  simp [Op.equalIn, run_underlying ht]
theorem equalp_f {t e : TypeId} {a : Addr} (ht : P.underlying t = some (.pointer e)) : (Op.equal t (.pointer (some a)) (.pointer none)).run P w = .ok false w := equal_pf 9999 ht
theorem equalp_t {t e : TypeId} (ht : P.underlying t = some (.pointer e)) : (Op.equal t (.pointer none) (.pointer none)).run P w = .ok true w := equal_pt 9999 ht
theorem binOp_eqp_f {t e : TypeId} {a : Addr} (ht : P.underlying t = some (.pointer e)) : (binOp .eql t (.pointer (some a)) (.pointer none)).run P w = .ok (.bool false) w := by
  simp only [binOp]
  simp [equalp_f ht]
theorem binOp_eqp_t {t e : TypeId} (ht : P.underlying t = some (.pointer e)) : (binOp .eql t (.pointer none) (.pointer none)).run P w = .ok (.bool true) w := by
  simp only [binOp]
  simp [equalp_t ht]
theorem binOp_nep_t {t e : TypeId} {a : Addr} (ht : P.underlying t = some (.pointer e)) : (binOp .neq t (.pointer (some a)) (.pointer none)).run P w = .ok (.bool true) w := by
  simp only [binOp]
  simp [equalp_f ht]
theorem x_eqp_f {d : Option Nat} {ty t u e : Nat} {pos : String} {af : Array Edge} {g : Option (Nat × Bool)} {x y : Operand} {a : Addr} (ht : P.underlying t = some (.pointer e)) (hx : ev ρ x = .pointer (some a)) (hy : ev ρ y = .pointer none) :
    (execOp (ev ρ) ⟨d, .binOp .eql t x y u, ty, pos, af, g⟩).run P w = .ok (.value (.bool false)) w := by
  simp only [execOp, hx, hy, eqGuard]
  simp [binOp_eqp_f ht]
theorem x_eqp_t {d : Option Nat} {ty t u e : Nat} {pos : String} {af : Array Edge} {g : Option (Nat × Bool)} {x y : Operand} (ht : P.underlying t = some (.pointer e)) (hx : ev ρ x = .pointer none) (hy : ev ρ y = .pointer none) :
    (execOp (ev ρ) ⟨d, .binOp .eql t x y u, ty, pos, af, g⟩).run P w = .ok (.value (.bool true)) w := by
  simp only [execOp, hx, hy, eqGuard]
  simp [binOp_eqp_t ht]
theorem x_nep_t {d : Option Nat} {ty t u e : Nat} {pos : String} {af : Array Edge} {g : Option (Nat × Bool)} {x y : Operand} {a : Addr} (ht : P.underlying t = some (.pointer e)) (hx : ev ρ x = .pointer (some a)) (hy : ev ρ y = .pointer none) :
    (execOp (ev ρ) ⟨d, .binOp .neq t x y u, ty, pos, af, g⟩).run P w = .ok (.value (.bool true)) w := by
  simp only [execOp, hx, hy, eqGuard]
  simp [binOp_nep_t ht]
theorem x_build_arr {d : Option Nat} {ty : Nat} {pos : String} {af : Array Edge} {g : Option (Nat × Bool)} {t e : TypeId} {len n by' m by2 : Nat} {ag : Bool} {parts : Array (Nat × Operand)} {ps : List (Nat × Value)} {zc ze cs : List Value}
    (ht : P.underlying t = some (.array len e)) (hte : tinfo P t = some (n, true, by', zc)) (he : tinfo P e = some (m, ag, by2, ze))
    (hp : evp ρ parts.toList = ps) (hf : fillL (fun i => some (i * m, m)) zc ps = some cs) :
    (execOp (ev ρ) ⟨d, .build t parts, ty, pos, af, g⟩).run P w = .ok (.value (.agg cs.toArray)) w := by
  obtain ⟨z, hz, hzc⟩ := run_zeroValue' (w := w) hte
  have hf' := fill_of _ _ _ hf
  have hp' := evp_arr parts hp
  simp only [execOp, hp', Instr.build, Sem.run_bind, hz, Result.andThen_ok, run_underlying ht, run_sizeOf' he, hzc, hf', Sem.run_pure]
theorem and3 (a : Int) : IntKind.i64.wrap (BitVec.ofInt IntKind.i64.bits a &&& BitVec.ofInt IntKind.i64.bits 3).toNat = a % 4 := by
  have h1 : (BitVec.ofInt IntKind.i64.bits a &&& BitVec.ofInt IntKind.i64.bits 3).toNat = (a % 4).toNat := by
    show (BitVec.ofInt 64 a &&& BitVec.ofInt 64 3).toNat = _
    rw [BitVec.toNat_and, show (BitVec.ofInt 64 3).toNat = 2 ^ 2 - 1 by decide, Nat.and_two_pow_sub_one_eq_mod, BitVec.toNat_ofInt]
    omega
  rw [h1, wrap_i64 (by omega) (by omega)]
  omega
theorem x_and3 {d : Option Nat} {ty t u : Nat} {pos : String} {af : Array Edge} {g : Option (Nat × Bool)} {x y : Operand} {a : Int} (hx : ev ρ x = .int .i64 a) (hy : ev ρ y = .int .i64 3) :
    (execOp (ev ρ) ⟨d, .binOp .and t x y u, ty, pos, af, g⟩).run P w = .ok (.value (.int .i64 (a % 4))) w := by
  rw [x_and hx hy, and3]
end
section
variable {P : Program} {N : Nat} {ops : Array Oper} {Q : Kq} {ρ : Rf} {w : World} {rest : List Oper} {d ty : Nat} {pos : String} {af : Array Edge}
theorem s_nilCheck {x : Operand} {a : Addr} (hx : ev ρ x = .pointer (some a)) (hN : d < N) (kk : WL P N ops Q rest (upd ρ d (.pointer (some a))) w) : WL P N ops Q (⟨some d, .nilCheck x, ty, pos, af, none⟩ :: rest) ρ w := wl_val rfl rfl hN (x_nilCheck hx) kk
theorem s_eqp_f {t u e : Nat} {x y : Operand} {a : Addr} (ht : P.underlying t = some (.pointer e)) (hx : ev ρ x = .pointer (some a)) (hy : ev ρ y = .pointer none) (hN : d < N) (kk : WL P N ops Q rest (upd ρ d (.bool false)) w) : WL P N ops Q (⟨some d, .binOp .eql t x y u, ty, pos, af, none⟩ :: rest) ρ w := wl_val rfl rfl hN (x_eqp_f ht hx hy) kk
theorem s_eqp_t {t u e : Nat} {x y : Operand} (ht : P.underlying t = some (.pointer e)) (hx : ev ρ x = .pointer none) (hy : ev ρ y = .pointer none) (hN : d < N) (kk : WL P N ops Q rest (upd ρ d (.bool true)) w) : WL P N ops Q (⟨some d, .binOp .eql t x y u, ty, pos, af, none⟩ :: rest) ρ w := wl_val rfl rfl hN (x_eqp_t ht hx hy) kk
theorem s_nep_t {t u e : Nat} {x y : Operand} {a : Addr} (ht : P.underlying t = some (.pointer e)) (hx : ev ρ x = .pointer (some a)) (hy : ev ρ y = .pointer none) (hN : d < N) (kk : WL P N ops Q rest (upd ρ d (.bool true)) w) : WL P N ops Q (⟨some d, .binOp .neq t x y u, ty, pos, af, none⟩ :: rest) ρ w := wl_val rfl rfl hN (x_nep_t ht hx hy) kk
theorem s_build_arr {t e : TypeId} {len n by' m by2 : Nat} {ag : Bool} {parts : Array (Nat × Operand)} {ps : List (Nat × Value)} {zc ze cs : List Value}
    (ht : P.underlying t = some (.array len e)) (hte : tinfo P t = some (n, true, by', zc)) (he : tinfo P e = some (m, ag, by2, ze))
    (hp : evp ρ parts.toList = ps) (hf : fillL (fun i => some (i * m, m)) zc ps = some cs) (hN : d < N) (kk : WL P N ops Q rest (upd ρ d (.agg cs.toArray)) w) : WL P N ops Q (⟨some d, .build t parts, ty, pos, af, none⟩ :: rest) ρ w := wl_val rfl rfl hN (x_build_arr ht hte he hp hf) kk
theorem s_and3 {t u : Nat} {x y : Operand} {a : Int} (hx : ev ρ x = .int .i64 a) (hy : ev ρ y = .int .i64 3) (hN : d < N) (kk : WL P N ops Q rest (upd ρ d (.int .i64 (a % 4))) w) : WL P N ops Q (⟨some d, .binOp .and t x y u, ty, pos, af, none⟩ :: rest) ρ w := wl_val rfl rfl hN (x_and3 hx hy) kk
/-- The element of an array of single cells. -/
theorem x_index_arr1 {dd : Option Nat} {g : Option (Nat × Bool)} {t e : TypeId} {len by' i : Nat} {ki : IntKind} {x ix : Operand} {cs : Array Value} {v : Value} {zc : List Value} (ht : P.underlying t = some (.array len e)) (hte : tinfo P e = some (1, false, by', zc))
    (hx : ev ρ x = .agg cs) (hi : ev ρ ix = .int ki (i : Int)) (hlt : i < len) (hv : cs[i]? = some v) :
    (execOp (ev ρ) ⟨dd, .index t x ix, ty, pos, af, g⟩).run P w = .ok (.value v) w := by
  simp [execOp, hx, hi, Instr.index, asIntOf, run_underlying ht, part, run_isAgg' hte, run_sizeOf' hte, hv]
  exact fun h => absurd h (by omega)
theorem s_index_arr1 {t e : TypeId} {len by' i : Nat} {ki : IntKind} {x ix : Operand} {cs : Array Value} {v : Value} {zc : List Value} (ht : P.underlying t = some (.array len e)) (hte : tinfo P e = some (1, false, by', zc))
    (hx : ev ρ x = .agg cs) (hi : ev ρ ix = .int ki (i : Int)) (hlt : i < len) (hv : cs[i]? = some v) (hN : d < N) (kk : WL P N ops Q rest (upd ρ d v) w) : WL P N ops Q (⟨some d, .index t x ix, ty, pos, af, none⟩ :: rest) ρ w := wl_val rfl rfl hN (x_index_arr1 ht hte hx hi hlt hv) kk
end
end Go.Proofs.YthmmofllajkejaaGreatDoor

/- A region whose order is left open, order by order: for short ones, where a store may come ahead of a read. -/
namespace Go.Proofs.YthmmofllajkejaaGreatDoor
open Go.RowKit
section
variable {P : Program} {N : Nat} {Q : Kq} {ρ : Rf} {w : World}
/-- What is left of a region, some of its operations being done. -/
structure WA (P : Program) (N : Nat) (ops : Array Oper) (Q : Kq) (fuel : Nat) (L : Array Bool) (ρ : Rf) (w : World) : Prop where
  out : ∀ a, Fits N a ρ → wpAny P .any ops (lift N Q) fuel L a w
theorem upon_thenK {o : Oper} {a : Act} {next : Rf → World → Prop} {K : Act → World → Prop} {r : Result Next} (h : o.upon P a K (lift N (thenK next Q)) r) : o.upon P a K (lift N Q) r := by
  have hp : ∀ c a w, lift N (thenK next Q) (.panic c) a w → lift N Q (.panic c) a w := fun _ _ _ h => h
  have ho : LetsOut (lift N (thenK next Q)) → LetsOut (lift N Q) := fun ⟨a, w, h⟩ => ⟨a, w, h⟩
  cases r with
  | ok n w' =>
    cases n <;> simp only [Oper.upon] at h ⊢ <;> first
      | exact h
      | exact Calls.mono h (fun e w'' he => by cases e <;> first | exact he | exact hp _ _ _ he | exact ho he)
  | halt x w' => cases x <;> simp only [Oper.upon] at h ⊢ <;> first | exact h | exact hp _ _ _ h | exact ho h
theorem wa_step {ops : Array Oper} {fuel : Nat} {L : Array Bool} {rs : List Nat} (hr : Region.ready .any ops L = rs) (hne : rs ≠ [])
    (h : ∀ i ∈ rs, ∃ o, ops[i]? = some o ∧ WL P N ops (thenK (fun ρ w => WA P N ops Q fuel (L.setIfInBounds i true) ρ w) Q) [o] ρ w) : WA P N ops Q (fuel + 1) L ρ w := by
  refine ⟨fun a hf => wpAny_all hr hne fun i hi => ?_⟩
  obtain ⟨o, ho, hw⟩ := h i hi
  have h1 := hw.out a hf
  have hK : ∀ a w, wpList P ops (lift N (thenK (fun ρ w => WA P N ops Q fuel (L.setIfInBounds i true) ρ w) Q)) [] a w → wpAny P .any ops (lift N Q) fuel (L.setIfInBounds i true) a w := fun a w ⟨ρ', hf', hq⟩ => by
    have hq' : WA P N ops Q fuel (L.setIfInBounds i true) ρ' w := hq
    exact hq'.out a hf'
  unfold wpOp
  rw [ho]
  simp only []
  unfold wpList at h1
  split at h1
  · rename_i hwt
    rw [if_pos hwt]
    refine h1.imp (fun h2 => Oper.wp_mono hK ?_) (fun h2 => ⟨h2.1, ?_⟩)
    · unfold Oper.wp at h2 ⊢
      exact upon_thenK h2
    · obtain ⟨a', w', h3⟩ := h2.2
      exact ⟨a', w', h3⟩
  · rename_i hwt
    rw [if_neg hwt]
    exact hK _ _ h1
theorem wa_one {ops : Array Oper} {fuel : Nat} {L : Array Bool} {i : Nat} {o : Oper} (hr : Region.ready .any ops L = [i]) (ho : ops[i]? = some o)
    (h : WL P N ops (thenK (fun ρ w => WA P N ops Q fuel (L.setIfInBounds i true) ρ w) Q) [o] ρ w) : WA P N ops Q (fuel + 1) L ρ w :=
  wa_step hr (by simp) fun j hj => by
    obtain rfl : j = i := by simpa using hj
    exact ⟨o, ho, h⟩
theorem wa_two {ops : Array Oper} {fuel : Nat} {L : Array Bool} {i i2 : Nat} {o o2 : Oper} (hr : Region.ready .any ops L = [i, i2]) (ho : ops[i]? = some o) (ho2 : ops[i2]? = some o2)
    (h : WL P N ops (thenK (fun ρ w => WA P N ops Q fuel (L.setIfInBounds i true) ρ w) Q) [o] ρ w)
    (h2 : WL P N ops (thenK (fun ρ w => WA P N ops Q fuel (L.setIfInBounds i2 true) ρ w) Q) [o2] ρ w) : WA P N ops Q (fuel + 1) L ρ w :=
  wa_step hr (by simp) fun j hj => by
    rcases List.mem_cons.1 hj with rfl | hj
    · exact ⟨o, ho, h⟩
    · obtain rfl : j = i2 := by simpa using hj
      exact ⟨o2, ho2, h2⟩
theorem wl_wa {ops : Array Oper} {fuel : Nat} {L : Array Bool} (h : WA P N ops Q fuel L ρ w) : WL P N ops (thenK (fun ρ w => WA P N ops Q fuel L ρ w) Q) [] ρ w :=
  ⟨fun _ hf => ⟨ρ, hf, h⟩⟩
theorem wa_tail {l : List Oper} {fuel : Nat} {L : Array Bool} (m : Nat) (hm : m ≤ l.length) (hL : L = upTo l.length m) (hf : l.length ≤ fuel + m)
    (hr : ((List.range (l.length - m)).all fun k => Region.ready .any l.toArray (upTo l.length (m + k)) == [m + k]) = true) (hend : Region.ready .any l.toArray (upTo l.length l.length) = [])
    (h : WL P N l.toArray Q (l.drop m) ρ w) : WA P N l.toArray Q fuel L ρ w :=
  ⟨fun a hfits => by
    rw [hL]
    refine tail_any m (fun k h1 h2 => ?_) hend fuel m a w (Nat.le_refl _) hm hf (h.out a hfits)
    have h3 := List.all_eq_true.1 hr (k - m) (by simp; omega)
    rw [show m + (k - m) = k by omega] at h3
    exact eq_of_beq h3⟩
theorem wc_tree {id : Nat} {l : List Oper} {w0 : World} {H : List HE} (hh : Hp w0 H w) (hm : P.follows .mixedOrders = true) (h : ∀ w', JJ w0 H w w' → WA P N l.toArray Q l.length (Array.replicate l.length false) ρ w') : WC P N (.region id l.toArray true) Q ρ w := by
  refine ⟨fun a hf => wp_region_any hm ?_⟩
  have hb : Below w.heap.size w ({ w with drawn := w.drawn + 1 } : World) := ⟨rfl, rfl, rfl, Nat.le_refl _, fun _ _ => rfl⟩
  have := (h _ ((JJ.start hh).ext hb)).out a hf
  simpa using this
end
end Go.Proofs.YthmmofllajkejaaGreatDoor

/- As Draw, where some operations of the first part may come up behind the rest's first one (a variable's loads, a store to another one): the cases are told one by one. -/
namespace Go.Proofs.YthmmofllajkejaaGreatDoor
open Go.RowKit
section
variable {P : Program} {N : Nat} {Q : Kq} {ρ : Rf} {w : World}
def subs : List Nat → List (List Nat)
  | [] => [[]]
  | x :: r => subs r ++ (subs r).map (x :: ·)
theorem filter_subs (p : Nat → Bool) : ∀ l : List Nat, l.filter p ∈ subs l
  | [] => by simp [subs]
  | x :: r => by
    have ih := filter_subs p r
    rw [List.filter_cons, subs]
    split
    · exact List.mem_append_right _ (List.mem_map.2 ⟨_, ih, rfl⟩)
    · exact List.mem_append_left _ ih
def lD (n m : Nat) (fl D : List Nat) : Array Bool := ((List.range n).map fun i => decide (i < m ∧ (i ∉ fl ∨ i ∈ D))).toArray
def closedD (l : List Oper) (fl D : List Nat) : Bool := D.all fun i => match l[i]? with
  | some o => o.after.all fun e => !Region.binds .any e || !fl.contains e.on || D.contains e.on
  | none => true
def dsD (ds : List (Nat × Nat)) (fl D : List Nat) : List (Nat × Nat) := ds.filter fun p => !fl.contains p.1 || D.contains p.1
def casesOf (l : List Oper) (m : Nat) (fl : List Nat) (ds : List (Nat × Nat)) : List (List Nat × Nat × List (Nat × Nat)) :=
  ((subs fl).filter (closedD l fl)).map fun D => (D, l.length - (lD l.length m fl D).toList.countP (fun b => b) - 1, dsD ds fl D)
/-- The closed facts on a region. -/
def drawOk5 (l : List Oper) (m N : Nat) (src : List (List (Nat × Option Nat))) (ds : List (Nat × Nat)) (fl M : List Nat) : Bool :=
  let ops := l.toArray
  let pre := (List.range m).map fun i => ((ops[i]?).bind (·.dst))
  (m ≤ l.length) && (src.length == m) &&
  (ds == (pre.zipIdx.filterMap fun (d, i) => d.map fun d => (i, d)).reverse) && (decide (ds.map (·.2)).Nodup) && (ds.all fun p => p.2 < N) &&
  ((List.range m).all fun i => match ops[i]?, src[i]? with
    | some o, some s => ((o.looksAt ops).all fun t => s.any fun p => p.1 == t) &&
        s.all fun p => match p.2 with
          | some j => (j < m) && ((ops[j]?).bind (·.dst) == some p.1) && (M.getD i 0).testBit j
          | none => (List.range m).all fun j => !((ops[j]?).bind (·.dst) == some p.1) || (j != i && (M.getD j 0).testBit i)
    | _, _ => false) &&
  (l.length == m || ((List.range m).all fun i => fl.contains i || (M.getD m 0).testBit i)) &&
  ((List.range (l.length - m)).all fun k => k == 0 || (M.getD (m + k) 0).testBit m) &&
  ((List.range l.length).all fun i => match ops[i]? with | some o => o.after.all fun e => !Region.binds .any e || e.on < i | none => false) && (ancs l [] == M)
theorem wc_draw5 {id : Nat} {l : List Oper} (fl M : List Nat) (m : Nat) (src : List (List (Nat × Option Nat))) (ds : List (Nat × Nat)) (Ds : List (List Nat × Nat × List (Nat × Nat))) (J : World → Prop) (V : Nat → Value → World → Prop) (hm : P.follows .mixedOrders = true) (hok : drawOk5 l m N src ds fl M = true) (hDs : casesOf l m fl ds = Ds) (hmn : m < l.length)
    (hJ : ∀ w w', J w → Below w.heap.size w w' → J w') (h0 : J w) (hops : DO P l.toArray J V ρ 0 (l.take m) src)
    (tail : ∀ p ∈ Ds, ∀ f w', J w' → AllV V f w' p.2.2 → WL P N l.toArray (thenK (fun ρ w => WA P N l.toArray Q p.2.1 ((lD l.length m fl p.1).setIfInBounds m true) ρ w) Q) ((l.drop m).take 1) (updL ρ f p.2.2) w') : WC P N (.region id l.toArray true) Q ρ w := by
  refine ⟨fun a hf => wp_region_any hm ?_⟩
  simp only [drawOk5, Bool.and_eq_true, decide_eq_true_eq, beq_iff_eq, List.all_eq_true, List.mem_range] at hok
  obtain ⟨⟨⟨⟨⟨⟨⟨⟨⟨hml, _⟩, hds⟩, hnd⟩, hdN⟩, hrd⟩, htail⟩, hdep⟩, hedge⟩, hM⟩ := hok
  have hdo := (do_at _ _ _ hops).2
  have hpre : ∀ i d, i < m → ((l.toArray[i]?).bind (·.dst)) = some d → (i, d) ∈ ds := fun i d hi hd => by
    rw [hds, List.mem_reverse, List.mem_filterMap]
    refine ⟨(some d, i), ?_, rfl⟩
    rw [List.mem_zipIdx_iff_getElem?]
    rw [List.getElem?_map, List.getElem?_range hi]
    simp only [Option.map_some, hd]
  have hdsm : ∀ i d, (i, d) ∈ ds → i < m ∧ ((l.toArray[i]?).bind (·.dst)) = some d := fun i d hp => by
    rw [hds, List.mem_reverse, List.mem_filterMap] at hp
    obtain ⟨⟨x, k⟩, hx, hxe⟩ := hp
    rw [List.mem_zipIdx_iff_getElem?] at hx
    cases x with
    | none => simp at hxe
    | some d' =>
      simp only [Option.map_some, Option.some.injEq, Prod.mk.injEq] at hxe
      obtain ⟨rfl, rfl⟩ := hxe
      rw [List.getElem?_map] at hx
      cases hr : (List.range m)[k]? with
      | none => rw [hr] at hx; simp at hx
      | some y =>
        have hkm : k < m := by
          have := (List.getElem?_eq_some_iff.1 hr).1
          simpa using this
        rw [List.getElem?_range hkm] at hx
        simp only [Option.map_some, Option.some.injEq] at hx
        exact ⟨hkm, hx⟩
  have hone : ∀ i j d, i < m → j < m → ((l.toArray[i]?).bind (·.dst)) = some d → ((l.toArray[j]?).bind (·.dst)) = some d → i = j := fun i j d hi hj h1 h2 => by
    have p1 := hpre i d hi h1
    have p2 := hpre j d hj h2
    have e1 := ((updL_at (ρ := ρ) (fun i => .int .i64 i) ds d hnd).1 i p1).symm.trans ((updL_at (ρ := ρ) (fun i => .int .i64 i) ds d hnd).1 j p2)
    injection e1 with _ e1
    omega
  have hnn : l.toArray.size = l.length := by simp
  have part : ∀ (L : Array Bool) (a : Act) (w : World) (fuel : Nat), DI2 [] N l.toArray m ρ J V L a w → (∀ i, i < m → i ∉ fl → L.getD i false = true) → fuel + 1 + L.toList.countP (fun b => b) = l.length → ∀ o, l.toArray[m]? = some o →
      wpOp P l.toArray (lift N Q) m (wpAny P .any l.toArray (lift N Q) fuel (L.setIfInBounds m true)) a w := by
    intro L a w fuel hI hall hfu o ho
    have hflt : ∀ i, i ∈ fl.filter (fun i => L.getD i false) ↔ i ∈ fl ∧ L.getD i false = true := fun i => by rw [List.mem_filter]
    have hL : L = lD l.length m fl (fl.filter fun i => L.getD i false) := by
      apply Array.ext (by simp [lD, hI.ls])
      intro i h1 h2
      have e1 : L.getD i false = L[i] := by simp [h1]
      rw [← e1]
      simp only [lD, List.getElem_toArray, List.getElem_map, List.getElem_range]
      rcases Nat.lt_or_ge i m with h | h
      · by_cases hif : i ∈ fl
        · cases hc : L.getD i false with
          | true => exact (decide_eq_true ⟨h, .inr ((hflt i).2 ⟨hif, hc⟩)⟩).symm
          | false => exact (decide_eq_false fun hh => hh.2.elim (fun hn => hn hif) fun hd => by rw [((hflt i).1 hd).2] at hc; cases hc).symm
        · rw [hall i h hif]
          exact (decide_eq_true ⟨h, .inl hif⟩).symm
      · rw [hI.tl i h]
        exact (decide_eq_false fun hh => by omega).symm
    have hcl : closedD l fl (fl.filter fun i => L.getD i false) = true := List.all_eq_true.2 fun i hi => by
      obtain ⟨h1, h2⟩ := (hflt i).1 hi
      cases hli : l[i]? with
      | none => rfl
      | some oi =>
        refine Array.all_eq_true'.2 fun e he => ?_
        cases hb : Region.binds .any e with
        | false => rfl
        | true =>
          have h3 := hI.cl i oi (by rw [List.getElem?_toArray]; exact hli) h2 e he hb
          by_cases hef : e.on ∈ fl
          · rw [Bool.or_eq_true]
            exact .inr (List.contains_iff_mem.2 ((hflt _).2 ⟨hef, h3⟩))
          · simp [hef]
    have hmem : (fl.filter (fun i => L.getD i false), l.length - (lD l.length m fl (fl.filter fun i => L.getD i false)).toList.countP (fun b => b) - 1, dsD ds fl (fl.filter fun i => L.getD i false)) ∈ Ds := by
      rw [← hDs]
      exact List.mem_map.2 ⟨_, List.mem_filter.2 ⟨filter_subs _ _, hcl⟩, rfl⟩
    have hfu' : l.length - L.toList.countP (fun b => b) - 1 = fuel := by omega
    have htl := tail _ hmem
    simp only [← hL, hfu'] at htl
    have hsub : ∀ p ∈ dsD ds fl (fl.filter fun i => L.getD i false), p ∈ ds ∧ L.getD p.1 false = true := fun p hp => by
      obtain ⟨h1, h2⟩ := List.mem_filter.1 hp
      refine ⟨h1, ?_⟩
      simp only [Bool.or_eq_true, Bool.not_eq_true', List.contains_eq_mem, decide_eq_false_iff_not, decide_eq_true_eq] at h2
      rcases h2 with h2 | h2
      · exact hall _ (hdsm _ _ h1).1 h2
      · exact ((hflt _).1 h2).2
    have hnd' : ((dsD ds fl (fl.filter fun i => L.getD i false)).map (·.2)).Nodup := (List.filter_sublist.map _).nodup hnd
    have hfits : Fits N a (updL ρ (fun i => match (l.toArray[i]?).bind (·.dst) with | some d => a.tmps.getD d undef | none => undef) (dsD ds fl (fl.filter fun i => L.getD i false))) := by
      refine ⟨hI.nd, hI.sz, fun s => ?_⟩
      by_cases hs : ∃ i, (i, s) ∈ dsD ds fl (fl.filter fun i => L.getD i false)
      · obtain ⟨i, hi⟩ := hs
        rw [(updL_at _ _ s hnd').1 i hi, (hdsm i s (hsub _ hi).1).2]
      · rw [(updL_at _ _ s hnd').2 fun i hi => hs ⟨i, hi⟩]
        refine hI.old s fun i hi hil hd => hs ⟨i, List.mem_filter.2 ⟨hpre i s hi hd, ?_⟩⟩
        by_cases hif : i ∈ fl
        · rw [Bool.or_eq_true]
          exact .inr (List.contains_iff_mem.2 ((hflt i).2 ⟨hif, hil⟩))
        · simp [hif]
    have h1 := (htl (fun i => match (l.toArray[i]?).bind (·.dst) with | some d => a.tmps.getD d undef | none => undef) w hI.j (allV_of _ fun p hp => by
      obtain ⟨h1, h2⟩ := hsub p hp
      obtain ⟨h3, h4⟩ := hdsm p.1 p.2 h1
      have := hI.vs p.1 p.2 h3 h2 h4
      rw [h4]
      exact this)).out a hfits
    have hone' : (l.drop m).take 1 = [o] := by
      rw [List.getElem?_toArray] at ho
      obtain ⟨h2, h3⟩ := List.getElem?_eq_some_iff.1 ho
      rw [List.drop_eq_getElem_cons h2, h3]
      rfl
    rw [hone'] at h1
    have hK : ∀ a w, wpList P l.toArray (lift N (thenK (fun ρ w => WA P N l.toArray Q fuel (L.setIfInBounds m true) ρ w) Q)) [] a w → wpAny P .any l.toArray (lift N Q) fuel (L.setIfInBounds m true) a w := fun a w ⟨ρ', hf', hq⟩ => by
      have hq' : WA P N l.toArray Q fuel (L.setIfInBounds m true) ρ' w := hq
      exact hq'.out a hf'
    unfold wpOp
    rw [ho]
    simp only []
    unfold wpList at h1
    split at h1
    · rename_i hwt
      rw [if_pos hwt]
      refine h1.imp (fun h2 => Oper.wp_mono hK ?_) (fun h2 => ⟨h2.1, ?_⟩)
      · unfold Oper.wp at h2 ⊢
        exact upon_thenK h2
      · obtain ⟨a', w', h3⟩ := h2.2
        exact ⟨a', w', h3⟩
    · rename_i hwt
      rw [if_neg hwt]
      exact hK _ _ h1
  have key : ∀ (fuel : Nat) (L : Array Bool) (a : Act) (w : World), DI2 [] N l.toArray m ρ J V L a w → fuel + L.toList.countP (fun b => b) = l.length → wpAny P .any l.toArray (lift N Q) fuel L a w := by
    intro fuel
    induction fuel with
    | zero =>
      intro L a w hI hc
      have hall : ∀ i, i < l.length → L.getD i false = true := fun i hi => by
        have h1 : L.toList.countP (fun b => b) = L.toList.length := by
          have := hI.ls; simp only [Array.length_toList]; omega
        have h2 := List.countP_eq_length.1 h1
        have h3 : i < L.size := by rw [hI.ls, hnn]; exact hi
        have := h2 L[i] (by simp)
        simpa [h3] using this
      have h1 := hall m hmn
      rw [hI.tl m (Nat.le_refl _)] at h1
      cases h1
    | succ fuel ih =>
      intro L a w hI hc
      · have hready_spec : ∀ i, i ∈ Region.ready .any l.toArray L ↔ i < l.length ∧ L.getD i true = false ∧ ∃ o, l.toArray[i]? = some o ∧ ∀ e ∈ o.after, Region.binds .any e = true → L.getD e.on false = true := fun i => by
          unfold Region.ready
          rw [List.mem_filter, List.mem_range, hnn]
          constructor
          · rintro ⟨h1, h2⟩
            have ho : l.toArray[i]? = some l[i] := by simp [h1]
            rw [ho] at h2
            simp only [Option.map_some, Option.getD_some, Bool.and_eq_true, Bool.not_eq_true'] at h2
            refine ⟨h1, h2.1, l[i], ho, fun e he hb => ?_⟩
            have := Array.all_eq_true'.1 h2.2 e he
            simpa [hb] using this
          · rintro ⟨h1, h2, o, ho, h3⟩
            refine ⟨h1, ?_⟩
            rw [ho]
            simp only [Option.map_some, Option.getD_some, Bool.and_eq_true, Bool.not_eq_true']
            refine ⟨h2, Array.all_eq_true'.2 fun e he => ?_⟩
            cases hb : Region.binds .any e with
            | false => simp
            | true => simpa [hb] using h3 e he hb
        have both : ∀ (i : Nat) (_ : i < m) (o : Oper) (_ : l.toArray[i]? = some o) (_ : L.getD i false = false) (_ : ∀ e ∈ o.after, Region.binds .any e = true → L.getD e.on false = true),
            OG P l.toArray o (fun t => a.tmps.getD t undef) w (fun v w2 => Below w.heap.size w w2 ∧ V i v w2) ∧
            ∀ v w2, (Below w.heap.size w w2 ∧ V i v w2) → (i ∈ ([] : List Nat) → ∃ b, v = .pointer (some ⟨b, 0, none⟩) ∧ w.heap.size ≤ b ∧ b < w2.heap.size) → wpAny P .any l.toArray (lift N Q) fuel (L.setIfInBounds i true) (a.put o.dst v) w2 := fun i him o ho hun' hed => by
          have hiL : i < L.size := by rw [hI.ls, hnn]; omega
          have hed' : ∀ o', l.toArray[i]? = some o' → ∀ e ∈ o'.after, Region.binds .any e = true → L.getD e.on false = true := fun o' ho' => by
            rw [ho] at ho'; injection ho' with ho'; subst ho'; exact hed
          have hok' : (l.take m)[i]? = some o := by
            rw [List.getElem?_take, if_pos him]
            simpa using ho
          obtain ⟨s, hs, hstab, hog⟩ := hdo i o hok'
          rw [Nat.zero_add] at hstab hog
          have hrdi := hrd i him
          rw [ho, hs] at hrdi
          simp only [Bool.and_eq_true, List.all_eq_true] at hrdi
          have hro : RdOk V ρ (fun t => a.tmps.getD t undef) w s := rdOk_of s fun p hp => by
            have hp2 := hrdi.2 p hp
            cases hp3 : p.2 with
            | some j =>
              rw [hp3] at hp2
              simp only [Bool.and_eq_true, decide_eq_true_eq, beq_iff_eq] at hp2
              exact hI.vs j p.1 hp2.1.1 (anc_spec hM hI.cl i j hed' hp2.2) hp2.1.2
            | none =>
              rw [hp3] at hp2
              refine hI.old p.1 fun j hj hjl hjd => ?_
              have h6 := List.all_eq_true.1 hp2 j (by simpa using hj)
              rw [hjd] at h6
              simp only [beq_self_eq_true, Bool.not_true, Bool.false_or, Bool.and_eq_true] at h6
              have := anc_spec hM hI.cl j i (fun o' ho' e he hb => hI.cl j o' ho' hjl e he hb) h6.2
              rw [hun'] at this
              cases this
          have hnext : ∀ v w2, (Below w.heap.size w w2 ∧ V i v w2) → (i ∈ ([] : List Nat) → ∃ b, v = .pointer (some ⟨b, 0, none⟩) ∧ w.heap.size ≤ b ∧ b < w2.heap.size) → wpAny P .any l.toArray (lift N Q) fuel (L.setIfInBounds i true) (a.put o.dst v) w2 := fun v w2 hv hfv => by
            have hd1 : ∀ d', o.dst = some d' → d' < a.tmps.size := fun d' hd' => by
              rw [hI.sz]
              exact hdN (i, d') (hpre i d' him (by rw [ho]; exact hd'))
            have hput : ∀ j d, j < m → j ≠ i → (l.toArray[j]?).bind (·.dst) = some d → (a.put o.dst v).tmps.getD d undef = a.tmps.getD d undef := fun j d hj hji hjd => by
              cases hod : o.dst with
              | none => rfl
              | some d' => rw [getD_put (hd1 d' hod), if_neg fun e => hji (hone j i d hj him hjd (by rw [ho, e]; exact hod))]
            have hputi : ∀ d, (l.toArray[i]?).bind (·.dst) = some d → (a.put o.dst v).tmps.getD d undef = v := fun d hd => by
              rw [ho] at hd
              simp only [Option.bind_some] at hd
              rw [hd, getD_put (hd1 d hd), if_pos rfl]
            refine ih _ _ _ ?_ ?_
            · refine ⟨?_, ?_, hJ _ _ hI.j hv.1, by simpa using hI.ls, ?_, ?_, ?_, ?_, ?_, ?_⟩
              · cases o.dst <;> exact hI.nd
              · cases hod : o.dst with
                | none => exact hI.sz
                | some d => simpa [Act.put] using hI.sz
              · intro k ok hk hkl e he hb
                rw [getD_set hiL] at hkl ⊢
                by_cases hki : k = i
                · subst hki
                  simp [hed' ok hk e he hb]
                · simp only [hki, decide_false, Bool.false_or] at hkl
                  simp [hI.cl k ok hk hkl e he hb]
              · intro k hk
                rw [getD_set hiL, hI.tl k hk]
                have : ¬ k = i := by omega
                simp [this]
              · intro j d hj hjl hjd
                rw [getD_set hiL] at hjl
                have hd1 : ∀ d', o.dst = some d' → d' < a.tmps.size := fun d' hd' => by
                  rw [hI.sz]
                  exact hdN (i, d') (hpre i d' him (by rw [ho]; exact hd'))
                by_cases hji : j = i
                · subst hji
                  rw [ho] at hjd
                  simp only [Option.bind_some] at hjd
                  rw [hjd, getD_put (hd1 d hjd), if_pos rfl]
                  exact hv.2
                · simp only [hji, decide_false, Bool.false_or] at hjl
                  have hold := hI.vs j d hj hjl hjd
                  have hdj : (j, d) ∈ ds := hpre j d hj hjd
                  have hst := (hdo j (l.toArray[j]?.getD default) (by
                    have : j < l.length := by omega
                    rw [List.getElem?_take, if_pos hj]
                    simp [this])).choose_spec.2.1
                  rw [Nat.zero_add] at hst
                  have hne : ∀ d', o.dst = some d' → d ≠ d' := fun d' hd' e => by
                    subst e
                    exact hji (hone j i d hj him hjd (by rw [ho]; exact hd'))
                  cases hod : o.dst with
                  | none => exact hst _ _ _ hold hv.1
                  | some d' =>
                    rw [getD_put (hd1 d' hod), if_neg (hne d' hod)]
                    exact hst _ _ _ hold hv.1
              · intro s' hs'
                have hni : ((l.toArray[i]?).bind (·.dst)) ≠ some s' := hs' i him (by rw [getD_set hiL]; simp)
                have hold := hI.old s' fun j hj hjl => hs' j hj (by rw [getD_set hiL]; simp [hjl])
                rw [ho] at hni
                simp only [Option.bind_some] at hni
                cases hod : o.dst with
                | none => exact hold
                | some d' =>
                  rw [getD_put (by rw [hI.sz]; exact hdN (i, d') (hpre i d' him (by rw [ho]; exact hod))), if_neg (fun e => hni (by rw [hod, e]))]
                  exact hold
              · intro j hj
                cases hj
              · intro j hj
                cases hj
            · have hLi : L.toList[i]? = some false := by
                have h3 : i < L.toList.length := by simpa using hiL
                rw [List.getElem?_eq_getElem h3]
                have : L.getD i false = L.toList[i] := by simp [hiL]
                rw [← this, hun']
              rw [Array.toList_setIfInBounds, List.countP_set (by simpa using hiL)]
              have h4 : L.toList[i]'(by simpa using hiL) = false := (List.getElem?_eq_some_iff.1 hLi).2
              rw [h4]
              simp only [Bool.false_eq_true, if_false, if_true]
              omega
          exact ⟨hog _ w hI.j hro, hnext⟩
        refine ⟨fun hnil => ?_, fun i hi => ?_⟩
        · exfalso
          -- the least one that is not listed may come up
          have hmin : ∀ k, (∃ i, i < k ∧ i < m + 1 ∧ L.getD i false = false) → ∃ i, i < m + 1 ∧ L.getD i false = false ∧ ∀ j, j < i → L.getD j false = true := by
            intro k
            induction k with
            | zero => rintro ⟨i, h, _⟩; omega
            | succ k ihk =>
              rintro ⟨i, h1, h2, h3⟩
              by_cases hex : ∃ i, i < k ∧ i < m + 1 ∧ L.getD i false = false
              · exact ihk hex
              · have hik : i = k := by
                  rcases Nat.lt_or_ge i k with h | h
                  · exact absurd ⟨i, h, h2, h3⟩ hex
                  · omega
                subst hik
                refine ⟨i, h2, h3, fun j hj => ?_⟩
                cases hc2 : L.getD j false with
                | true => rfl
                | false => exact absurd ⟨j, hj, by omega, hc2⟩ hex
          obtain ⟨i, hi, hu, hlow⟩ := hmin (m + 1) ⟨m, by omega, by omega, hI.tl m (Nat.le_refl _)⟩
          have hil : i < l.length := by omega
          have hE := hedge i hil
          have ho : l.toArray[i]? = some l[i] := by simp [hil]
          rw [ho] at hE
          have hmem : i ∈ Region.ready .any l.toArray L := (hready_spec i).2 ⟨hil, by
            have h3 : i < L.size := by rw [hI.ls, hnn]; exact hil
            rw [Array.getD_eq_getD_getElem?] at hu ⊢
            rw [Array.getElem?_eq_getElem h3] at hu ⊢
            simpa using hu, l[i], ho, fun e he hb => by
            have := Array.all_eq_true'.1 hE e he
            simp only [hb, Bool.not_true, Bool.false_or, decide_eq_true_eq] at this
            exact hlow _ this⟩
          rw [hnil] at hmem
          cases hmem
        · obtain ⟨hil, hun, o, ho, hed⟩ := (hready_spec i).1 hi
          have hiL : i < L.size := by rw [hI.ls, hnn]; exact hil
          have hun' : L.getD i false = false := by
            rw [Array.getD_eq_getD_getElem?] at hun ⊢
            rw [Array.getElem?_eq_getElem hiL] at hun ⊢
            simpa using hun
          have hed' : ∀ o', l.toArray[i]? = some o' → ∀ e ∈ o'.after, Region.binds .any e = true → L.getD e.on false = true := fun o' ho' => by
            rw [ho] at ho'; injection ho' with ho'; subst ho'; exact hed
          rcases Nat.lt_or_ge i m with him | him
          · obtain ⟨hog, hnext⟩ := both i him o ho hun' hed
            have hgo := hog.out a (wpAny P .any l.toArray (lift N Q) fuel (L.setIfInBounds i true)) (lift N Q) (fun _ => rfl) fun v w2 hv => hnext v w2 hv fun h => nomatch h
            unfold wpOp
            rw [ho]
            exact hgo
          · rcases Nat.lt_or_ge m i with h2 | h2
            · exfalso
              have h3 := hdep (i - m) (by omega)
              rw [show m + (i - m) = i by omega] at h3
              have h4 : (i - m == 0) = false := by simp; omega
              rw [h4, Bool.false_or] at h3
              have := anc_spec hM hI.cl i m hed' h3
              rw [hI.tl m (Nat.le_refl _)] at this
              cases this
            · obtain rfl : i = m := by omega
              refine part L a w fuel hI (fun j hj hjf => ?_) hc o ho
              have h4 : (l.length == i) = false := by simp; omega
              rw [h4, Bool.false_or] at htail
              have h6 := List.all_eq_true.1 htail j (by simpa using hj)
              have h7 : fl.contains j = false := by simpa using hjf
              rw [h7, Bool.false_or] at h6
              exact anc_spec hM hI.cl i j hed' h6
  have hJ0 : J ({ w with drawn := w.drawn + 1 } : World) := hJ w _ h0 ⟨rfl, rfl, rfl, Nat.le_refl _, fun _ _ => rfl⟩
  have hr0 : ∀ i, (Array.replicate l.toArray.size false).getD i false = false := fun i => by
    rw [Array.getD_eq_getD_getElem?, Array.getElem?_replicate]; split <;> rfl
  refine key _ _ _ _ ⟨hf.nd, hf.sz, hJ0, by simp, fun k o _ hk => ?_, fun k _ => hr0 k, fun i d _ hi => ?_, fun s _ => hf.at_ s, fun i _ hi => ?_, fun i _ j _ _ hi => ?_⟩ ?_
  · rw [hr0] at hk; cases hk
  · rw [hr0] at hi; cases hi
  · rw [hr0] at hi; cases hi
  · rw [hr0] at hi; cases hi
  · simp [List.countP_replicate]
end
theorem wc_drawn5 {P : Program} {N : Nat} {ρ : Rf} {w : World} {Q : Kq} {id : Nat} {l : List Oper} (fl M : List Nat) (m : Nat) (src : List (List (Nat × Option Nat))) (ds : List (Nat × Nat)) (Ds : List (List Nat × Nat × List (Nat × Nat))) {w0 : World} {H : List HE} (hh : Hp w0 H w) (hm : P.follows .mixedOrders = true) (hok : drawOk5 l m N src ds fl M = true) (hDs : casesOf l m fl ds = Ds) (hmn : m < l.length)
    (h : DX P l.toArray (JJ w0 H w) ρ (fun V => ∀ p ∈ Ds, ∀ f w', JJ w0 H w w' → AllV V f w' p.2.2 → WL P N l.toArray (thenK (fun ρ w => WA P N l.toArray Q p.2.1 ((lD l.length m fl p.1).setIfInBounds m true) ρ w) Q) ((l.drop m).take 1) (updL ρ f p.2.2) w') 0 noV (l.take m) src) : WC P N (.region id l.toArray true) Q ρ w := by
  obtain ⟨V, _, h1, h2⟩ := dx_do _ _ _ _ (fun _ _ _ _ => trivial) h
  exact wc_draw5 fl M m src ds Ds (JJ w0 H w) V hm hok hDs hmn (fun _ _ h hb => h.ext hb) (JJ.start hh) h1 h2
end Go.Proofs.YthmmofllajkejaaGreatDoor

/- Drawn regions, more: rows that the region makes itself and appends to; cuts. Plain lemmas, no program in sight. -/
namespace Go.Proofs.YthmmofllajkejaaGreatDoor
open Go.RowKit
theorem x_cutAny {P : Program} {ρ : Rf} {w : World} {d : Option Nat} {ty : TypeId} {pos : String} {af : Array Edge} {g : Option (Nat × Bool)} {t e : TypeId} {x lo : Operand} {A : Option Addr} {n c l sz : Nat} {k : IntKind} {m : Int} (ht : P.underlying t = some (.slice e)) (hsz : (P.info? e).map (·.size) = some sz) (hx : ev ρ x = .slice A n c) (hlo : ev ρ lo = .int k m)
    (hm : m = (l : Int)) (h1 : l ≤ n) (h2 : n ≤ c) : (execOp (ev ρ) ⟨d, .slice t x (some lo) none none, ty, pos, af, g⟩).run P w = .ok (.value (.slice (if c = l then A else A.map (·.add (l * sz))) (n - l) (c - l))) w :=
  x_slice_sl (lo := some lo) (hi := none) (l := l) (h := n) ht hsz hx ⟨k, m, hlo, hm⟩ rfl h1 h2
theorem Sl.front {w : World} {A : Option Addr} {n k m : Nat} {xs : List Value} (h : Sl w A n k xs) (hm : m ≤ n) : Sl w A m k (xs.take (m * k)) := by
  have hle : m * k ≤ n * k := Nat.mul_le_mul_right _ hm
  refine ⟨by rw [List.length_take, h.1]; omega, fun h0 => ?_⟩
  obtain ⟨ad, h1, h2⟩ := h.2 (by omega)
  exact ⟨ad, h1, h2.take _⟩
theorem Sl.back {w : World} {A : Option Addr} {n k l c : Nat} {xs : List Value} (h : Sl w A n k xs) (hl : l ≤ n) (hc : n ≤ c) : Sl w (if c = l then A else A.map (·.add (l * k))) (n - l) k (xs.drop (l * k)) := by
  have h1 := h.cut hl (Nat.le_refl n) hc
  have h2 : ((xs.drop (l * k)).take ((n - l) * k)) = xs.drop (l * k) := List.take_of_length_le (by rw [List.length_drop, h.1, Nat.sub_mul]; exact Nat.le_refl _)
  rwa [h2] at h1
/-- A new empty row without room. -/
def Own0 (base : Nat) (t : TypeId) (sz : Nat) : VP := fun v W => ∃ g, v = .slice (some ⟨g, 0, none⟩) 0 0 ∧ W.ownsRow base t sz (.slice (some ⟨g, 0, none⟩) 0 0) 0 []
/-- A new row that is one's own. -/
def OwnV (base : Nat) (t : TypeId) (n sz : Nat) (cs : List Value) : VP := fun v W => ∃ A c, v = .slice A n c ∧ W.ownsRow base t sz (.slice A n c) n cs
theorem owns_below {w w' : World} {base : Nat} {t : TypeId} {sz n c : Nat} {A : Option Addr} {xs : List Value} (h : w.ownsRow base t sz (.slice A n c) n xs) (hb : Below w.heap.size w w') : w'.ownsRow base t sz (.slice A n c) n xs := by
  refine ⟨h.1, h.2.imp id ?_⟩
  rintro ⟨g, cap, cur, h1, h2, h3, h4⟩
  have hlt : g < w.heap.size := by
    rcases Nat.lt_or_ge g w.heap.size with h | h
    · exact h
    · rw [Array.getElem?_eq_none h] at h3; cases h3
  exact ⟨g, cap, cur, h1, h2, (hb.block g hlt).trans h3, h4⟩
theorem Own0.ext {base : Nat} {t : TypeId} {sz : Nat} (v : Value) (w w' : World) (h : Own0 base t sz v w) (hb : Below w.heap.size w w') : Own0 base t sz v w' := let ⟨g, h1, h2⟩ := h; ⟨g, h1, owns_below h2 hb⟩
theorem OwnV.ext {base : Nat} {t : TypeId} {n sz : Nat} {cs : List Value} (v : Value) (w w' : World) (h : OwnV base t n sz cs v w) (hb : Below w.heap.size w w') : OwnV base t n sz cs v w' := let ⟨A, c, h1, h2⟩ := h; ⟨A, c, h1, owns_below h2 hb⟩
/-- Behind the region the row is one's own. -/
theorem JJ.newOwn {w0 : World} {H : List HE} {w W : World} {t : TypeId} {n c sz : Nat} {A : Option Addr} {cs : List Value} (hs : Hp w0 H w) (h : Hp w0 H W) (ho : W.ownsRow w.heap.size t sz (.slice A n c) n cs) : Hp w0 (.row A n c t sz cs :: H) W := by
  refine ⟨h.below, fun x hx => ?_, ?_⟩
  · rcases List.mem_cons.1 hx with rfl | hx
    · refine ⟨ho.1, ho.2.imp id ?_⟩
      rintro ⟨g, cap, cur, h1, h2, h3⟩
      exact ⟨g, cap, cur, h1, Nat.le_trans hs.size h2, h3⟩
    · exact h.own x hx
  · rw [List.filterMap_cons]
    rcases ho.2 with ⟨h1, _⟩ | ⟨g, cap, cur, h1, h2, _⟩
    · injection h1 with e1
      subst e1
      exact h.nd
    · injection h1 with e1
      subst e1
      show (g :: H.filterMap HE.id).Nodup
      refine List.nodup_cons.2 ⟨fun hm => ?_, h.nd⟩
      obtain ⟨y, hy, hyb⟩ := List.mem_filterMap.1 hm
      have := (holds_lt (hs.own y hy) hyb).2
      omega
section
variable {P : Program} {ops : Array Oper} {J : World → Prop} {ρ : Rf} {T : (Nat → VP) → Prop} {i : Nat} {pv : Nat → VP} {os : List Oper} {s : List (Nat × Option Nat)} {ss : List (List (Nat × Option Nat))} {d : Option Nat} {ty : TypeId} {pos : String} {af : Array Edge}
theorem dx_build0 {base : Nat} {t e : TypeId} {sz by' : Nat} {ag : Bool} {zc : List Value} (ht : P.underlying t = some (.slice e)) (hte : tinfo P e = some (sz, ag, by', zc)) (hJ : ∀ w1, J w1 → base ≤ w1.heap.size)
    (k : DX P ops J ρ T (i + 1) (updV pv i (Own0 base e sz)) os ss) : DX P ops J ρ T i pv (⟨d, .buildSlice t 0 #[], ty, pos, af, none⟩ :: os) (s :: ss) :=
  dx_gen (Own0 base e sz) Own0.ext (fun ρ1 w1 hj' h => by
    have hb : Below w1.heap.size w1 (w1.alloc (.cells #[] e)) := (Below.refl _ _).alloc (Nat.le_refl _) _
    refine og_val rfl (w' := w1.alloc (.cells #[] e)) (v := .slice (some ⟨w1.heap.size, 0, none⟩) 0 0) ?_ ⟨hb, w1.heap.size, rfl, by simp, .inr ⟨w1.heap.size, 0, #[], rfl, hJ w1 hj', heap_alloc_new w1 _, Nat.le_refl _, by unfold maxLen; omega, by simp, by simp⟩⟩
    have e0 : Array.range 0 = #[] := rfl
    simp [execOp, Instr.buildSlice, run_underlying ht, run_sizeOf' hte, Instr.fill, newRow, e0]) k
theorem run_append_e0 {w : World} {base g : Nat} {t ty e : TypeId} {sz by' : Nat} {ag : Bool} {zc : List Value} (ht : P.underlying t = some (.slice e)) (hte : tinfo P e = some (sz, ag, by', zc)) (hzl : zc.length = sz) (hsz : 0 < sz)
    (hown : w.ownsRow base e sz (.slice (some ⟨g, 0, none⟩) 0 0) 0 []) {B : Option Addr} {m c' : Nat} {news : List Value} (hsl : Sl w B m sz news) (h1 : ∀ u ∈ news, u.oneCell' = true)
    (h63 : m ≤ maxLen) (hbytes : m * by' ≤ 140737488355328) (hbase : base ≤ w.heap.size) :
    ∃ A' c2 w', (Builtin.append_ #[t, t] ty #[.slice (some ⟨g, 0, none⟩) 0 0, .slice B m c']).run P w = .ok (.slice A' m c2) w' ∧ w'.ownsRow base e sz (.slice A' m c2) m news ∧ Below w.heap.size w w' := by
  obtain ⟨i, z, dd, hi, hd, hz, hs, hby, hzc, _⟩ := tinfo_spec hte
  rcases Nat.eq_zero_or_pos m with h0 | h0
  · subst h0
    have hnews : news = [] := List.eq_nil_of_length_eq_zero (by simpa using hsl.1)
    subst hnews
    refine ⟨_, _, w, ?_, hown, Below.refl _ _⟩
    cases B with
    | none => exact run_append_nothing w t t ty e i ht hi _ 0 0 (Nat.le_refl _) _ (Src.ofNil w ht c')
    | some ad => exact run_append_nothing w t t ty e i ht hi _ 0 0 (Nat.le_refl _) _ (Src.ofSlice w ht ad 0 c' [] (by simp) (fun j u hu => by simp at hu) (fun u hu => by cases hu))
  · obtain ⟨ad, rfl, hr⟩ := hsl.2 h0
    have hsrc : Src P i.size t (.slice (some ad) m c') m news w := Src.ofSlice w ht ad m c' news (by rw [hs]; exact hsl.1) hr h1
    have hfit : Builtin.nextslicecap (0 + m) 0 * i.bytes ≤ 281474976710656 := growslice_fits (by omega) (by rw [hby, Nat.zero_add]; exact hbytes)
    have hb63 : ((0 + m : Nat) : Int) ≤ 9223372036854775807 := by unfold maxLen at h63; omega
    have hone : ∀ base2 : Option Addr, (Builtin.firstCells i.size 0 (.slice base2 0 0)).run P w.drew = .ok ([] : List Value).toArray w.drew := fun base2 => by
      cases base2 with
      | none => exact run_firstCells_none w.drew i.size 0 0 0
      | some a2 => exact run_firstCells_some w.drew i.size 0 a2 0 0 [] (by simp) (fun j u hu => by simp at hu)
    have hA := run_append_grow_src w t t ty e i z ht hi hz (some ⟨g, 0, none⟩) 0 0 [] (hone _) _ m news hsrc (by omega) hb63 hfit
    have hB := run_append_grow_src w t t ty e i z ht hi hz none 0 0 [] (hone _) _ m news hsrc (by omega) hb63 hfit
    obtain ⟨A', c2, w', r1, r2, r3, _⟩ := run_append_sl (P := P) (w := w) base t ty e sz by' ag zc ht hte hzl hsz none 0 0 [] (World.ownsRow_nil w base e sz) (some ad) m c' news ⟨hsl.1, fun _ => ⟨ad, rfl, hr⟩⟩ h1 (by omega) (by rw [Nat.zero_add]; exact hbytes) hbase
    rw [hB, ← hA] at r1
    rw [Nat.zero_add] at r1 r2
    rw [List.nil_append] at r2
    exact ⟨A', c2, w', r1, r2, r3.os, r3.tape, r3.output, r3.size, fun k hk => r3.block k hk (by simp)⟩
theorem dx_append0 {base : Nat} {t e : TypeId} {x y : Operand} {m sz by' : Nat} {ag : Bool} {zc news : List Value} (hx : ∀ ρ1 w1, J w1 → RdOk (pv) ρ ρ1 w1 s → Own0 base e sz (ev ρ1 x) w1) (hy : ∀ ρ1 w1, J w1 → RdOk (pv) ρ ρ1 w1 s → ∃ B c', ev ρ1 y = .slice B m c' ∧ Sl w1 B m sz news)
    (ht : P.underlying t = some (.slice e)) (hte : tinfo P e = some (sz, ag, by', zc)) (hzl : zc.length = sz) (hsz : 0 < sz) (h1 : news.all Value.oneCell' = true) (h63 : m ≤ maxLen) (hbytes : m * by' ≤ 140737488355328) (hJ : ∀ w1, J w1 → base ≤ w1.heap.size)
    (k : DX P ops J ρ T (i + 1) (updV pv i (OwnV base e m sz news)) os ss) : DX P ops J ρ T i pv (⟨d, .call ⟨.builtin .append, #[x, y], #[t, t]⟩, ty, pos, af, none⟩ :: os) (s :: ss) :=
  dx_gen (OwnV base e m sz news) OwnV.ext (fun ρ1 w1 hj' h => by
    obtain ⟨g, e1, ho⟩ := hx ρ1 w1 hj' h
    obtain ⟨B, c', e2, hsl⟩ := hy ρ1 w1 hj' h
    obtain ⟨A', c2, w', r1, r2, r3⟩ := run_append_e0 (P := P) (ty := ty) (c' := c') ht hte hzl hsz ho hsl (fun u hu => List.all_eq_true.1 h1 u hu) h63 hbytes (hJ w1 hj')
    refine og_val rfl (w' := w') (v := .slice A' m c2) ?_ ⟨r3, A', c2, rfl, r2⟩
    simp only [execOp, resolve, invoke, builtin, Sem.run_bind, Sem.run_pure, Result.andThen_ok, List.map_toArray, List.map_cons, List.map_nil, e1, e2, r1]) k
end
end Go.Proofs.YthmmofllajkejaaGreatDoor

/- Drawn regions in which one operation writes what one owns: the others neither read nor write it. Plain lemmas, no program in sight. -/
namespace Go.Proofs.YthmmofllajkejaaGreatDoor
open Go.RowKit
section
variable {P : Program} {N : Nat} {Q : Kq} {ρ : Rf} {w : World}
theorem OG.mono {ops : Array Oper} {o : Oper} {K K' : Value → World → Prop} (h : OG P ops o ρ w K) (hk : ∀ v w', K v w' → K' v w') : OG P ops o ρ w K' :=
  ⟨fun a next Q ha hn => h.out a next Q ha fun v w' hv => hn v w' (hk v w' hv)⟩
structure DI6 (N : Nat) (ops : Array Oper) (m μ : Nat) (ρ : Rf) (J : Bool → World → Prop) (V : Nat → Value → World → Prop) (L : Array Bool) (a : Act) (w : World) : Prop where
  nd : a.defers = []
  sz : a.tmps.size = N
  j : J (L.getD μ false) w
  ls : L.size = ops.size
  cl : Closed ops L
  tl : ∀ k, m ≤ k → L.getD k false = false
  vs : ∀ i d, i < m → L.getD i false = true → (ops[i]?).bind (·.dst) = some d → V i (a.tmps.getD d undef) w
  old : ∀ s, (∀ i, i < m → L.getD i false = true → (ops[i]?).bind (·.dst) ≠ some s) → a.tmps.getD s undef = ρ s
theorem wc_draw6 {id : Nat} {l : List Oper} (M : List Nat) (m μ : Nat) (src : List (List (Nat × Option Nat))) (ds : List (Nat × Nat)) (J : Bool → World → Prop) (V : Nat → Value → World → Prop) (hm : P.follows .mixedOrders = true) (hok : drawOk3 l m N src ds [] M = true) (hμ : μ < m)
    (h0 : J false ({ w with drawn := w.drawn + 1 } : World)) (hops : ∀ i o, i < m → l[i]? = some o → ∃ s, src[i]? = some s ∧ ∀ ρ1 w1 (f : Bool), J f w1 → (i = μ → f = false) → RdOk V ρ ρ1 w1 s → OG P l.toArray o ρ1 w1 fun v w2 => J (decide (μ = i) || f) w2 ∧ (∀ j u, j ≠ i → V j u w1 → V j u w2) ∧ V i v w2)
    (tail : ∀ f w', J true w' → AllV V f w' ds → WL P N l.toArray Q (l.drop m) (updL ρ f ds) w') : WC P N (.region id l.toArray true) Q ρ w := by
  refine ⟨fun a hf => wp_region_any hm ?_⟩
  simp only [drawOk3, Bool.and_eq_true, decide_eq_true_eq, beq_iff_eq, List.all_eq_true, List.mem_range] at hok
  obtain ⟨⟨⟨⟨⟨⟨⟨⟨⟨⟨⟨⟨⟨hml, _⟩, hds⟩, hnd⟩, hdN⟩, hrd⟩, htail⟩, hready⟩, hend⟩, hdep⟩, hedge⟩, hns⟩, _⟩, hM⟩ := hok
  have hpre : ∀ i d, i < m → ((l.toArray[i]?).bind (·.dst)) = some d → (i, d) ∈ ds := fun i d hi hd => by
    rw [hds, List.mem_reverse, List.mem_filterMap]
    refine ⟨(some d, i), ?_, rfl⟩
    rw [List.mem_zipIdx_iff_getElem?]
    rw [List.getElem?_map, List.getElem?_range hi]
    simp only [Option.map_some, hd]
  have hdsm : ∀ i d, (i, d) ∈ ds → i < m ∧ ((l.toArray[i]?).bind (·.dst)) = some d := fun i d hp => by
    rw [hds, List.mem_reverse, List.mem_filterMap] at hp
    obtain ⟨⟨x, k⟩, hx, hxe⟩ := hp
    rw [List.mem_zipIdx_iff_getElem?] at hx
    cases x with
    | none => simp at hxe
    | some d' =>
      simp only [Option.map_some, Option.some.injEq, Prod.mk.injEq] at hxe
      obtain ⟨rfl, rfl⟩ := hxe
      rw [List.getElem?_map] at hx
      cases hr : (List.range m)[k]? with
      | none => rw [hr] at hx; simp at hx
      | some y =>
        have hkm : k < m := by
          have := (List.getElem?_eq_some_iff.1 hr).1
          simpa using this
        rw [List.getElem?_range hkm] at hx
        simp only [Option.map_some, Option.some.injEq] at hx
        exact ⟨hkm, hx⟩
  have hone : ∀ i j d, i < m → j < m → ((l.toArray[i]?).bind (·.dst)) = some d → ((l.toArray[j]?).bind (·.dst)) = some d → i = j := fun i j d hi hj h1 h2 => by
    have p1 := hpre i d hi h1
    have p2 := hpre j d hj h2
    have e1 := ((updL_at (ρ := ρ) (fun i => .int .i64 i) ds d hnd).1 i p1).symm.trans ((updL_at (ρ := ρ) (fun i => .int .i64 i) ds d hnd).1 j p2)
    injection e1 with _ e1
    omega
  have hnn : l.toArray.size = l.length := by simp
  have full : ∀ (L : Array Bool) (a : Act) (w : World) (fuel : Nat), DI6 N l.toArray m μ ρ J V L a w → (∀ i, i < m → L.getD i false = true) → l.length ≤ fuel + m → wpAny P .any l.toArray (lift N Q) fuel L a w := by
    intro L a w fuel hI hall hfu
    have hL : L = upTo l.length m := eq_upTo (by rw [hI.ls, hnn]) hml hall hI.tl
    rw [hL]
    refine tail_any m (fun k h1 h2 => ?_) hend fuel m a w (Nat.le_refl _) hml hfu ?_
    · have := hready (k - m) (by omega)
      rwa [show m + (k - m) = k by omega] at this
    · have hfits : Fits N a (updL ρ (fun i => match (l.toArray[i]?).bind (·.dst) with | some d => a.tmps.getD d undef | none => undef) ds) := by
        refine ⟨hI.nd, hI.sz, fun s => ?_⟩
        by_cases hs : ∃ i, (i, s) ∈ ds
        · obtain ⟨i, hi⟩ := hs
          rw [(updL_at _ ds s hnd).1 i hi, (hdsm i s hi).2]
        · rw [(updL_at _ ds s hnd).2 fun i hi => hs ⟨i, hi⟩]
          exact hI.old s fun i hi _ hd => hs ⟨i, hpre i s hi hd⟩
      refine (tail _ w (by have := hI.j; rwa [hall μ hμ] at this) (allV_of ds fun p hp => ?_)).out a hfits
      obtain ⟨h1, h2⟩ := hdsm p.1 p.2 hp
      have := hI.vs p.1 p.2 h1 (hall _ h1) h2
      rw [h2]
      exact this
  have key : ∀ (fuel : Nat) (L : Array Bool) (a : Act) (w : World), DI6 N l.toArray m μ ρ J V L a w → fuel + L.toList.countP (fun b => b) = l.length → wpAny P .any l.toArray (lift N Q) fuel L a w := by
    intro fuel
    induction fuel with
    | zero =>
      intro L a w hI hc
      have hall : ∀ i, i < l.length → L.getD i false = true := fun i hi => by
        have h1 : L.toList.countP (fun b => b) = L.toList.length := by
          have := hI.ls; simp only [Array.length_toList]; omega
        have h2 := List.countP_eq_length.1 h1
        have h3 : i < L.size := by rw [hI.ls, hnn]; exact hi
        have := h2 L[i] (by simp)
        simpa [h3] using this
      have hmn : l.length ≤ 0 + m := by
        rcases Nat.lt_or_ge m l.length with h | h
        · have h1 := hall m h
          rw [hI.tl m (Nat.le_refl _)] at h1
          cases h1
        · omega
      exact full L a w 0 hI (fun i hi => hall i (by omega)) hmn
    | succ fuel ih =>
      intro L a w hI hc
      by_cases hall : ∀ i, i < m → L.getD i false = true
      · refine full L a w (fuel + 1) hI hall ?_
        have hL : L = upTo l.length m := eq_upTo (by rw [hI.ls, hnn]) hml hall hI.tl
        rw [hL, count_upTo] at hc
        omega
      · have hsome : ∃ i, i < m ∧ L.getD i false = false := by
          refine Classical.byContradiction fun hn => hall fun i hi => ?_
          cases hc2 : L.getD i false with
          | true => rfl
          | false => exact absurd ⟨i, hi, hc2⟩ hn
        have hready_spec : ∀ i, i ∈ Region.ready .any l.toArray L ↔ i < l.length ∧ L.getD i true = false ∧ ∃ o, l.toArray[i]? = some o ∧ ∀ e ∈ o.after, Region.binds .any e = true → L.getD e.on false = true := fun i => by
          unfold Region.ready
          rw [List.mem_filter, List.mem_range, hnn]
          constructor
          · rintro ⟨h1, h2⟩
            have ho : l.toArray[i]? = some l[i] := by simp [h1]
            rw [ho] at h2
            simp only [Option.map_some, Option.getD_some, Bool.and_eq_true, Bool.not_eq_true'] at h2
            refine ⟨h1, h2.1, l[i], ho, fun e he hb => ?_⟩
            have := Array.all_eq_true'.1 h2.2 e he
            simpa [hb] using this
          · rintro ⟨h1, h2, o, ho, h3⟩
            refine ⟨h1, ?_⟩
            rw [ho]
            simp only [Option.map_some, Option.getD_some, Bool.and_eq_true, Bool.not_eq_true']
            refine ⟨h2, Array.all_eq_true'.2 fun e he => ?_⟩
            cases hb : Region.binds .any e with
            | false => simp
            | true => simpa [hb] using h3 e he hb
        have both : ∀ (i : Nat) (_ : i < m) (o : Oper) (_ : l.toArray[i]? = some o) (_ : L.getD i false = false) (_ : ∀ e ∈ o.after, Region.binds .any e = true → L.getD e.on false = true),
            OG P l.toArray o (fun t => a.tmps.getD t undef) w (fun v w2 => J (decide (μ = i) || L.getD μ false) w2 ∧ (∀ j u, j ≠ i → V j u w → V j u w2) ∧ V i v w2) ∧
            ∀ v w2, (J (decide (μ = i) || L.getD μ false) w2 ∧ (∀ j u, j ≠ i → V j u w → V j u w2) ∧ V i v w2) → wpAny P .any l.toArray (lift N Q) fuel (L.setIfInBounds i true) (a.put o.dst v) w2 := fun i him o ho hun' hed => by
          have hiL : i < L.size := by rw [hI.ls, hnn]; omega
          have hed' : ∀ o', l.toArray[i]? = some o' → ∀ e ∈ o'.after, Region.binds .any e = true → L.getD e.on false = true := fun o' ho' => by
            rw [ho] at ho'; injection ho' with ho'; subst ho'; exact hed
          obtain ⟨s, hs, hog⟩ := hops i o him (by rw [← List.getElem?_toArray]; exact ho)
          have hrdi := hrd i him
          rw [ho, hs] at hrdi
          simp only [Bool.and_eq_true, List.all_eq_true] at hrdi
          have hro : RdOk V ρ (fun t => a.tmps.getD t undef) w s := rdOk_of s fun p hp => by
            have hp2 := hrdi.2 p hp
            cases hp3 : p.2 with
            | some j =>
              rw [hp3] at hp2
              simp only [Bool.and_eq_true, decide_eq_true_eq, beq_iff_eq] at hp2
              exact hI.vs j p.1 hp2.1.1 (anc_spec hM hI.cl i j hed' hp2.2) hp2.1.2
            | none =>
              rw [hp3] at hp2
              refine hI.old p.1 fun j hj hjl hjd => ?_
              have h6 := List.all_eq_true.1 hp2 j (by simpa using hj)
              rw [hjd] at h6
              simp only [beq_self_eq_true, Bool.not_true, Bool.false_or, Bool.and_eq_true] at h6
              have := anc_spec hM hI.cl j i (fun o' ho' e he hb => hI.cl j o' ho' hjl e he hb) h6.2
              rw [hun'] at this
              cases this
          have hnext : ∀ v w2, (J (decide (μ = i) || L.getD μ false) w2 ∧ (∀ j u, j ≠ i → V j u w → V j u w2) ∧ V i v w2) → wpAny P .any l.toArray (lift N Q) fuel (L.setIfInBounds i true) (a.put o.dst v) w2 := fun v w2 hv => by
            refine ih _ _ _ ?_ ?_
            · refine ⟨?_, ?_, by rw [getD_set hiL]; exact hv.1, by simpa using hI.ls, ?_, ?_, ?_, ?_⟩
              · cases o.dst <;> exact hI.nd
              · cases hod : o.dst with
                | none => exact hI.sz
                | some d => simpa [Act.put] using hI.sz
              · intro k ok hk hkl e he hb
                rw [getD_set hiL] at hkl ⊢
                by_cases hki : k = i
                · subst hki
                  simp [hed' ok hk e he hb]
                · simp only [hki, decide_false, Bool.false_or] at hkl
                  simp [hI.cl k ok hk hkl e he hb]
              · intro k hk
                rw [getD_set hiL, hI.tl k hk]
                have : ¬ k = i := by omega
                simp [this]
              · intro j d hj hjl hjd
                rw [getD_set hiL] at hjl
                have hd1 : ∀ d', o.dst = some d' → d' < a.tmps.size := fun d' hd' => by
                  rw [hI.sz]
                  exact hdN (i, d') (hpre i d' him (by rw [ho]; exact hd'))
                by_cases hji : j = i
                · subst hji
                  rw [ho] at hjd
                  simp only [Option.bind_some] at hjd
                  rw [hjd, getD_put (hd1 d hjd), if_pos rfl]
                  exact hv.2.2
                · simp only [hji, decide_false, Bool.false_or] at hjl
                  have hold := hI.vs j d hj hjl hjd
                  have hdj : (j, d) ∈ ds := hpre j d hj hjd
                  have hne : ∀ d', o.dst = some d' → d ≠ d' := fun d' hd' e => by
                    subst e
                    exact hji (hone j i d hj him hjd (by rw [ho]; exact hd'))
                  cases hod : o.dst with
                  | none => exact hv.2.1 j _ hji hold
                  | some d' =>
                    rw [getD_put (hd1 d' hod), if_neg (hne d' hod)]
                    exact hv.2.1 j _ hji hold
              · intro s' hs'
                have hni : ((l.toArray[i]?).bind (·.dst)) ≠ some s' := hs' i him (by rw [getD_set hiL]; simp)
                have hold := hI.old s' fun j hj hjl => hs' j hj (by rw [getD_set hiL]; simp [hjl])
                rw [ho] at hni
                simp only [Option.bind_some] at hni
                cases hod : o.dst with
                | none => exact hold
                | some d' =>
                  rw [getD_put (by rw [hI.sz]; exact hdN (i, d') (hpre i d' him (by rw [ho]; exact hod))), if_neg (fun e => hni (by rw [hod, e]))]
                  exact hold
            · have hLi : L.toList[i]? = some false := by
                have h3 : i < L.toList.length := by simpa using hiL
                rw [List.getElem?_eq_getElem h3]
                have : L.getD i false = L.toList[i] := by simp [hiL]
                rw [← this, hun']
              rw [Array.toList_setIfInBounds, List.countP_set (by simpa using hiL)]
              have h4 : L.toList[i]'(by simpa using hiL) = false := (List.getElem?_eq_some_iff.1 hLi).2
              rw [h4]
              simp only [Bool.false_eq_true, if_false, if_true]
              omega
          exact ⟨hog _ w _ hI.j (fun e => by subst e; exact hun') hro, hnext⟩
        refine ⟨fun hnil => ?_, fun i hi => ?_⟩
        · exfalso
          -- the least one that is not listed may come up
          have hmin : ∀ k, (∃ i, i < k ∧ i < m ∧ L.getD i false = false) → ∃ i, i < m ∧ L.getD i false = false ∧ ∀ j, j < i → L.getD j false = true := by
            intro k
            induction k with
            | zero => rintro ⟨i, h, _⟩; omega
            | succ k ihk =>
              rintro ⟨i, h1, h2, h3⟩
              by_cases hex : ∃ i, i < k ∧ i < m ∧ L.getD i false = false
              · exact ihk hex
              · have hik : i = k := by
                  rcases Nat.lt_or_ge i k with h | h
                  · exact absurd ⟨i, h, h2, h3⟩ hex
                  · omega
                subst hik
                refine ⟨i, h2, h3, fun j hj => ?_⟩
                cases hc2 : L.getD j false with
                | true => rfl
                | false => exact absurd ⟨j, hj, by omega, hc2⟩ hex
          obtain ⟨i0, h1, h2⟩ := hsome
          obtain ⟨i, hi, hu, hlow⟩ := hmin (i0 + 1) ⟨i0, by omega, h1, h2⟩
          have hil : i < l.length := by omega
          have hE := hedge i hil
          have ho : l.toArray[i]? = some l[i] := by simp [hil]
          rw [ho] at hE
          have hmem : i ∈ Region.ready .any l.toArray L := (hready_spec i).2 ⟨hil, by
            have h3 : i < L.size := by rw [hI.ls, hnn]; exact hil
            rw [Array.getD_eq_getD_getElem?] at hu ⊢
            rw [Array.getElem?_eq_getElem h3] at hu ⊢
            simpa using hu, l[i], ho, fun e he hb => by
            have := Array.all_eq_true'.1 hE e he
            simp only [hb, Bool.not_true, Bool.false_or, decide_eq_true_eq] at this
            exact hlow _ this⟩
          rw [hnil] at hmem
          cases hmem
        · obtain ⟨hil, hun, o, ho, hed⟩ := (hready_spec i).1 hi
          have hiL : i < L.size := by rw [hI.ls, hnn]; exact hil
          have hun' : L.getD i false = false := by
            rw [Array.getD_eq_getD_getElem?] at hun ⊢
            rw [Array.getElem?_eq_getElem hiL] at hun ⊢
            simpa using hun
          have hed' : ∀ o', l.toArray[i]? = some o' → ∀ e ∈ o'.after, Region.binds .any e = true → L.getD e.on false = true := fun o' ho' => by
            rw [ho] at ho'; injection ho' with ho'; subst ho'; exact hed
          have him : i < m := by
            rcases Nat.lt_or_ge i m with h | h
            · exact h
            · exfalso
              rcases Nat.lt_or_ge m i with h2 | h2
              · have h3 := hdep (i - m) (by omega)
                rw [show m + (i - m) = i by omega] at h3
                have h4 : (i - m == 0) = false := by simp; omega
                rw [h4, Bool.false_or] at h3
                have := anc_spec hM hI.cl i m hed' h3
                rw [hI.tl m (Nat.le_refl _)] at this
                cases this
              · obtain rfl : i = m := by omega
                have h4 : (l.length == i) = false := by simp; omega
                rw [h4, Bool.false_or] at htail
                have h5 := List.all_eq_true.1 htail
                obtain ⟨j, hj, hju⟩ := hsome
                have h6 := h5 j (by simpa using hj)
                simp only [List.contains_nil, Bool.false_or] at h6
                have := anc_spec hM hI.cl i j hed' h6
                rw [hju] at this
                cases this
          obtain ⟨hog, hnext⟩ := both i him o ho hun' hed
          have hgo := hog.out a (wpAny P .any l.toArray (lift N Q) fuel (L.setIfInBounds i true)) (lift N Q) (fun _ => rfl) fun v w2 hv => hnext v w2 hv
          unfold wpOp
          rw [ho]
          exact hgo
  have hr0 : ∀ i, (Array.replicate l.toArray.size false).getD i false = false := fun i => by
    rw [Array.getD_eq_getD_getElem?, Array.getElem?_replicate]; split <;> rfl
  refine key _ _ _ _ ⟨hf.nd, hf.sz, by rw [hr0]; exact h0, by simp, fun k o _ hk => ?_, fun k _ => hr0 k, fun i d _ hi => ?_, fun s _ => hf.at_ s⟩ ?_
  · rw [hr0] at hk; cases hk
  · rw [hr0] at hi; cases hi
  · simp [List.countP_replicate]
end
/-- The values of the rest hang on no world. -/
def Sts (V : Nat → VP) : List Nat → Prop
  | [] => True
  | i :: r => (∀ v w w', V i v w → V i v w') ∧ Sts V r
theorem Is.sts {v u : Value} {w w' : World} (h : Is v u w) : Is v u w' := h
theorem sts_at {V : Nat → VP} : ∀ {l : List Nat}, Sts V l → ∀ i ∈ l, ∀ v w w', V i v w → V i v w'
  | _ :: _, h, i, hi => by
    rcases List.mem_cons.1 hi with rfl | hi
    · exact h.1
    · exact sts_at h.2 i hi
structure JC (w0 : World) (H : List HE) (W : World) : Prop where
  hp : Hp w0 H W
theorem dx_do2 {P : Program} {ops : Array Oper} {J : World → Prop} {ρ : Rf} {T : (Nat → VP) → Prop} : ∀ (os : List Oper) (ss : List (List (Nat × Option Nat))) (i : Nat) (pv : Nat → VP), (∀ j, i ≤ j → ∀ v w, pv j v w) → DX P ops J ρ T i pv os ss →
    ∃ V, (∀ j, j < i → V j = pv j) ∧ (∀ j, i + os.length ≤ j → ∀ v w, V j v w) ∧ DO P ops J V ρ i os ss ∧ T V
  | [], [], _, pv, hpv, h => ⟨pv, fun _ _ => rfl, fun j hj => hpv j (by simpa using hj), trivial, h⟩
  | [], _ :: _, _, _, _, h => h.elim
  | _ :: _, [], _, _, _, h => h.elim
  | o :: os, s :: ss, i, pv, hpv, ⟨V, h1, h2, h3⟩ => by
    obtain ⟨V', h4, h4', h5, h6⟩ := dx_do2 os ss (i + 1) (updV pv i V) (fun j hj v w => by rw [updV_ne _ _ (by omega)]; exact hpv j (by omega) v w) h3
    have e : V' i = V := by rw [h4 i (by omega), updV_at]
    refine ⟨V', fun j hj => by rw [h4 j (by omega), updV_ne _ _ (by omega)], fun j hj => h4' j (by simp only [List.length_cons] at hj; omega), ⟨⟨?_, ?_⟩, h5⟩, h6⟩
    · rw [e]; exact h1
    · intro ρ1 w1 hj hr
      rw [e]
      refine h2 ρ1 w1 hj (rdOk_mono (fun j v w hh => ?_) s hr)
      rcases Nat.lt_or_ge j i with hlt | hge
      · rw [h4 j (by omega), updV_ne _ _ (by omega)] at hh; exact hh
      · exact hpv j hge v w
theorem wc_drawn6 {P : Program} {N : Nat} {ρ : Rf} {w : World} {Q : Kq} {id : Nat} {l : List Oper} (M : List Nat) (m μ : Nat) (src : List (List (Nat × Option Nat))) (ds : List (Nat × Nat)) {w0 : World} {H Hc : List HE} (hh : Hp w0 H w) (F : World → Prop) (hc : Hc.Sublist H) (hm : P.follows .mixedOrders = true) (hok : drawOk3 l m N src ds [] M = true) (hμ : μ < m)
    (hF : ∀ w w', F w → Below w.heap.size w w' → F w') (hFc : ∀ w, F w → Hp w0 Hc w)
    (h : DX P l.toArray (JC w0 Hc) ρ (fun V1 => ∃ o s Vm, l[μ]? = some o ∧ src[μ]? = some s ∧ (∀ v w w', Vm v w → Below w.heap.size w w' → Vm v w') ∧ (∀ ρ1 w1, Hp w0 H w1 → RdOk V1 ρ ρ1 w1 s → OG P l.toArray o ρ1 w1 fun v w2 => F w2 ∧ Vm v w2) ∧
      DX P l.toArray (JC w0 Hc) ρ (fun V => Sts V ((List.range m).filter (· != μ)) ∧ ∀ f w', F w' → AllV V f w' ds → WL P N l.toArray Q (l.drop m) (updL ρ f ds) w') (μ + 1) (updV V1 μ Vm) ((l.take m).drop (μ + 1)) (src.drop (μ + 1))) 0 noV (l.take μ) (src.take μ)) : WC P N (.region id l.toArray true) Q ρ w := by
  obtain ⟨V1, _, a1, d1, o, s, Vm, ho, hs, hst, hog, h2⟩ := dx_do2 _ _ _ _ (fun _ _ _ _ => trivial) h
  have hml : m ≤ l.length := by
    simp only [drawOk3, Bool.and_eq_true, decide_eq_true_eq] at hok
    exact hok.1.1.1.1.1.1.1.1.1.1.1.1.1
  have hlt : (l.take μ).length = μ := by rw [List.length_take]; omega
  rw [hlt, Nat.zero_add] at a1
  obtain ⟨V, b1, b2, d2, hsts, htail⟩ := dx_do2 _ _ _ _ (fun j hj v w => by rw [updV_ne _ _ (by omega)]; exact a1 j (by omega) v w) h2
  have hlt2 : ((l.take m).drop (μ + 1)).length = m - (μ + 1) := by rw [List.length_drop, List.length_take]; omega
  rw [hlt2] at b2
  have eμ : V μ = Vm := by rw [b1 μ (by omega), updV_at]
  have elt : ∀ j, j < μ → V j = V1 j := fun j hj => by rw [b1 j (by omega), updV_ne _ _ (by omega)]
  have hsw : ∀ j, j ≠ μ → ∀ u w w', V j u w → V j u w' := fun j hj u w w' hu => by
    rcases Nat.lt_or_ge j m with h3 | h3
    · exact sts_at hsts j (List.mem_filter.2 ⟨List.mem_range.2 h3, by simpa using hj⟩) u w w' hu
    · exact b2 j (by omega) u w'
  have hV1 : ∀ j v w, V j v w → V1 j v w := fun j v w hv => by
    rcases Nat.lt_or_ge j μ with h3 | h3
    · rw [← elt j h3]; exact hv
    · exact a1 j h3 v w
  have hJc : ∀ (f : Bool) w1, (if f then F w1 else Hp w0 H w1) → JC w0 Hc w1 := fun f w1 hj => by
    cases f with
    | true => exact ⟨hFc w1 hj⟩
    | false => exact ⟨Hp.sub hj hc⟩
  have hJe : ∀ (f : Bool) w1 w2, (if f then F w1 else Hp w0 H w1) → Below w1.heap.size w1 w2 → (if f then F w2 else Hp w0 H w2) := fun f w1 w2 hj hb => by
    cases f with
    | true => exact hF w1 w2 hj hb
    | false => exact Hp.ext hj hb
  refine wc_draw6 M m μ src ds (fun f w => if f then F w else Hp w0 H w) V hm hok hμ ?_ ?_ (fun f w' hj hv => htail f w' hj hv)
  · exact hh.ext ⟨rfl, rfl, rfl, Nat.le_refl _, fun _ _ => rfl⟩
  · intro i oi him hoi
    rcases Nat.lt_trichotomy i μ with h3 | h3 | h3
    · obtain ⟨s', hs', hst', hog'⟩ := (do_at _ _ _ d1).2 i oi (by rw [List.getElem?_take, if_pos h3]; exact hoi)
      rw [List.getElem?_take, if_pos h3] at hs'
      rw [Nat.zero_add] at hst' hog'
      refine ⟨s', hs', fun ρ1 w1 f hj _ hr => (hog' ρ1 w1 (hJc f w1 hj) (rdOk_mono hV1 s' hr)).mono fun v w2 hv => ⟨?_, fun j u hji hu => ?_, ?_⟩⟩
      · rw [decide_eq_false (by omega), Bool.false_or]
        exact hJe f w1 w2 hj hv.1
      · by_cases hjm : j = μ
        · subst hjm
          rw [eμ] at hu ⊢
          exact hst u w1 w2 hu hv.1
        · exact hsw j hjm u w1 w2 hu
      · rw [elt i h3]; exact hv.2
    · subst h3
      rw [ho] at hoi
      cases hoi
      refine ⟨s, hs, fun ρ1 w1 f hj hf hr => ?_⟩
      have hf0 := hf rfl
      subst hf0
      refine (hog ρ1 w1 hj (rdOk_mono hV1 s hr)).mono fun v w2 hv => ⟨?_, fun j u hji hu => hsw j hji u w1 w2 hu, ?_⟩
      · rw [decide_eq_true rfl, Bool.true_or]
        exact hv.1
      · rw [eμ]; exact hv.2
    · obtain ⟨s', hs', hst', hog'⟩ := (do_at _ _ _ d2).2 (i - (μ + 1)) oi (by rw [List.getElem?_drop, show μ + 1 + (i - (μ + 1)) = i by omega, List.getElem?_take, if_pos him]; exact hoi)
      rw [List.getElem?_drop, show μ + 1 + (i - (μ + 1)) = i by omega] at hs'
      rw [show μ + 1 + (i - (μ + 1)) = i by omega] at hst' hog'
      refine ⟨s', hs', fun ρ1 w1 f hj _ hr => (hog' ρ1 w1 (hJc f w1 hj) hr).mono fun v w2 hv => ⟨?_, fun j u hji hu => ?_, hv.2⟩⟩
      · rw [decide_eq_false (by omega), Bool.false_or]
        exact hJe f w1 w2 hj hv.1
      · by_cases hjm : j = μ
        · subst hjm
          rw [eμ] at hu ⊢
          exact hst u w1 w2 hu hv.1
        · exact hsw j hjm u w1 w2 hu
end Go.Proofs.YthmmofllajkejaaGreatDoor
