/- As Draw, for a region with two or more new variables: they lie apart. -/
import Derived.Test.YthmmofllajkejaaGreatDoorDraw
namespace Go.Proofs.YthmmofllajkejaaGreatDoor
open Go.RowKit
section
variable {P : Program} {N : Nat} {Q : Kq} {ρ : Rf} {w : World}
/-- What must come ahead of each operation, as bits. -/
def ancOf (acc : List Nat) : List Edge → Nat
  | [] => 0
  | e :: r => bif Region.binds .any e then 1 <<< e.on ||| acc.getD e.on 0 ||| ancOf acc r else ancOf acc r
def ancs : List Oper → List Nat → List Nat
  | [], acc => acc
  | o :: r, acc => ancs r (acc ++ [ancOf acc o.after.toList])
theorem ancOf_spec {acc : List Nat} {i : Nat} : ∀ {es : List Edge}, (ancOf acc es).testBit i = true → ∃ e ∈ es, Region.binds .any e = true ∧ (e.on = i ∨ (acc.getD e.on 0).testBit i = true)
  | [], h => by simp [ancOf] at h
  | e :: r, h => by
    unfold ancOf at h
    cases hb : Region.binds .any e with
    | false =>
      rw [hb, cond_false] at h
      obtain ⟨e', h1, h2⟩ := ancOf_spec h
      exact ⟨e', List.mem_cons_of_mem _ h1, h2⟩
    | true =>
      rw [hb, cond_true, Nat.testBit_or, Nat.testBit_or, Bool.or_eq_true, Bool.or_eq_true] at h
      rcases h with (h | h) | h
      · refine ⟨e, List.mem_cons_self, hb, .inl ?_⟩
        rw [Nat.one_shiftLeft, Nat.testBit_two_pow] at h
        simpa using h
      · exact ⟨e, List.mem_cons_self, hb, .inr h⟩
      · obtain ⟨e', h1, h2⟩ := ancOf_spec h
        exact ⟨e', List.mem_cons_of_mem _ h1, h2⟩
theorem ancs_pre : ∀ (l : List Oper) (acc : List Nat), ∃ t, ancs l acc = acc ++ t
  | [], acc => ⟨[], by simp [ancs]⟩
  | o :: r, acc => by
    obtain ⟨t, h⟩ := ancs_pre r (acc ++ [ancOf acc o.after.toList])
    exact ⟨_, by rw [ancs, h, List.append_assoc]⟩
theorem ancs_at : ∀ (l : List Oper) (acc : List Nat) (k i : Nat), acc.length ≤ k → ((ancs l acc).getD k 0).testBit i = true → ∃ o, l[k - acc.length]? = some o ∧ ∃ e ∈ o.after, Region.binds .any e = true ∧ (e.on = i ∨ e.on < k ∧ ((ancs l acc).getD e.on 0).testBit i = true)
  | [], acc, k, i, hk, h => by
    rw [ancs, List.getD_eq_getElem?_getD, List.getElem?_eq_none hk] at h
    simp at h
  | o :: r, acc, k, i, hk, h => by
    rcases Nat.lt_or_ge acc.length k with hlt | hge
    · have hl : (acc ++ [ancOf acc o.after.toList]).length = acc.length + 1 := by simp
      obtain ⟨o', h1, h2⟩ := ancs_at r (acc ++ [ancOf acc o.after.toList]) k i (by omega) h
      refine ⟨o', ?_, h2⟩
      rw [hl] at h1
      rw [show k - acc.length = (k - (acc.length + 1)) + 1 by omega, List.getElem?_cons_succ]
      exact h1
    · obtain rfl : k = acc.length := by omega
      obtain ⟨t, ht⟩ := ancs_pre r (acc ++ [ancOf acc o.after.toList])
      refine ⟨o, by rw [Nat.sub_self]; rfl, ?_⟩
      rw [ancs, ht] at h ⊢
      rw [List.getD_eq_getElem?_getD, List.append_assoc, List.getElem?_append_right (Nat.le_refl _), Nat.sub_self] at h
      simp only [List.cons_append, List.getElem?_cons_zero, Option.getD_some, List.nil_append] at h
      obtain ⟨e, h1, h2, h3⟩ := ancOf_spec h
      refine ⟨e, by simpa using h1, h2, ?_⟩
      rcases h3 with h3 | h3
      · exact .inl h3
      · have h4 : e.on < acc.length := by
          rcases Nat.lt_or_ge e.on acc.length with h5 | h5
          · exact h5
          · rw [List.getD_eq_getElem?_getD, List.getElem?_eq_none h5] at h3; simp at h3
        refine .inr ⟨h4, ?_⟩
        rw [List.getD_eq_getElem?_getD, List.append_assoc, List.getElem?_append_left h4, ← List.getD_eq_getElem?_getD]
        exact h3
theorem anc_spec {l : List Oper} {M : List Nat} {L : Array Bool} (hM : ancs l [] = M) (hc : Closed l.toArray L) : ∀ (k i : Nat), (∀ o, l.toArray[k]? = some o → ∀ e ∈ o.after, Region.binds .any e = true → L.getD e.on false = true) → (M.getD k 0).testBit i = true → L.getD i false = true := by
  intro k
  induction k using Nat.strongRecOn with
  | _ k ih =>
    intro i hk h
    rw [← hM] at h
    obtain ⟨o, ho, e, he, hb, h3⟩ := ancs_at l [] k i (Nat.zero_le _) h
    have ho' : l.toArray[k]? = some o := by rw [List.getElem?_toArray]; exact ho
    have h1 := hk o ho' e he hb
    rcases h3 with h3 | ⟨h3, h4⟩
    · rw [← h3]; exact h1
    · rw [hM] at h4
      exact ih e.on h3 i (fun o' ho2 => hc e.on o' ho2 h1) h4
def flL (n m : Nat) (fl : List Nat) : Array Bool := ((List.range n).map fun i => decide (i < m ∧ i ∉ fl)).toArray
theorem flL_getD {n m i : Nat} {fl : List Nat} (hi : i < n) : (flL n m fl).getD i true = decide (i < m ∧ i ∉ fl) := by
  unfold flL
  rw [Array.getD_eq_getD_getElem?, List.getElem?_toArray, List.getElem?_map, List.getElem?_range hi]
  rfl
/-- It knows no panic. -/
def NP (Q : Kq) : Prop := ∀ c ρ w, ¬ Q (.panic c) ρ w
theorem np_ret {fn : Func} {R : Ending → World → Prop} : NP (retK P fn R) := fun _ _ _ h => h.1.elim nofun nofun
theorem np_then {next : Rf → World → Prop} (h : NP Q) : NP (thenK next Q) := fun c ρ w hq => h c ρ w hq
theorem np_blk {id : Nat} (h : NP Q) : NP (blkK id Q) := fun c ρ w hq => h c ρ w hq
/-- A part taken out of a tuple, which nothing of the rest reads or writes: whenever it comes up, it may as well come first. -/
def flOk (l : List Oper) (m : Nat) (fl : List Nat) (i : Nat) : Bool :=
  Region.free .any l.toArray (flL l.length m fl) i && match l[i]? with
    | some ⟨some _, .extract _ _, _, _, af, none⟩ => af.all fun e => !Region.binds .any e || (decide (e.on < m) && !fl.contains e.on)
    | _ => false
theorem flOk_spec {l : List Oper} {m : Nat} {fl : List Nat} {i : Nat} (h : flOk l m fl i = true) : Region.free .any l.toArray (flL l.length m fl) i = true ∧ (∀ o, l[i]? = some o → ∀ e ∈ o.after, Region.binds .any e = true → e.on < m ∧ e.on ∉ fl) ∧
    ∃ d x k ty pos af, l[i]? = some ⟨some d, .extract x k, ty, pos, af, none⟩ := by
  unfold flOk at h
  rw [Bool.and_eq_true] at h
  obtain ⟨h1, h2⟩ := h
  split at h2
  · rename_i d x k ty pos af ho
    refine ⟨h1, fun o ho' e he hb => ?_, d, x, k, ty, pos, af, ho⟩
    rw [ho] at ho'
    injection ho' with ho'
    subst ho'
    have := Array.all_eq_true'.1 h2 e he
    simp only [hb, Bool.not_true, Bool.false_or, Bool.and_eq_true, decide_eq_true_eq, Bool.not_eq_true', List.contains_eq_mem, decide_eq_false_iff_not] at this
    exact this
  · cases h2
/-- The closed facts on a region, fl: its floating parts. -/
def drawOk3 (l : List Oper) (m N : Nat) (src : List (List (Nat × Option Nat))) (ds : List (Nat × Nat)) (fl M : List Nat) : Bool :=
  let ops := l.toArray
  let pre := (List.range m).map fun i => ((ops[i]?).bind (·.dst))
  (m ≤ l.length) && (src.length == m) &&
  -- the slots that the first part writes
  (ds == (pre.zipIdx.filterMap fun (d, i) => d.map fun d => (i, d)).reverse) && (decide (ds.map (·.2)).Nodup) && (ds.all fun p => p.2 < N) &&
  -- what each reads
  ((List.range m).all fun i => match ops[i]?, src[i]? with
    | some o, some s => ((o.looksAt ops).all fun t => s.any fun p => p.1 == t) &&
        s.all fun p => match p.2 with
          | some j => (j < m) && ((ops[j]?).bind (·.dst) == some p.1) && (M.getD i 0).testBit j
          | none => (List.range m).all fun j => !((ops[j]?).bind (·.dst) == some p.1) || (j != i && (M.getD j 0).testBit i)
    | _, _ => false) &&
  -- the last part comes behind the whole first one, in order
  (l.length == m || ((List.range m).all fun i => fl.contains i || (M.getD m 0).testBit i)) &&
  ((List.range (l.length - m)).all fun k => Region.ready .any ops (upTo l.length (m + k)) == [m + k]) && (Region.ready .any ops (upTo l.length l.length) == []) &&
  ((List.range (l.length - m)).all fun k => k == 0 || (M.getD (m + k) 0).testBit m) &&
  ((List.range l.length).all fun i => match ops[i]? with | some o => o.after.all fun e => !Region.binds .any e || e.on < i | none => false) &&
  Region.noSelect ops && (fl.all fun i => flOk l m fl i) && (ancs l [] == M)
def AlOk (P : Program) (l : List Oper) : List Nat → Prop
  | [] => True
  | i :: r => (∃ d t ty pos af n ag by' zc, l[i]? = some ⟨some d, .alloc t, ty, pos, af, none⟩ ∧ tinfo P t = some (n, ag, by', zc)) ∧ AlOk P l r
theorem AlOk.at {l : List Oper} : ∀ {fr : List Nat}, AlOk P l fr → ∀ i ∈ fr, ∃ d t ty pos af n ag by' zc, l[i]? = some ⟨some d, .alloc t, ty, pos, af, none⟩ ∧ tinfo P t = some (n, ag, by', zc)
  | [], _, _, hi => by simp at hi
  | j :: r, h, i, hi => by
    rcases List.mem_cons.1 hi with rfl | hi
    · exact h.1
    · exact AlOk.at h.2 i hi
theorem alok_nil {l : List Oper} : AlOk P l [] := trivial
theorem alok_cons {l : List Oper} {i d t ty : Nat} {pos : String} {af : Array Edge} {n by' : Nat} {ag : Bool} {zc : List Value} {r : List Nat} (h : l[i]? = some ⟨some d, .alloc t, ty, pos, af, none⟩) (ht : tinfo P t = some (n, ag, by', zc)) (hr : AlOk P l r) : AlOk P l (i :: r) := ⟨⟨d, t, ty, pos, af, n, ag, by', zc, h, ht⟩, hr⟩
theorem og_fresh {ops : Array Oper} {d : Nat} {t ty : Nat} {pos : String} {af : Array Edge} {n by' : Nat} {ag : Bool} {zc : List Value} {K : Value → World → Prop} (ht : tinfo P t = some (n, ag, by', zc)) (h : OG P ops ⟨some d, .alloc t, ty, pos, af, none⟩ ρ w K)
    (a : Act) (hd : d < a.tmps.size) (next : Act → World → Prop) (Q : Exit → Act → World → Prop) (ha : ∀ i, a.tmps.getD i undef = ρ i) (hn : ∀ v w', K v w' → (∃ b, v = .pointer (some ⟨b, 0, none⟩) ∧ w.heap.size ≤ b ∧ b < w'.heap.size) → next (a.put (some d) v) w') :
    if Region.wanted ⟨some d, .alloc t, ty, pos, af, none⟩ (yielded ops a.tmps) then (Oper.wp P ⟨some d, .alloc t, ty, pos, af, none⟩ a w next Q) ∨ ((Oper.asks P ⟨some d, .alloc t, ty, pos, af, none⟩ a w) ∧ LetsOut Q) else next (a.put (some d) undef) w := by
  have h1 := h.out a (fun a' w' => ∃ v, a' = a.put (some d) v ∧ K v w') Q ha fun v w' hk => ⟨v, rfl, hk⟩
  have hw : Region.wanted ⟨some d, .alloc t, ty, pos, af, none⟩ (yielded ops a.tmps) = true := by simp [Region.wanted]
  rw [if_pos hw] at h1 ⊢
  refine h1.imp (fun h2 => ?_) id
  obtain ⟨z, hz, hzc⟩ := run_zeroValue' (w := w) ht
  have hr : (execOp a.eval ⟨some d, .alloc t, ty, pos, af, none⟩).run P w = .ok (.value (.pointer (some ⟨w.heap.size, 0, none⟩))) (w.alloc (.cells zc.toArray t)) := by simp [execOp, Instr.alloc, newVar, newRow, hz, hzc]
  unfold Oper.wp at h2 ⊢
  rw [hr] at h2 ⊢
  obtain ⟨v, hv, hk⟩ : ∃ v, a.put (some d) (.pointer (some ⟨w.heap.size, 0, none⟩)) = a.put (some d) v ∧ K v (w.alloc (.cells zc.toArray t)) := h2
  have h3 := congrArg (fun a' : Act => a'.tmps.getD d undef) hv
  simp only [getD_put hd, if_pos] at h3
  subst h3
  exact hn _ _ hk ⟨_, rfl, Nat.le_refl _, (Array.getElem?_eq_some_iff.1 (heap_alloc_new w _)).1⟩
theorem extract_run {x : Operand} {k ty d : Nat} {pos : String} {af : Array Edge} (f : Operand → Value) (w : World) : (∃ v, ∀ w', (execOp f ⟨some d, .extract x k, ty, pos, af, none⟩).run P w' = .ok (.value v) w') ∨ ∀ a K, Oper.upon P ⟨some d, .extract x k, ty, pos, af, none⟩ a K (fun _ _ _ => False) ((execOp f ⟨some d, .extract x k, ty, pos, af, none⟩).run P w) → False := by
  cases hx : f x with
  | tuple xs =>
    cases hk : xs[k]? with
    | some v => exact .inl ⟨v, fun w' => by simp [execOp, hx, Instr.extract, hk]⟩
    | none => exact .inr fun a K h => by simp [execOp, hx, Instr.extract, hk, Oper.upon] at h
  | _ => exact .inr fun a K h => by simp [execOp, hx, Instr.extract, Oper.upon] at h
theorem extract_yields {ops : Array Oper} {d : Nat} {x : Operand} {k ty : Nat} {pos : String} {af : Array Edge} {K : Value → World → Prop} (h : OG P ops ⟨some d, .extract x k, ty, pos, af, none⟩ ρ w K) (a : Act) (hd : d < a.tmps.size) (ha : ∀ i, a.tmps.getD i undef = ρ i) :
    ∃ v, (∀ w', (execOp a.eval ⟨some d, .extract x k, ty, pos, af, none⟩).run P w' = .ok (.value v) w') ∧ K v w := by
  have h1 := h.out a (fun a' w' => ∃ v, a' = a.put (some d) v ∧ K v w') (fun _ _ _ => False) ha fun v w' hk => ⟨v, rfl, hk⟩
  rw [if_pos (by simp [Region.wanted])] at h1
  rcases h1 with h1 | ⟨_, _, _, h1⟩
  · unfold Oper.wp at h1
    rcases extract_run (P := P) (d := d) (x := x) (k := k) (ty := ty) (pos := pos) (af := af) a.eval w with ⟨v, hv⟩ | hn
    · rw [hv w] at h1
      obtain ⟨v', h2, hk⟩ : ∃ v', a.put (some d) v = a.put (some d) v' ∧ K v' w := h1
      have h3 := congrArg (fun a' : Act => a'.tmps.getD d undef) h2
      simp only [getD_put hd, if_pos] at h3
      subst h3
      exact ⟨v, hv, hk⟩
    · exact (hn _ _ h1).elim
  · exact h1.elim
structure DI2 (fr : List Nat) (N : Nat) (ops : Array Oper) (m : Nat) (ρ : Rf) (J : World → Prop) (V : Nat → Value → World → Prop) (L : Array Bool) (a : Act) (w : World) : Prop where
  nd : a.defers = []
  sz : a.tmps.size = N
  j : J w
  ls : L.size = ops.size
  cl : Closed ops L
  tl : ∀ k, m ≤ k → L.getD k false = false
  vs : ∀ i d, i < m → L.getD i false = true → (ops[i]?).bind (·.dst) = some d → V i (a.tmps.getD d undef) w
  old : ∀ s, (∀ i, i < m → L.getD i false = true → (ops[i]?).bind (·.dst) ≠ some s) → a.tmps.getD s undef = ρ s
  fb : ∀ i ∈ fr, L.getD i false = true → ∀ d, (ops[i]?).bind (·.dst) = some d → ∃ b, a.tmps.getD d undef = .pointer (some ⟨b, 0, none⟩) ∧ b < w.heap.size
  fd : ∀ i ∈ fr, ∀ j ∈ fr, i ≠ j → L.getD i false = true → L.getD j false = true → ∀ d e, (ops[i]?).bind (·.dst) = some d → (ops[j]?).bind (·.dst) = some e → a.tmps.getD d undef ≠ a.tmps.getD e undef
theorem wc_draw2 {id : Nat} {l : List Oper} (fr fl M : List Nat) (m : Nat) (src : List (List (Nat × Option Nat))) (ds : List (Nat × Nat)) (J : World → Prop) (V : Nat → Value → World → Prop) (hm : P.follows .mixedOrders = true) (hok : drawOk3 l m N src ds fl M = true) (hfr : AlOk P l fr) (hfm : fr.all (fun i => i < m) = true) (hQp : NP Q)
    (hJ : ∀ w w', J w → Below w.heap.size w w' → J w') (h0 : J w) (hops : DO P l.toArray J V ρ 0 (l.take m) src)
    (tail : ∀ f w', J w' → AllV V f w' ds → (∀ i ∈ fr, ∀ j ∈ fr, i ≠ j → f i ≠ f j) → WL P N l.toArray Q (l.drop m) (updL ρ f ds) w') : WC P N (.region id l.toArray true) Q ρ w := by
  refine ⟨fun a hf => wp_region_any hm ?_⟩
  simp only [drawOk3, Bool.and_eq_true, decide_eq_true_eq, beq_iff_eq, List.all_eq_true, List.mem_range] at hok
  obtain ⟨⟨⟨⟨⟨⟨⟨⟨⟨⟨⟨⟨⟨hml, _⟩, hds⟩, hnd⟩, hdN⟩, hrd⟩, htail⟩, hready⟩, hend⟩, hdep⟩, hedge⟩, hns⟩, hflo⟩, hM⟩ := hok
  have hfl := fun i hi => flOk_spec (hflo i hi)
  have hdo := (do_at _ _ _ hops).2
  have hpre : ∀ i d, i < m → ((l.toArray[i]?).bind (·.dst)) = some d → (i, d) ∈ ds := fun i d hi hd => by
    rw [hds, List.mem_reverse, List.mem_filterMap]
    refine ⟨(some d, i), ?_, rfl⟩
    rw [List.mem_zipIdx_iff_getElem?]
    rw [List.getElem?_map, List.getElem?_range hi]
    simp only [Option.map_some, hd]
  have hdsm : ∀ i d, (i, d) ∈ ds → i < m ∧ ((l.toArray[i]?).bind (·.dst)) = some d := fun i d hp => by
    rw [hds, List.mem_reverse, List.mem_filterMap] at hp
    obtain ⟨⟨x, k⟩, hx, hxe⟩ := hp
    rw [List.mem_zipIdx_iff_getElem?] at hx
    cases x with
    | none => simp at hxe
    | some d' =>
      simp only [Option.map_some, Option.some.injEq, Prod.mk.injEq] at hxe
      obtain ⟨rfl, rfl⟩ := hxe
      rw [List.getElem?_map] at hx
      cases hr : (List.range m)[k]? with
      | none => rw [hr] at hx; simp at hx
      | some y =>
        have hkm : k < m := by
          have := (List.getElem?_eq_some_iff.1 hr).1
          simpa using this
        rw [List.getElem?_range hkm] at hx
        simp only [Option.map_some, Option.some.injEq] at hx
        exact ⟨hkm, hx⟩
  have hone : ∀ i j d, i < m → j < m → ((l.toArray[i]?).bind (·.dst)) = some d → ((l.toArray[j]?).bind (·.dst)) = some d → i = j := fun i j d hi hj h1 h2 => by
    have p1 := hpre i d hi h1
    have p2 := hpre j d hj h2
    have e1 := ((updL_at (ρ := ρ) (fun i => .int .i64 i) ds d hnd).1 i p1).symm.trans ((updL_at (ρ := ρ) (fun i => .int .i64 i) ds d hnd).1 j p2)
    injection e1 with _ e1
    omega
  have hnn : l.toArray.size = l.length := by simp
  have hfm' : ∀ i ∈ fr, i < m := fun i hi => by simpa using List.all_eq_true.1 hfm i hi
  have full : ∀ (L : Array Bool) (a : Act) (w : World) (fuel : Nat), DI2 fr N l.toArray m ρ J V L a w → (∀ i, i < m → L.getD i false = true) → l.length ≤ fuel + m → wpAny P .any l.toArray (lift N Q) fuel L a w := by
    intro L a w fuel hI hall hfu
    have hL : L = upTo l.length m := eq_upTo (by rw [hI.ls, hnn]) hml hall hI.tl
    rw [hL]
    refine tail_any m (fun k h1 h2 => ?_) hend fuel m a w (Nat.le_refl _) hml hfu ?_
    · have := hready (k - m) (by omega)
      rwa [show m + (k - m) = k by omega] at this
    · have hfits : Fits N a (updL ρ (fun i => match (l.toArray[i]?).bind (·.dst) with | some d => a.tmps.getD d undef | none => undef) ds) := by
        refine ⟨hI.nd, hI.sz, fun s => ?_⟩
        by_cases hs : ∃ i, (i, s) ∈ ds
        · obtain ⟨i, hi⟩ := hs
          rw [(updL_at _ ds s hnd).1 i hi, (hdsm i s hi).2]
        · rw [(updL_at _ ds s hnd).2 fun i hi => hs ⟨i, hi⟩]
          exact hI.old s fun i hi _ hd => hs ⟨i, hpre i s hi hd⟩
      refine (tail _ w hI.j (allV_of ds fun p hp => ?_) fun i hi j hj hij => ?_).out a hfits
      rotate_left
      · obtain ⟨d, t, ty, pos, af, n, ag, by', zc, hi1, _⟩ := hfr.at i hi
        obtain ⟨e, t', ty', pos', af', n', ag', by'', zc', hj1, _⟩ := hfr.at j hj
        have hi2 : (l.toArray[i]?).bind (·.dst) = some d := by rw [List.getElem?_toArray, hi1]; rfl
        have hj2 : (l.toArray[j]?).bind (·.dst) = some e := by rw [List.getElem?_toArray, hj1]; rfl
        rw [hi2, hj2]
        exact hI.fd i hi j hj hij (hall i (hfm' i hi)) (hall j (hfm' j hj)) d e hi2 hj2
      obtain ⟨h1, h2⟩ := hdsm p.1 p.2 hp
      have := hI.vs p.1 p.2 h1 (hall _ h1) h2
      rw [h2]
      exact this
  have key : ∀ (fuel : Nat) (L : Array Bool) (a : Act) (w : World), DI2 fr N l.toArray m ρ J V L a w → fuel + L.toList.countP (fun b => b) = l.length → wpAny P .any l.toArray (lift N Q) fuel L a w := by
    intro fuel
    induction fuel with
    | zero =>
      intro L a w hI hc
      have hall : ∀ i, i < l.length → L.getD i false = true := fun i hi => by
        have h1 : L.toList.countP (fun b => b) = L.toList.length := by
          have := hI.ls; simp only [Array.length_toList]; omega
        have h2 := List.countP_eq_length.1 h1
        have h3 : i < L.size := by rw [hI.ls, hnn]; exact hi
        have := h2 L[i] (by simp)
        simpa [h3] using this
      have hmn : l.length ≤ 0 + m := by
        rcases Nat.lt_or_ge m l.length with h | h
        · have h1 := hall m h
          rw [hI.tl m (Nat.le_refl _)] at h1
          cases h1
        · omega
      exact full L a w 0 hI (fun i hi => hall i (by omega)) hmn
    | succ fuel ih =>
      intro L a w hI hc
      by_cases hall : ∀ i, i < m → L.getD i false = true
      · refine full L a w (fuel + 1) hI hall ?_
        have hL : L = upTo l.length m := eq_upTo (by rw [hI.ls, hnn]) hml hall hI.tl
        rw [hL, count_upTo] at hc
        omega
      · have hsome : ∃ i, i < m ∧ L.getD i false = false := by
          refine Classical.byContradiction fun hn => hall fun i hi => ?_
          cases hc2 : L.getD i false with
          | true => rfl
          | false => exact absurd ⟨i, hi, hc2⟩ hn
        have hready_spec : ∀ i, i ∈ Region.ready .any l.toArray L ↔ i < l.length ∧ L.getD i true = false ∧ ∃ o, l.toArray[i]? = some o ∧ ∀ e ∈ o.after, Region.binds .any e = true → L.getD e.on false = true := fun i => by
          unfold Region.ready
          rw [List.mem_filter, List.mem_range, hnn]
          constructor
          · rintro ⟨h1, h2⟩
            have ho : l.toArray[i]? = some l[i] := by simp [h1]
            rw [ho] at h2
            simp only [Option.map_some, Option.getD_some, Bool.and_eq_true, Bool.not_eq_true'] at h2
            refine ⟨h1, h2.1, l[i], ho, fun e he hb => ?_⟩
            have := Array.all_eq_true'.1 h2.2 e he
            simpa [hb] using this
          · rintro ⟨h1, h2, o, ho, h3⟩
            refine ⟨h1, ?_⟩
            rw [ho]
            simp only [Option.map_some, Option.getD_some, Bool.and_eq_true, Bool.not_eq_true']
            refine ⟨h2, Array.all_eq_true'.2 fun e he => ?_⟩
            cases hb : Region.binds .any e with
            | false => simp
            | true => simpa [hb] using h3 e he hb
        have both : ∀ (i : Nat) (_ : i < m) (o : Oper) (_ : l.toArray[i]? = some o) (_ : L.getD i false = false) (_ : ∀ e ∈ o.after, Region.binds .any e = true → L.getD e.on false = true),
            OG P l.toArray o (fun t => a.tmps.getD t undef) w (fun v w2 => Below w.heap.size w w2 ∧ V i v w2) ∧
            ∀ v w2, (Below w.heap.size w w2 ∧ V i v w2) → (i ∈ fr → ∃ b, v = .pointer (some ⟨b, 0, none⟩) ∧ w.heap.size ≤ b ∧ b < w2.heap.size) → wpAny P .any l.toArray (lift N Q) fuel (L.setIfInBounds i true) (a.put o.dst v) w2 := fun i him o ho hun' hed => by
          have hiL : i < L.size := by rw [hI.ls, hnn]; omega
          have hed' : ∀ o', l.toArray[i]? = some o' → ∀ e ∈ o'.after, Region.binds .any e = true → L.getD e.on false = true := fun o' ho' => by
            rw [ho] at ho'; injection ho' with ho'; subst ho'; exact hed
          have hok' : (l.take m)[i]? = some o := by
            rw [List.getElem?_take, if_pos him]
            simpa using ho
          obtain ⟨s, hs, hstab, hog⟩ := hdo i o hok'
          rw [Nat.zero_add] at hstab hog
          have hrdi := hrd i him
          rw [ho, hs] at hrdi
          simp only [Bool.and_eq_true, List.all_eq_true] at hrdi
          have hro : RdOk V ρ (fun t => a.tmps.getD t undef) w s := rdOk_of s fun p hp => by
            have hp2 := hrdi.2 p hp
            cases hp3 : p.2 with
            | some j =>
              rw [hp3] at hp2
              simp only [Bool.and_eq_true, decide_eq_true_eq, beq_iff_eq] at hp2
              exact hI.vs j p.1 hp2.1.1 (anc_spec hM hI.cl i j hed' hp2.2) hp2.1.2
            | none =>
              rw [hp3] at hp2
              refine hI.old p.1 fun j hj hjl hjd => ?_
              have h6 := List.all_eq_true.1 hp2 j (by simpa using hj)
              rw [hjd] at h6
              simp only [beq_self_eq_true, Bool.not_true, Bool.false_or, Bool.and_eq_true] at h6
              have := anc_spec hM hI.cl j i (fun o' ho' e he hb => hI.cl j o' ho' hjl e he hb) h6.2
              rw [hun'] at this
              cases this
          have hnext : ∀ v w2, (Below w.heap.size w w2 ∧ V i v w2) → (i ∈ fr → ∃ b, v = .pointer (some ⟨b, 0, none⟩) ∧ w.heap.size ≤ b ∧ b < w2.heap.size) → wpAny P .any l.toArray (lift N Q) fuel (L.setIfInBounds i true) (a.put o.dst v) w2 := fun v w2 hv hfv => by
            have hd1 : ∀ d', o.dst = some d' → d' < a.tmps.size := fun d' hd' => by
              rw [hI.sz]
              exact hdN (i, d') (hpre i d' him (by rw [ho]; exact hd'))
            have hput : ∀ j d, j < m → j ≠ i → (l.toArray[j]?).bind (·.dst) = some d → (a.put o.dst v).tmps.getD d undef = a.tmps.getD d undef := fun j d hj hji hjd => by
              cases hod : o.dst with
              | none => rfl
              | some d' => rw [getD_put (hd1 d' hod), if_neg fun e => hji (hone j i d hj him hjd (by rw [ho, e]; exact hod))]
            have hputi : ∀ d, (l.toArray[i]?).bind (·.dst) = some d → (a.put o.dst v).tmps.getD d undef = v := fun d hd => by
              rw [ho] at hd
              simp only [Option.bind_some] at hd
              rw [hd, getD_put (hd1 d hd), if_pos rfl]
            have hfd : ∀ j ∈ fr, j ≠ i → L.getD j false = true → i ∈ fr → ∀ e, (l.toArray[j]?).bind (·.dst) = some e → a.tmps.getD e undef ≠ v := fun j hj hji hjl hif e hje heq => by
              obtain ⟨b, hb1, hb2⟩ := hI.fb j hj hjl e hje
              obtain ⟨b', hv1, hb3, _⟩ := hfv hif
              rw [hb1, hv1] at heq
              injection heq with heq
              injection heq with heq
              injection heq with heq
              omega
            refine ih _ _ _ ?_ ?_
            · refine ⟨?_, ?_, hJ _ _ hI.j hv.1, by simpa using hI.ls, ?_, ?_, ?_, ?_, ?_, ?_⟩
              · cases o.dst <;> exact hI.nd
              · cases hod : o.dst with
                | none => exact hI.sz
                | some d => simpa [Act.put] using hI.sz
              · intro k ok hk hkl e he hb
                rw [getD_set hiL] at hkl ⊢
                by_cases hki : k = i
                · subst hki
                  simp [hed' ok hk e he hb]
                · simp only [hki, decide_false, Bool.false_or] at hkl
                  simp [hI.cl k ok hk hkl e he hb]
              · intro k hk
                rw [getD_set hiL, hI.tl k hk]
                have : ¬ k = i := by omega
                simp [this]
              · intro j d hj hjl hjd
                rw [getD_set hiL] at hjl
                have hd1 : ∀ d', o.dst = some d' → d' < a.tmps.size := fun d' hd' => by
                  rw [hI.sz]
                  exact hdN (i, d') (hpre i d' him (by rw [ho]; exact hd'))
                by_cases hji : j = i
                · subst hji
                  rw [ho] at hjd
                  simp only [Option.bind_some] at hjd
                  rw [hjd, getD_put (hd1 d hjd), if_pos rfl]
                  exact hv.2
                · simp only [hji, decide_false, Bool.false_or] at hjl
                  have hold := hI.vs j d hj hjl hjd
                  have hdj : (j, d) ∈ ds := hpre j d hj hjd
                  have hst := (hdo j (l.toArray[j]?.getD default) (by
                    have : j < l.length := by omega
                    rw [List.getElem?_take, if_pos hj]
                    simp [this])).choose_spec.2.1
                  rw [Nat.zero_add] at hst
                  have hne : ∀ d', o.dst = some d' → d ≠ d' := fun d' hd' e => by
                    subst e
                    exact hji (hone j i d hj him hjd (by rw [ho]; exact hd'))
                  cases hod : o.dst with
                  | none => exact hst _ _ _ hold hv.1
                  | some d' =>
                    rw [getD_put (hd1 d' hod), if_neg (hne d' hod)]
                    exact hst _ _ _ hold hv.1
              · intro s' hs'
                have hni : ((l.toArray[i]?).bind (·.dst)) ≠ some s' := hs' i him (by rw [getD_set hiL]; simp)
                have hold := hI.old s' fun j hj hjl => hs' j hj (by rw [getD_set hiL]; simp [hjl])
                rw [ho] at hni
                simp only [Option.bind_some] at hni
                cases hod : o.dst with
                | none => exact hold
                | some d' =>
                  rw [getD_put (by rw [hI.sz]; exact hdN (i, d') (hpre i d' him (by rw [ho]; exact hod))), if_neg (fun e => hni (by rw [hod, e]))]
                  exact hold
              · intro j hj hjl d hjd
                rw [getD_set hiL] at hjl
                by_cases hji : j = i
                · subst hji
                  obtain ⟨b, hb1, _, hb3⟩ := hfv hj
                  exact ⟨b, (hputi d hjd).trans hb1, hb3⟩
                · simp only [hji, decide_false, Bool.false_or] at hjl
                  obtain ⟨b, hb1, hb2⟩ := hI.fb j hj hjl d hjd
                  exact ⟨b, (hput j d (hfm' j hj) hji hjd).trans hb1, Nat.lt_of_lt_of_le hb2 hv.1.size⟩
              · intro j hj k hk hjk hjl hkl d e hjd hke
                rw [getD_set hiL] at hjl hkl
                by_cases hji : j = i
                · subst hji
                  have hkj : k ≠ j := fun e => hjk e.symm
                  simp only [hkj, decide_false, Bool.false_or] at hkl
                  rw [hputi d hjd, hput k e (hfm' k hk) hkj hke]
                  exact fun he => hfd k hk hkj hkl hj e hke he.symm
                · simp only [hji, decide_false, Bool.false_or] at hjl
                  by_cases hki : k = i
                  · subst hki
                    rw [hputi e hke, hput j d (hfm' j hj) hji hjd]
                    exact hfd j hj hji hjl hk d hjd
                  · simp only [hki, decide_false, Bool.false_or] at hkl
                    rw [hput j d (hfm' j hj) hji hjd, hput k e (hfm' k hk) hki hke]
                    exact hI.fd j hj k hk hjk hjl hkl d e hjd hke
            · have hLi : L.toList[i]? = some false := by
                have h3 : i < L.toList.length := by simpa using hiL
                rw [List.getElem?_eq_getElem h3]
                have : L.getD i false = L.toList[i] := by simp [hiL]
                rw [← this, hun']
              rw [Array.toList_setIfInBounds, List.countP_set (by simpa using hiL)]
              have h4 : L.toList[i]'(by simpa using hiL) = false := (List.getElem?_eq_some_iff.1 hLi).2
              rw [h4]
              simp only [Bool.false_eq_true, if_false, if_true]
              omega
          exact ⟨hog _ w hI.j hro, hnext⟩
        by_cases hnf : ∀ i, i < m → i ∉ fl → L.getD i false = true
        · obtain ⟨i, him, hun'⟩ := hsome
          have hif : i ∈ fl := Classical.byContradiction fun h => by
            have h2 := hnf i him h
            rw [hun'] at h2
            cases h2
          obtain ⟨hfree, hedf, d, x, k, ty, pos, af, hlo⟩ := hfl i hif
          have ho : l.toArray[i]? = some ⟨some d, .extract x k, ty, pos, af, none⟩ := by rw [List.getElem?_toArray]; exact hlo
          have hed : ∀ e ∈ af, Region.binds .any e = true → L.getD e.on false = true := fun e he hb => by
            obtain ⟨h1, h2⟩ := hedf _ hlo e he hb
            exact hnf e.on h1 h2
          have hil : i < l.length := by omega
          have hiL : i < L.size := by rw [hI.ls, hnn]; exact hil
          have hunt : L.getD i true = false := by
            rw [Array.getD_eq_getD_getElem?] at hun' ⊢
            rw [Array.getElem?_eq_getElem hiL] at hun' ⊢
            simpa using hun'
          obtain ⟨hog, hnext⟩ := both i him _ ho hun' hed
          obtain ⟨v, hv, hk⟩ := extract_yields hog a (by rw [hI.sz]; exact hdN (i, d) (hpre i d him (by rw [ho]; rfl))) fun _ => rfl
          refine wpAny_first (v := v) ho (Region.noSelect_spec hns) (fun c a w ⟨ρ', _, hq⟩ => (hQp c ρ' w hq).elim) fuel L a w (fun j oj hj hji hjl hno => ?_) ((hready_spec i).2 ⟨hil, hunt, _, ho, hed⟩) (.inl ⟨by simp [Region.wanted], hv⟩) (hnext v w hk fun hfr' => ?_)
          · refine Region.free_spec ho hfree j oj hj hji ?_ hno
            have hjlen : j < l.length := by have := (Array.getElem?_eq_some_iff.1 hj).1; omega
            rw [flL_getD hjlen]
            rw [decide_eq_false_iff_not]
            rintro ⟨h1, h2⟩
            have h3 := hnf j h1 h2
            have hjL : j < L.size := by rw [hI.ls, hnn]; exact hjlen
            rw [Array.getD_eq_getD_getElem?] at h3 hjl
            rw [Array.getElem?_eq_getElem hjL] at h3 hjl
            simp only [Option.getD_some] at h3 hjl
            rw [h3] at hjl
            cases hjl
          · obtain ⟨d', t, ty', pos', af', n, ag, by', zc, hi1, _⟩ := hfr.at i hfr'
            rw [hlo] at hi1
            injection hi1 with hi1
            injection hi1 with _ hi1
            cases hi1
        have hsome2 : ∃ i, i < m ∧ i ∉ fl ∧ L.getD i false = false := by
          refine Classical.byContradiction fun hn => hnf fun i hi hif => ?_
          cases hc2 : L.getD i false with
          | true => rfl
          | false => exact absurd ⟨i, hi, hif, hc2⟩ hn
        refine ⟨fun hnil => ?_, fun i hi => ?_⟩
        · exfalso
          -- the least one that is not listed may come up
          have hmin : ∀ k, (∃ i, i < k ∧ i < m ∧ L.getD i false = false) → ∃ i, i < m ∧ L.getD i false = false ∧ ∀ j, j < i → L.getD j false = true := by
            intro k
            induction k with
            | zero => rintro ⟨i, h, _⟩; omega
            | succ k ihk =>
              rintro ⟨i, h1, h2, h3⟩
              by_cases hex : ∃ i, i < k ∧ i < m ∧ L.getD i false = false
              · exact ihk hex
              · have hik : i = k := by
                  rcases Nat.lt_or_ge i k with h | h
                  · exact absurd ⟨i, h, h2, h3⟩ hex
                  · omega
                subst hik
                refine ⟨i, h2, h3, fun j hj => ?_⟩
                cases hc2 : L.getD j false with
                | true => rfl
                | false => exact absurd ⟨j, hj, by omega, hc2⟩ hex
          obtain ⟨i0, h1, h2⟩ := hsome
          obtain ⟨i, hi, hu, hlow⟩ := hmin (i0 + 1) ⟨i0, by omega, h1, h2⟩
          have hil : i < l.length := by omega
          have hE := hedge i hil
          have ho : l.toArray[i]? = some l[i] := by simp [hil]
          rw [ho] at hE
          have hmem : i ∈ Region.ready .any l.toArray L := (hready_spec i).2 ⟨hil, by
            have h3 : i < L.size := by rw [hI.ls, hnn]; exact hil
            rw [Array.getD_eq_getD_getElem?] at hu ⊢
            rw [Array.getElem?_eq_getElem h3] at hu ⊢
            simpa using hu, l[i], ho, fun e he hb => by
            have := Array.all_eq_true'.1 hE e he
            simp only [hb, Bool.not_true, Bool.false_or, decide_eq_true_eq] at this
            exact hlow _ this⟩
          rw [hnil] at hmem
          cases hmem
        · obtain ⟨hil, hun, o, ho, hed⟩ := (hready_spec i).1 hi
          have hiL : i < L.size := by rw [hI.ls, hnn]; exact hil
          have hun' : L.getD i false = false := by
            rw [Array.getD_eq_getD_getElem?] at hun ⊢
            rw [Array.getElem?_eq_getElem hiL] at hun ⊢
            simpa using hun
          have hed' : ∀ o', l.toArray[i]? = some o' → ∀ e ∈ o'.after, Region.binds .any e = true → L.getD e.on false = true := fun o' ho' => by
            rw [ho] at ho'; injection ho' with ho'; subst ho'; exact hed
          have him : i < m := by
            rcases Nat.lt_or_ge i m with h | h
            · exact h
            · exfalso
              rcases Nat.lt_or_ge m i with h2 | h2
              · have h3 := hdep (i - m) (by omega)
                rw [show m + (i - m) = i by omega] at h3
                have h4 : (i - m == 0) = false := by simp; omega
                rw [h4, Bool.false_or] at h3
                have := anc_spec hM hI.cl i m hed' h3
                rw [hI.tl m (Nat.le_refl _)] at this
                cases this
              · obtain rfl : i = m := by omega
                have h4 : (l.length == i) = false := by simp; omega
                rw [h4, Bool.false_or] at htail
                have h5 := List.all_eq_true.1 htail
                obtain ⟨j, hj, hjf, hju⟩ := hsome2
                have h6 := h5 j (by simpa using hj)
                have h7 : fl.contains j = false := by simpa using hjf
                rw [h7, Bool.false_or] at h6
                have := anc_spec hM hI.cl i j hed' h6
                rw [hju] at this
                cases this
          obtain ⟨hog, hnext⟩ := both i him o ho hun' hed
          have hgo : if Region.wanted o (yielded l.toArray a.tmps) then (o.wp P a w (wpAny P .any l.toArray (lift N Q) fuel (L.setIfInBounds i true)) (lift N Q)) ∨ ((o.asks P a w) ∧ LetsOut (lift N Q)) else wpAny P .any l.toArray (lift N Q) fuel (L.setIfInBounds i true) (a.put o.dst undef) w := by
            by_cases hif : i ∈ fr
            · obtain ⟨d, t, ty, pos, af, n, ag, by', zc, hi1, ht⟩ := hfr.at i hif
              have ho2 : o = ⟨some d, .alloc t, ty, pos, af, none⟩ := by
                have h7 := ho
                rw [List.getElem?_toArray, hi1] at h7
                injection h7 with h7
                exact h7.symm
              have hds : d < a.tmps.size := by
                rw [hI.sz]
                exact hdN (i, d) (hpre i d him (by rw [ho, ho2]; rfl))
              subst ho2
              exact og_fresh ht hog a hds _ _ (fun _ => rfl) fun v w' hk hb => hnext v w' hk fun _ => hb
            · exact hog.out a _ _ (fun _ => rfl) fun v w2 hv => hnext v w2 hv fun h => absurd h hif
          unfold wpOp
          rw [ho]
          exact hgo
  have hJ0 : J ({ w with drawn := w.drawn + 1 } : World) := hJ w _ h0 ⟨rfl, rfl, rfl, Nat.le_refl _, fun _ _ => rfl⟩
  have hr0 : ∀ i, (Array.replicate l.toArray.size false).getD i false = false := fun i => by
    rw [Array.getD_eq_getD_getElem?, Array.getElem?_replicate]; split <;> rfl
  refine key _ _ _ _ ⟨hf.nd, hf.sz, hJ0, by simp, fun k o _ hk => ?_, fun k _ => hr0 k, fun i d _ hi => ?_, fun s _ => hf.at_ s, fun i _ hi => ?_, fun i _ j _ _ hi => ?_⟩ ?_
  · rw [hr0] at hk; cases hk
  · rw [hr0] at hi; cases hi
  · rw [hr0] at hi; cases hi
  · rw [hr0] at hi; cases hi
  · simp [List.countP_replicate]
theorem JJ.newVar2 {w0 : World} {H : List HE} {w W : World} {t t' : TypeId} {cs cs' : List Value} {b b' : Nat} (h : JJ w0 H w W) (hs : Hp w0 H w) (h2 : w.heap.size ≤ b) (h3 : W.heap[b]? = some (.cells cs.toArray t (0, 0)))
    (h2' : w.heap.size ≤ b') (h3' : W.heap[b']? = some (.cells cs'.toArray t' (0, 0))) (hbb : b ≠ b') : Hp w0 (.blk b' t' cs' (0, 0) :: .blk b t cs (0, 0) :: H) W := by
  have h1 := h.newVar hs h2 h3
  refine ⟨h.hp.below, ?_, ?_⟩
  · intro y hy
    rcases List.mem_cons.1 hy with rfl | hy
    · exact ⟨Nat.le_trans hs.size h2', h3', .inr (Nat.le_refl _)⟩
    · exact h1.own y hy
  · rw [List.filterMap_cons, List.filterMap_cons]
    show (b' :: b :: H.filterMap HE.id).Nodup
    have hn : ∀ c, w.heap.size ≤ c → c ∉ H.filterMap HE.id := fun c hc hm => by
      obtain ⟨y, hy, hyb⟩ := List.mem_filterMap.1 hm
      have := (holds_lt (hs.own y hy) hyb).2
      omega
    refine List.nodup_cons.2 ⟨fun hm => ?_, List.nodup_cons.2 ⟨hn b h2, h.hp.nd⟩⟩
    rcases List.mem_cons.1 hm with e | hm
    · exact hbb e.symm
    · exact hn b' h2' hm
end
theorem wc_drawn2 {P : Program} {N : Nat} {ρ : Rf} {w : World} {Q : Kq} {id : Nat} {l : List Oper} (fr fl M : List Nat) (m : Nat) (src : List (List (Nat × Option Nat))) (ds : List (Nat × Nat)) {w0 : World} {H : List HE} (hh : Hp w0 H w) (hm : P.follows .mixedOrders = true) (hok : drawOk3 l m N src ds fl M = true)
    (hfr : AlOk P l fr) (hfm : fr.all (fun i => i < m) = true) (hQp : NP Q)
    (h : DX P l.toArray (JJ w0 H w) ρ (fun V => ∀ f w', JJ w0 H w w' → AllV V f w' ds → (∀ i ∈ fr, ∀ j ∈ fr, i ≠ j → f i ≠ f j) → WL P N l.toArray Q (l.drop m) (updL ρ f ds) w') 0 noV (l.take m) src) : WC P N (.region id l.toArray true) Q ρ w := by
  obtain ⟨V, _, h1, h2⟩ := dx_do _ _ _ _ (fun _ _ _ _ => trivial) h
  exact wc_draw2 fr fl M m src ds (JJ w0 H w) V hm hok hfr hfm hQp (fun _ _ h hb => h.ext hb) (JJ.start hh) h1 h2
/-- What the two values' blocks have to do with each other. -/
theorem ptr_ne {f : Nat → Value} {i j b b' : Nat} {fr : List Nat} (h : ∀ i ∈ fr, ∀ j ∈ fr, i ≠ j → f i ≠ f j) (hi : i ∈ fr) (hj : j ∈ fr) (hij : i ≠ j) (h1 : f i = .pointer (some ⟨b, 0, none⟩)) (h2 : f j = .pointer (some ⟨b', 0, none⟩)) : b ≠ b' := fun e => h i hi j hj hij (by rw [h1, h2, e])
end Go.Proofs.YthmmofllajkejaaGreatDoor
