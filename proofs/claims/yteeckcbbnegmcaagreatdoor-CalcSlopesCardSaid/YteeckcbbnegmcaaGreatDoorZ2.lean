/- Lemmas for calcSlopes, part 2. -/
import Derived.Deep.AppendSrc
import Derived.Deep.Upon
import Init
import Derived.Laws.Externs
import Derived.Lib.Mul64
import Derived.Test.YteeckcbbnegmcaaGreatDoorZ1
/- Several texts in one: Draw, Recs, DrawB, DrawC, OpsA, OpsP, Tree, DrawD, DrawE, DrawF. -/
namespace Go.Proofs.YteeckcbbnegmcaaGreatDoor
open Go.RowKit
variable {D : List Deferred}
section
variable {P : Program} {N : Nat} {Q : Kq} {ρ : Rf} {w : World}
def A5 (ops : Array Oper) : Nat → Nat → Nat → Bool
 | 0, _, _ => false
 | n + 1, k, i => match ops[k]? with
  | none => false
  | some o => (o.after.any fun e => Region.binds .any e && e.on == i) || o.after.any fun e => Region.binds .any e && A5 ops n e.on i
def mz (ops : Array Oper) (L : Array Bool) : Prop := ∀ k o, ops[k]? = some o → L.getD k false = true → ∀ e ∈ o.after, Region.binds .any e = true → L.getD e.on false = true
theorem jN {ops : Array Oper} {L : Array Bool} (hc : mz ops L) : ∀ (n k i : Nat), (∀ o, ops[k]? = some o → ∀ e ∈ o.after, Region.binds .any e = true → L.getD e.on false = true) → A5 ops n k i = true → L.getD i false = true
 | 0, _, _, _, h => by simp [A5] at h
 | n + 1, k, i, hk, h => by
  unfold A5 at h;split at h
  ·cases h
  ·rename_i o ho;rw [Bool.or_eq_true] at h
   rcases h with h | h
   ·obtain ⟨e, he, h⟩ := Array.any_eq_true'.1 h;simp only [Bool.and_eq_true, beq_iff_eq] at h;rw [← h.2];exact hk o ho e he h.1
   ·obtain ⟨e, he, h⟩ := Array.any_eq_true'.1 h;simp only [Bool.and_eq_true] at h;have h1 := hk o ho e he h.1;exact jN hc n e.on i (fun o' ho' => hc e.on o' ho' h1) h.2
structure OG (P : Program) (ops : Array Oper) (o : Oper) (ρ : Rf) (w : World) (K : Value → World → Prop) : Prop where
 out : ∀ (a : Act) (next : Act → World → Prop) (Q : Exit → Act → World → Prop), (∀ i, a.tmps.getD i undef = ρ i) → (∀ v w', K v w' → next (a.put o.dst v) w') →
  if Region.wanted o (yielded ops a.tmps) then o.wp P a w next Q ∨ (o.asks P a w ∧ LetsOut Q) else next (a.put o.dst undef) w
theorem vB {a : Act} (h : ∀ i, a.tmps.getD i undef = ρ i) : a.eval = ev ρ := by
 funext x
 cases x with
 | tmp t => exact h t
 | _ => rfl
theorem bW {ops : Array Oper} {o : Oper} {K : Value → World → Prop} {v : Value} {w' : World} (hg : o.guard = none) (hr : (execOp (ev ρ) o).run P w = .ok (.value v) w') (hk : K v w') : OG P ops o ρ w K :=
 ⟨fun a next Q ha hn => by
  rw [if_pos (by simp [Region.wanted, hg])];refine .inl ?_;unfold Oper.wp;rw [vB ha, hr];exact hn _ _ hk⟩
theorem bJ {ops : Array Oper} {o : Oper} {K : Value → World → Prop} {f : FuncId} {args : Array Value} {w1 : World} {R : Ending → World → Prop} (hg : o.guard = none) (hr : (execOp (ev ρ) o).run P w = .ok (.enter f args) w1) (hc : Calls P f args w1 R)
  (hk : ∀ e w', R e w' → ∃ v, e = .returned v ∧ K v w') : OG P ops o ρ w K :=
 ⟨fun a next Q ha hn => by
  rw [if_pos (by simp [Region.wanted, hg])];refine .inl ?_;unfold Oper.wp;rw [vB ha, hr];show Calls P f args w1 _;refine hc.mono fun e w' hR => ?_;obtain ⟨v, rfl, hkv⟩ := hk e w' hR;exact hn _ _ hkv⟩
theorem cD {ops : Array Oper} {K : Value → World → Prop} {d : Option Nat} {op : Op} {ty : TypeId} {pos : String} {af : Array Edge} {j dj : Nat} {b : Bool}
  (hj : (ops[j]?).bind (·.dst) = some dj) (hv : ρ dj = .bool b) (h : OG P ops ⟨d, op, ty, pos, af, none⟩ ρ w K) : OG P ops ⟨d, op, ty, pos, af, some (j, b)⟩ ρ w K :=
 ⟨fun a next Q ha hn => by
  have h1 : Region.wanted ⟨d, op, ty, pos, af, some (j, b)⟩ (yielded ops a.tmps) = true := by
   have h2 := ha dj;rw [hv, Array.getD_eq_getD_getElem?] at h2
   cases h3 : a.tmps[dj]? with
   | none => rw [h3] at h2; cases h2
   | some x =>
    rw [h3] at h2;simp only [Option.getD_some] at h2;subst h2;simp [Region.wanted, yielded, hj, h3]
  have h2 := h.out a next Q ha hn;rw [if_pos (by simp [Region.wanted])] at h2;rw [if_pos h1];exact h2⟩
theorem pP {ops : Array Oper} {K : Value → World → Prop} {d : Option Nat} {op : Op} {ty : TypeId} {pos : String} {af : Array Edge} {j dj : Nat} {b c : Bool}
  (hj : (ops[j]?).bind (·.dst) = some dj) (hv : ρ dj = .bool c) (hb : c ≠ b) (h : K undef w) : OG P ops ⟨d, op, ty, pos, af, some (j, b)⟩ ρ w K :=
 ⟨fun a next Q ha hn => by
  have h1 : Region.wanted ⟨d, op, ty, pos, af, some (j, b)⟩ (yielded ops a.tmps) = false := by
   have h2 := ha dj;rw [hv, Array.getD_eq_getD_getElem?] at h2
   cases h3 : a.tmps[dj]? with
   | none => rw [h3] at h2; cases h2
   | some x =>
    rw [h3] at h2;simp only [Option.getD_some] at h2;subst h2;simp [Region.wanted, yielded, hj, h3, hb]
  rw [h1];exact hn _ _ h⟩
def cG (V : Nat → Value → World → Prop) (ρ ρ1 : Rf) (w1 : World) : List (Nat × Option Nat) → Prop
 | [] => True
 | (t, some j) :: r => V j (ρ1 t) w1 ∧ cG V ρ ρ1 w1 r
 | (t, none) :: r => ρ1 t = ρ t ∧ cG V ρ ρ1 w1 r
def DO (P : Program) (ops : Array Oper) (J : World → Prop) (V : Nat → Value → World → Prop) (ρ : Rf) : Nat → List Oper → List (List (Nat × Option Nat)) → Prop
 | i, o :: os, s :: ss => ((∀ v w w', V i v w → Below w.heap.size w w' → V i v w') ∧ ∀ ρ1 w1, J w1 → cG V ρ ρ1 w1 s → OG P ops o ρ1 w1 fun v w2 => Below w1.heap.size w1 w2 ∧ V i v w2) ∧ DO P ops J V ρ (i + 1) os ss
 | _, [], [] => True
 | _, _, _ => False
theorem vK {ops : Array Oper} {J : World → Prop} {V : Nat → Value → World → Prop} : ∀ (l : List Oper) (ss : List (List (Nat × Option Nat))) (i : Nat), DO P ops J V ρ i l ss → l.length = ss.length ∧ ∀ k o, l[k]? = some o → ∃ s, ss[k]? = some s ∧
  (∀ v w w', V (i + k) v w → Below w.heap.size w w' → V (i + k) v w') ∧ ∀ ρ1 w1, J w1 → cG V ρ ρ1 w1 s → OG P ops o ρ1 w1 fun v w2 => Below w1.heap.size w1 w2 ∧ V (i + k) v w2
 | [], [], _, _ => ⟨rfl, fun k o h => by simp at h⟩
 | [], _ :: _, _, h => h.elim
 | _ :: _, [], _, h => h.elim
 | o :: l, s :: ss, i, h => by
  obtain ⟨h1, h2⟩ := vK l ss (i + 1) h.2;refine ⟨by simp [h1], fun k o' hk => ?_⟩
  cases k with
  | zero =>
   simp only [List.getElem?_cons_zero, Option.some.injEq] at hk;subst hk;exact ⟨s, rfl, h.1⟩
  | succ k =>
   obtain ⟨s', hs, h3⟩ := h2 k o' (by simpa using hk);refine ⟨s', by simpa using hs, ?_⟩;have e : i + 1 + k = i + (k + 1) := Dq;rw [e] at h3;exact h3
def iC (ρ : Rf) (f : Nat → Value) : List (Nat × Nat) → Rf
 | [] => ρ
 | (i, d) :: r => cx (iC ρ f r) d (f i)
def sO (V : Nat → Value → World → Prop) (f : Nat → Value) (w : World) : List (Nat × Nat) → Prop
 | [] => True
 | (i, _) :: r => V i (f i) w ∧ sO V f w r
def fu (n k : Nat) : Array Bool := (List.replicate k true ++ List.replicate (n - k) false).toArray
def uH (l : List Oper) (m N : Nat) (src : List (List (Nat × Option Nat))) (ds : List (Nat × Nat)) : Bool :=
 let ops := l.toArray
 let pre := (List.range m).map fun i => ((ops[i]?).bind (·.dst))
 (m ≤ l.length) && (src.length == m) &&
 (ds == (pre.zipIdx.filterMap fun (d, i) => d.map fun d => (i, d)).reverse) && (decide (ds.map (·.2)).Nodup) && (ds.all fun p => p.2 < N) &&
 ((List.range m).all fun i => match ops[i]?, src[i]? with
  | some o, some s => ((o.looksAt ops).all fun t => s.any fun p => p.1 == t) &&
    s.all fun p => match p.2 with
     | some j => (j < m) && ((ops[j]?).bind (·.dst) == some p.1) && A5 ops 16 i j
     | none => (List.range m).all fun j => !((ops[j]?).bind (·.dst) == some p.1) || (j != i && A5 ops 16 j i)
  | _, _ => false) &&
 (l.length == m || ((List.range m).all fun i => A5 ops 16 m i)) &&
 ((List.range (l.length - m)).all fun k => Region.ready .any ops (fu l.length (m + k)) == [m + k]) && (Region.ready .any ops (fu l.length l.length) == []) &&
 ((List.range (l.length - m)).all fun k => k == 0 || A5 ops 16 (m + k) m) &&
 ((List.range l.length).all fun i => match ops[i]? with | some o => o.after.all fun e => !Region.binds .any e || e.on < i | none => false)
theorem wB (n k i : Nat) : (fu n k).getD i false = decide (i < k) := by
 unfold fu;rw [Array.getD_eq_getD_getElem?, List.getElem?_toArray]
 rcases Nat.lt_or_ge i k with h | h
 ·rw [List.getElem?_append_left (by simpa using h)];simp [h]
 ·rw [List.getElem?_append_right (by simpa using h), List.getElem?_replicate];have : ¬ i < k := Dq;split <;> simp [this]
theorem yF (n k : Nat) (hk : k < n) : (fu n k).setIfInBounds k true = fu n (k + 1) := by
 unfold fu;rw [List.setIfInBounds_toArray];congr 1;apply List.ext_getElem?;intro i;rw [List.getElem?_set];simp only [List.getElem?_append, List.length_replicate, List.getElem?_replicate, List.length_append];by_cases h1 : k = i
 ·subst h1;rw [if_pos rfl, if_pos Dq, if_pos (show k < k + 1 by omega), if_pos (show k < k + 1 by omega)]
 ·rw [if_neg h1];by_cases h2 : i < k
  ·rw [if_pos h2, if_pos h2, if_pos (show i < k + 1 by omega), if_pos (show i < k + 1 by omega)]
  ·rw [if_neg h2, if_neg (show ¬ i < k + 1 by omega)];by_cases h3 : i - k < n - k
   ·rw [if_pos h3, if_pos (show i - (k + 1) < n - (k + 1) by omega)]
   ·rw [if_neg h3, if_neg (show ¬ i - (k + 1) < n - (k + 1) by omega)]
theorem wJ (n k : Nat) (hk : k ≤ n) : (fu n k).size = n := by simp [fu]; omega
theorem n0 (n k : Nat) : (fu n k).toList.countP (fun b => b) = k := by
 simp [fu, List.countP_replicate]
theorem j2 {L : Array Bool} {n k : Nat} (hs : L.size = n) (hk : k ≤ n) (h1 : ∀ i, i < k → L.getD i false = true) (h2 : ∀ i, k ≤ i → L.getD i false = false) : L = fu n k := by
 apply Array.ext
 ·rw [hs, wJ n k hk]
 ·intro i hi hi2;have e1 : L[i] = L.getD i false := by simp [hi]
  have e2 : (fu n k)[i] = (fu n k).getD i false := by simp [hi2]
  rw [e1, e2, wB n k i]
  rcases Nat.lt_or_ge i k with h | h
  ·rw [h1 i h]; simp [h]
  ·rw [h2 i h];have : ¬ i < k := Dq;simp [this]
theorem lf {l : List Oper} {Q' : Exit → Act → World → Prop} (m : Nat)
  (hr : ∀ k, m ≤ k → k < l.length → Region.ready .any l.toArray (fu l.length k) = [k]) (hend : Region.ready .any l.toArray (fu l.length l.length) = []) :
  ∀ (fuel k : Nat) (a : Act) (w : World), m ≤ k → k ≤ l.length → l.length ≤ fuel + k → wpList P l.toArray Q' (l.drop k) a w → wpAny P .any l.toArray Q' fuel (fu l.length k) a w
 | fuel, k, a, w, hmk, hk, hf, h => by
  rcases Nat.lt_or_ge k l.length with hlt | hge
  ·cases fuel with
   | zero => omega
   | succ fuel =>
    refine wpAny_all (hr k hmk hlt) (by simp) fun i hi => ?_;obtain rfl : i = k := by simpa using hi
    rw [List.drop_eq_getElem_cons hlt] at h;unfold wpList at h;have ho : l.toArray[i]? = some l[i] := by simp [hlt]
    have hset := yF l.length i hlt;have hgo : ∀ a w, wpList P l.toArray Q' (l.drop (i + 1)) a w → wpAny P .any l.toArray Q' fuel ((fu l.length i).setIfInBounds i true) a w := fun a w h => by
     rw [hset];exact lf m hr hend fuel (i + 1) a w Dq Dq Dq h
    unfold wpOp;rw [ho];simp only [];split at h
    ·rename_i hw;rw [if_pos hw];exact h.imp (Oper.wp_mono hgo) id
    ·rename_i hw;rw [if_neg hw];exact hgo _ _ h
  ·obtain rfl : k = l.length := Dq;rw [List.drop_length] at h;exact wpAny_done hend h fuel
structure DI (D : List Deferred) (N : Nat) (ops : Array Oper) (m : Nat) (ρ : Rf) (J : World → Prop) (V : Nat → Value → World → Prop) (L : Array Bool) (a : Act) (w : World) : Prop where
 nd : a.defers = D
 sz : a.tmps.size = N
 j : J w
 ls : L.size = ops.size
 cl : mz ops L
 tl : ∀ k, m ≤ k → L.getD k false = false
 vs : ∀ i d, i < m → L.getD i false = true → (ops[i]?).bind (·.dst) = some d → V i (a.tmps.getD d undef) w
 yt : ∀ s, (∀ i, i < m → L.getD i false = true → (ops[i]?).bind (·.dst) ≠ some s) → a.tmps.getD s undef = ρ s
theorem dx {L : Array Bool} {i j : Nat} (hi : i < L.size) : (L.setIfInBounds i true).getD j false = (decide (j = i) || L.getD j false) := by
 rw [Array.getD_eq_getD_getElem?, Array.getElem?_setIfInBounds];by_cases h : i = j
 ·subst h; simp [hi]
 ·have : ¬ j = i := fun e => h e.symm;simp [h, this]
theorem dL {a : Act} {d s : Nat} {v : Value} (hd : d < a.tmps.size) : (a.put (some d) v).tmps.getD s undef = if s = d then v else a.tmps.getD s undef := by
 by_cases h : s = d
 ·subst h; simp [Act.put, hd]
 ·have : d ≠ s := fun e => h e.symm;simp [Act.put, Array.getElem?_setIfInBounds_ne this, h]
theorem eP (f : Nat → Value) : ∀ (ds : List (Nat × Nat)) (s : Nat), (ds.map (·.2)).Nodup → (∀ i, (i, s) ∈ ds → iC ρ f ds s = f i) ∧ ((∀ i, (i, s) ∉ ds) → iC ρ f ds s = ρ s)
 | [], s, _ => ⟨fun i h => by simp at h, fun _ => rfl⟩
 | (j, d) :: r, s, h => by
  rw [List.map_cons, List.nodup_cons] at h;obtain ⟨h1, h2⟩ := eP f r s h.2;constructor
  ·intro i hi
   rcases List.mem_cons.1 hi with hi' | hi'
   ·injection hi' with e1 e2
    subst e1; subst e2;exact lK _ _ _
   ·have hne : s ≠ d := fun e => h.1 (e ▸ List.mem_map.2 ⟨_, hi', rfl⟩);exact (gm _ hne _).trans (h1 i hi')
  ·intro hn;have hne : s ≠ d := by
    rintro rfl;exact hn j List.mem_cons_self
   exact (gm _ hne _).trans (h2 fun i hi => hn i (List.mem_cons_of_mem _ hi))
theorem nH {V : Nat → Value → World → Prop} {f : Nat → Value} {w : World} : ∀ (ds : List (Nat × Nat)), (∀ p ∈ ds, V p.1 (f p.1) w) → sO V f w ds
 | [], _ => trivial
 | (i, d) :: r, h => ⟨h (i, d) List.mem_cons_self, nH r fun p hp => h p (List.mem_cons_of_mem _ hp)⟩
theorem lW {V : Nat → Value → World → Prop} {ρ1 : Rf} {w1 : World} : ∀ (s : List (Nat × Option Nat)), (∀ p ∈ s, match p.2 with | some j => V j (ρ1 p.1) w1 | none => ρ1 p.1 = ρ p.1) → cG V ρ ρ1 w1 s
 | [], _ => trivial
 | (t, some j) :: r, h => ⟨h (t, some j) List.mem_cons_self, lW r fun p hp => h p (List.mem_cons_of_mem _ hp)⟩
 | (t, none) :: r, h => ⟨h (t, none) List.mem_cons_self, lW r fun p hp => h p (List.mem_cons_of_mem _ hp)⟩
theorem zI {id : Nat} {l : List Oper} (m : Nat) (src : List (List (Nat × Option Nat))) (ds : List (Nat × Nat)) (J : World → Prop) (V : Nat → Value → World → Prop) (hm : P.follows .mixedOrders = true) (hok : uH l m N src ds = true)
  (hJ : ∀ w w', J w → Below w.heap.size w w' → J w') (h0 : J w) (hops : DO P l.toArray J V ρ 0 (l.take m) src)
  (tail : ∀ f w', J w' → sO V f w' ds → WL ⟨none, D, false⟩ P N l.toArray Q (l.drop m) (iC ρ f ds) w') : WC ⟨none, D, false⟩ P N (.region id l.toArray true) Q ρ w := by
 refine WC.lJ fun a hf => wp_region_any hm ?_;simp only [uH, Bool.and_eq_true, decide_eq_true_eq, beq_iff_eq, List.all_eq_true, List.mem_range] at hok;obtain ⟨⟨⟨⟨⟨⟨⟨⟨⟨⟨hml, _⟩, hds⟩, hnd⟩, hdN⟩, hrd⟩, htail⟩, hready⟩, hend⟩, hdep⟩, hedge⟩ := hok;have hdo := (vK _ _ _ hops).2;have hpre : ∀ i d, i < m → ((l.toArray[i]?).bind (·.dst)) = some d → (i, d) ∈ ds := fun i d hi hd => by
  rw [hds, List.mem_reverse, List.mem_filterMap];refine ⟨(some d, i), ?_, rfl⟩;rw [List.mem_zipIdx_iff_getElem?];rw [List.getElem?_map, List.getElem?_range hi];simp only [Option.map_some, hd]
 have hdsm : ∀ i d, (i, d) ∈ ds → i < m ∧ ((l.toArray[i]?).bind (·.dst)) = some d := fun i d hp => by
  rw [hds, List.mem_reverse, List.mem_filterMap] at hp;obtain ⟨⟨x, k⟩, hx, hxe⟩ := hp;rw [List.mem_zipIdx_iff_getElem?] at hx
  cases x with
  | none => simp at hxe
  | some d' =>
   simp only [Option.map_some, Option.some.injEq, Prod.mk.injEq] at hxe;obtain ⟨rfl, rfl⟩ := hxe;rw [List.getElem?_map] at hx
   cases hr : (List.range m)[k]? with
   | none => rw [hr] at hx; simp at hx
   | some y =>
    have hkm : k < m := by
     have := (List.getElem?_eq_some_iff.1 hr).1;simpa using this
    rw [List.getElem?_range hkm] at hx;simp only [Option.map_some, Option.some.injEq] at hx;exact ⟨hkm, hx⟩
 have hone : ∀ i j d, i < m → j < m → ((l.toArray[i]?).bind (·.dst)) = some d → ((l.toArray[j]?).bind (·.dst)) = some d → i = j := fun i j d hi hj h1 h2 => by
  have p1 := hpre i d hi h1;have p2 := hpre j d hj h2;have e1 := ((eP (ρ := ρ) (fun i => .int .i64 i) ds d hnd).1 i p1).symm.trans ((eP (ρ := ρ) (fun i => .int .i64 i) ds d hnd).1 j p2);injection e1 with _ e1
  omega
 have hnn : l.toArray.size = l.length := by simp
 have full : ∀ (L : Array Bool) (a : Act) (w : World) (fuel : Nat), DI D N l.toArray m ρ J V L a w → (∀ i, i < m → L.getD i false = true) → l.length ≤ fuel + m → wpAny P .any l.toArray (eO N D Q) fuel L a w := by
  intro L a w fuel hI hall hfu;have hL : L = fu l.length m := j2 (by rw [hI.ls, hnn]) hml hall hI.tl;rw [hL];refine lf m (fun k h1 h2 => ?_) hend fuel m a w (Nat.le_refl _) hml hfu ?_
  ·have := hready (k - m) Dq;rwa [show m + (k - m) = k by omega] at this
  ·have hfits : fi N D a (iC ρ (fun i => match (l.toArray[i]?).bind (·.dst) with | some d => a.tmps.getD d undef | none => undef) ds) := by
    refine ⟨hI.nd, hI.sz, fun s => ?_⟩;by_cases hs : ∃ i, (i, s) ∈ ds
    ·obtain ⟨i, hi⟩ := hs;rw [(eP _ ds s hnd).1 i hi, (hdsm i s hi).2]
    ·rw [(eP _ ds s hnd).2 fun i hi => hs ⟨i, hi⟩];exact hI.yt s fun i hi _ hd => hs ⟨i, hpre i s hi hd⟩
   refine (tail _ w hI.j (nH ds fun p hp => ?_)).out a hfits;obtain ⟨h1, h2⟩ := hdsm p.1 p.2 hp;have := hI.vs p.1 p.2 h1 (hall _ h1) h2;rw [h2];exact this
 have key : ∀ (fuel : Nat) (L : Array Bool) (a : Act) (w : World), DI D N l.toArray m ρ J V L a w → fuel + L.toList.countP (fun b => b) = l.length → wpAny P .any l.toArray (eO N D Q) fuel L a w := by
  intro fuel
  induction fuel with
  | zero =>
   intro L a w hI hc;have hall : ∀ i, i < l.length → L.getD i false = true := fun i hi => by
    have h1 : L.toList.countP (fun b => b) = L.toList.length := by
     have := hI.ls; simp only [Array.length_toList]; omega
    have h2 := List.countP_eq_length.1 h1;have h3 : i < L.size := by rw [hI.ls, hnn]; exact hi
    have := h2 L[i] (by simp);simpa [h3] using this
   have hmn : l.length ≤ 0 + m := by
    rcases Nat.lt_or_ge m l.length with h | h
    ·have h1 := hall m h;rw [hI.tl m (Nat.le_refl _)] at h1
     cases h1
    ·omega
   exact full L a w 0 hI (fun i hi => hall i Dq) hmn
  | succ fuel ih =>
   intro L a w hI hc;by_cases hall : ∀ i, i < m → L.getD i false = true
   ·refine full L a w (fuel + 1) hI hall ?_;have hL : L = fu l.length m := j2 (by rw [hI.ls, hnn]) hml hall hI.tl;rw [hL, n0] at hc;omega
   ·have hsome : ∃ i, i < m ∧ L.getD i false = false := by
     refine Classical.byContradiction fun hn => hall fun i hi => ?_
     cases hc2 : L.getD i false with
     | true => rfl
     | false => exact absurd ⟨i, hi, hc2⟩ hn
    have hready_spec : ∀ i, i ∈ Region.ready .any l.toArray L ↔ i < l.length ∧ L.getD i true = false ∧ ∃ o, l.toArray[i]? = some o ∧ ∀ e ∈ o.after, Region.binds .any e = true → L.getD e.on false = true := fun i => by
     unfold Region.ready;rw [List.mem_filter, List.mem_range, hnn];constructor
     ·rintro ⟨h1, h2⟩;have ho : l.toArray[i]? = some l[i] := by simp [h1]
      rw [ho] at h2;simp only [Option.map_some, Option.getD_some, Bool.and_eq_true, Bool.not_eq_true'] at h2;refine ⟨h1, h2.1, l[i], ho, fun e he hb => ?_⟩;have := Array.all_eq_true'.1 h2.2 e he;simpa [hb] using this
     ·rintro ⟨h1, h2, o, ho, h3⟩;refine ⟨h1, ?_⟩;rw [ho];simp only [Option.map_some, Option.getD_some, Bool.and_eq_true, Bool.not_eq_true'];refine ⟨h2, Array.all_eq_true'.2 fun e he => ?_⟩
      cases hb : Region.binds .any e with
      | false => simp
      | true => simpa [hb] using h3 e he hb
    refine ⟨fun hnil => ?_, fun i hi => ?_⟩
    ·exfalso;have hmin : ∀ k, (∃ i, i < k ∧ i < m ∧ L.getD i false = false) → ∃ i, i < m ∧ L.getD i false = false ∧ ∀ j, j < i → L.getD j false = true := by
      intro k
      induction k with
      | zero => rintro ⟨i, h, _⟩; omega
      | succ k ihk =>
       rintro ⟨i, h1, h2, h3⟩;by_cases hex : ∃ i, i < k ∧ i < m ∧ L.getD i false = false
       ·exact ihk hex
       ·have hik : i = k := by
         rcases Nat.lt_or_ge i k with h | h
         ·exact absurd ⟨i, h, h2, h3⟩ hex
         ·omega
        subst hik;refine ⟨i, h2, h3, fun j hj => ?_⟩
        cases hc2 : L.getD j false with
        | true => rfl
        | false => exact absurd ⟨j, hj, Dq, hc2⟩ hex
     obtain ⟨i0, h1, h2⟩ := hsome;obtain ⟨i, hi, hu, hlow⟩ := hmin (i0 + 1) ⟨i0, Dq, h1, h2⟩;have hil : i < l.length := Dq;have hE := hedge i hil;have ho : l.toArray[i]? = some l[i] := by simp [hil]
     rw [ho] at hE;have hmem : i ∈ Region.ready .any l.toArray L := (hready_spec i).2 ⟨hil, by
      have h3 : i < L.size := by rw [hI.ls, hnn]; exact hil
      rw [Array.getD_eq_getD_getElem?] at hu ⊢;rw [Array.getElem?_eq_getElem h3] at hu ⊢;simpa using hu, l[i], ho, fun e he hb => by
      have := Array.all_eq_true'.1 hE e he;simp only [hb, Bool.not_true, Bool.false_or, decide_eq_true_eq] at this;exact hlow _ this⟩
     rw [hnil] at hmem
     cases hmem
    ·obtain ⟨hil, hun, o, ho, hed⟩ := (hready_spec i).1 hi;have hiL : i < L.size := by rw [hI.ls, hnn]; exact hil
     have hun' : L.getD i false = false := by
      rw [Array.getD_eq_getD_getElem?] at hun ⊢;rw [Array.getElem?_eq_getElem hiL] at hun ⊢;simpa using hun
     have hed' : ∀ o', l.toArray[i]? = some o' → ∀ e ∈ o'.after, Region.binds .any e = true → L.getD e.on false = true := fun o' ho' => by
      rw [ho] at ho'; injection ho' with ho'; subst ho'; exact hed
     have him : i < m := by
      rcases Nat.lt_or_ge i m with h | h
      ·exact h
      ·exfalso
       rcases Nat.lt_or_ge m i with h2 | h2
       ·have h3 := hdep (i - m) Dq;rw [show m + (i - m) = i by omega] at h3;have h4 : (i - m == 0) = false := by simp; omega
        rw [h4, Bool.false_or] at h3;have := jN hI.cl 16 i m hed' h3;rw [hI.tl m (Nat.le_refl _)] at this
        cases this
       ·obtain rfl : i = m := Dq;have h4 : (l.length == i) = false := by simp; omega
        rw [h4, Bool.false_or] at htail;have h5 := List.all_eq_true.1 htail;obtain ⟨j, hj, hju⟩ := hsome;have := jN hI.cl 16 i j hed' (h5 j (by simpa using hj));rw [hju] at this
        cases this
     have hok' : (l.take m)[i]? = some o := by
      rw [List.getElem?_take, if_pos him];simpa using ho
     obtain ⟨s, hs, hstab, hog⟩ := hdo i o hok';rw [Nat.zero_add] at hstab hog;have hrdi := hrd i him;rw [ho, hs] at hrdi;simp only [Bool.and_eq_true, List.all_eq_true] at hrdi;have hro : cG V ρ (fun t => a.tmps.getD t undef) w s := lW s fun p hp => by
      have hp2 := hrdi.2 p hp
      cases hp3 : p.2 with
      | some j =>
       rw [hp3] at hp2;simp only [Bool.and_eq_true, decide_eq_true_eq, beq_iff_eq] at hp2;exact hI.vs j p.1 hp2.1.1 (jN hI.cl 16 i j hed' hp2.2) hp2.1.2
      | none =>
       rw [hp3] at hp2;refine hI.yt p.1 fun j hj hjl hjd => ?_;have h6 := List.all_eq_true.1 hp2 j (by simpa using hj);rw [hjd] at h6;simp only [beq_self_eq_true, Bool.not_true, Bool.false_or, Bool.and_eq_true] at h6;have := jN hI.cl 16 j i (fun o' ho' e he hb => hI.cl j o' ho' hjl e he hb) h6.2;rw [hun'] at this
       cases this
     have hgo := (hog _ w hI.j hro).out a (wpAny P .any l.toArray (eO N D Q) fuel (L.setIfInBounds i true)) (eO N D Q) (fun _ => rfl) (fun v w2 hv => by
      refine ih _ _ _ ?_ ?_
      ·refine ⟨?_, ?_, hJ _ _ hI.j hv.1, by simpa using hI.ls, ?_, ?_, ?_, ?_⟩
       ·cases o.dst <;> exact hI.nd
       ·cases hod : o.dst with
        | none => exact hI.sz
        | some d => simpa [Act.put] using hI.sz
       ·intro k ok hk hkl e he hb;rw [dx hiL] at hkl ⊢;by_cases hki : k = i
        ·subst hki;simp [hed' ok hk e he hb]
        ·simp only [hki, decide_false, Bool.false_or] at hkl;simp [hI.cl k ok hk hkl e he hb]
       ·intro k hk;rw [dx hiL, hI.tl k hk];have : ¬ k = i := Dq;simp [this]
       ·intro j d hj hjl hjd;rw [dx hiL] at hjl;have hd1 : ∀ d', o.dst = some d' → d' < a.tmps.size := fun d' hd' => by
         rw [hI.sz];exact hdN (i, d') (hpre i d' him (by rw [ho]; exact hd'))
        by_cases hji : j = i
        ·subst hji;rw [ho] at hjd;simp only [Option.bind_some] at hjd;rw [hjd, dL (hd1 d hjd), if_pos rfl];exact hv.2
        ·simp only [hji, decide_false, Bool.false_or] at hjl;have hold := hI.vs j d hj hjl hjd;have hdj : (j, d) ∈ ds := hpre j d hj hjd;have hst := (hdo j (l.toArray[j]?.getD default) (by
          have : j < l.length := Dq;rw [List.getElem?_take, if_pos hj];simp [this])).choose_spec.2.1
         rw [Nat.zero_add] at hst;have hne : ∀ d', o.dst = some d' → d ≠ d' := fun d' hd' e => by
          subst e;exact hji (hone j i d hj him hjd (by rw [ho]; exact hd'))
         cases hod : o.dst with
         | none => exact hst _ _ _ hold hv.1
         | some d' =>
          rw [dL (hd1 d' hod), if_neg (hne d' hod)];exact hst _ _ _ hold hv.1
       ·intro s' hs';have hni : ((l.toArray[i]?).bind (·.dst)) ≠ some s' := hs' i him (by rw [dx hiL]; simp);have hold := hI.yt s' fun j hj hjl => hs' j hj (by rw [dx hiL]; simp [hjl]);rw [ho] at hni;simp only [Option.bind_some] at hni
        cases hod : o.dst with
        | none => exact hold
        | some d' =>
         rw [dL (by rw [hI.sz]; exact hdN (i, d') (hpre i d' him (by rw [ho]; exact hod))), if_neg (fun e => hni (by rw [hod, e]))];exact hold
      ·have hLi : L.toList[i]? = some false := by
        have h3 : i < L.toList.length := by simpa using hiL
        rw [List.getElem?_eq_getElem h3];have : L.getD i false = L.toList[i] := by simp [hiL]
        rw [← this, hun']
       rw [Array.toList_setIfInBounds, List.countP_set (by simpa using hiL)];have h4 : L.toList[i]'(by simpa using hiL) = false := (List.getElem?_eq_some_iff.1 hLi).2;rw [h4];simp only [Bool.false_eq_true, if_false, if_true];omega)
     unfold wpOp;rw [ho];exact hgo
 have hJ0 : J ({ w with drawn := w.drawn + 1 } : World) := hJ w _ h0 ⟨rfl, rfl, rfl, Nat.le_refl _, fun _ _ => rfl⟩;have hr0 : ∀ i, (Array.replicate l.toArray.size false).getD i false = false := fun i => by
  rw [Array.getD_eq_getD_getElem?, Array.getElem?_replicate]; split <;> rfl
 refine key _ _ _ _ ⟨hf.nd, hf.sz, hJ0, by simp, fun k o _ hk => ?_, fun k _ => hr0 k, fun i d _ hi => ?_, fun s _ => hf.at_ s⟩ ?_
 ·rw [hr0] at hk; cases hk
 ·rw [hr0] at hi; cases hi
 ·simp [List.countP_replicate]
def Is (c : Value) : Value → World → Prop := fun v _ => v = c
theorem Is.ext {c : Value} (v : Value) (w w' : World) (h : Is c v w) (_ : Below w.heap.size w w') : Is c v w' := h
structure JJ (w0 : World) (H : List HE) (w W : World) : Prop where
 hp : Hp w0 H W
 bl : Below w.heap.size w W
theorem JJ.ext {w0 : World} {H : List HE} {w W W' : World} (h : JJ w0 H w W) (hb : Below W.heap.size W W') : JJ w0 H w W' := ⟨h.hp.ext hb, h.bl.trans (hb.mono h.bl.size)⟩
theorem JJ.start {w0 : World} {H : List HE} {w : World} (h : Hp w0 H w) : JJ w0 H w w := ⟨h, Below.refl _ _⟩
def Cq (n k : Nat) (cs : List Value) : Value → World → Prop := fun v W => ∃ b, v = .slice (some ⟨b, 0, none⟩) n n ∧ Sl W (some ⟨b, 0, none⟩) n k cs
def cL (w : World) (t : TypeId) (cs : List Value) : Value → World → Prop := fun v W => ∃ b, v = .pointer (some ⟨b, 0, none⟩) ∧ w.heap.size ≤ b ∧ W.heap[b]? = some (.cells cs.toArray t (0, 0))
theorem cL.ext {w : World} {t : TypeId} {cs : List Value} (v : Value) (w1 w2 : World) (h : cL w t cs v w1) (hb : Below w1.heap.size w1 w2) : cL w t cs v w2 := by
 obtain ⟨b, h1, h2, h3⟩ := h;have hlt : b < w1.heap.size := by
  rcases Nat.lt_or_ge b w1.heap.size with hlt | hge
  ·exact hlt
  ·rw [Array.getElem?_eq_none hge] at h3; cases h3
 exact ⟨b, h1, h2, (hb.block b hlt).trans h3⟩
theorem fm {ops : Array Oper} {d : Option Nat} {ty : TypeId} {pos : String} {af : Array Edge} {t e : TypeId} {len sz by' : Nat} {ag : Bool} {parts : Array (Nat × Operand)} {ps : List (Nat × Value)} {zc cs : List Value} (ht : P.underlying t = some (.slice e)) (hte : cZ P e = some (sz, ag, by', zc))
  (hp : pI ρ parts.toList = ps) (hzl : zc.length = sz) (hf : iA (fun i => some (i * sz, sz)) (fS len zc) ps = some cs) (h0 : ¬ len * sz = 0) (hsl : len * sz ≤ 16777216) (hl : cs.length = len * sz) {K : Value → World → Prop}
  (hk : ∀ v w2, Cq len sz cs v w2 → Below w.heap.size w w2 → K v w2) : OG P ops ⟨d, .buildSlice t len parts, ty, pos, af, none⟩ ρ w K := by
 obtain ⟨z, hz, hzc⟩ := cS (w := w) hte;have hbl : Below w.heap.size w (w.alloc (.cells cs.toArray e)) := (Below.refl _ _).alloc (Nat.le_refl _) _;refine bW rfl (w' := w.alloc (.cells cs.toArray e)) (v := .slice (some ⟨w.heap.size, 0, none⟩) len len) ?_ (hk _ _ ⟨w.heap.size, rfl, hl, fun _ => ⟨_, rfl, fun j u hu => ?_⟩⟩ hbl)
 ·have h16 : ¬ 2 ^ 24 < len * sz := Dq;have hf' := k4 _ _ _ hf;rw [← iS, hzl] at hf';have hzs : zc.toArray.size = sz := by simpa using hzl
  have hp' := nP parts hp;simp only [execOp, hp', Instr.buildSlice, Sem.run_bind, run_underlying ht, Result.andThen_ok, dV hte, gt_iff_lt, if_neg h16, if_neg h0, hz, hzc, Sem.run_pure, hzs, hf'];simp [newRow]
 ·rw [eG, Nat.zero_add, cell_of_row _ w.heap.size j cs.toArray e (0, 0) (heap_alloc_new w _)];simpa using hu
theorem fV {ops : Array Oper} {d : Option Nat} {ty : TypeId} {pos : String} {af : Array Edge} {t : TypeId} {n by' : Nat} {ag : Bool} {zc : List Value} {wr : World} (ht : cZ P t = some (n, ag, by', zc)) (hb : Below wr.heap.size wr w) {K : Value → World → Prop}
  (hk : ∀ v w2, cL wr t zc v w2 → Below w.heap.size w w2 → K v w2) : OG P ops ⟨d, .alloc t, ty, pos, af, none⟩ ρ w K := by
 obtain ⟨z, hz, hzc⟩ := cS (w := w) ht;exact bW rfl (w' := w.alloc (.cells zc.toArray t)) (v := .pointer (some ⟨w.heap.size, 0, none⟩)) (by simp [execOp, Instr.alloc, newVar, newRow, hz, hzc]) (hk _ _ ⟨w.heap.size, rfl, hb.size, heap_alloc_new w _⟩ ((Below.refl _ _).alloc (Nat.le_refl _) _))
theorem JJ.newVar {w0 : World} {H : List HE} {w W : World} {t : TypeId} {cs : List Value} {b : Nat} (h : JJ w0 H w W) (hs : Hp w0 H w) (h2 : w.heap.size ≤ b) (h3 : W.heap[b]? = some (.cells cs.toArray t (0, 0))) : Hp w0 (.blk b t cs (0, 0) :: H) W := by
 refine ⟨h.hp.below, ?_, ?_⟩
 ·intro y hy
  rcases List.mem_cons.1 hy with rfl | hy
  ·exact ⟨Nat.le_trans hs.size h2, h3, .inr (Nat.le_refl _)⟩
  ·exact h.hp.own y hy
 ·rw [List.filterMap_cons];show (b :: H.filterMap HE.id).Nodup;refine List.nodup_cons.2 ⟨fun hm => ?_, h.hp.nd⟩;obtain ⟨y, hy, hyb⟩ := List.mem_filterMap.1 hm;have := (eH (hs.own y hy) hyb).2;omega
end
section
abbrev VP := Value → World → Prop
def dO (pv : Nat → VP) (i : Nat) (V : VP) : Nat → VP := fun j => cond (Nat.beq j i) V (pv j)
def CL : Nat → VP := fun _ _ _ => True
def DX (P : Program) (ops : Array Oper) (J : World → Prop) (ρ : Rf) (T : (Nat → VP) → Prop) : Nat → (Nat → VP) → List Oper → List (List (Nat × Option Nat)) → Prop
 | i, pv, o :: os, s :: ss => ∃ V : VP, (∀ v w w', V v w → Below w.heap.size w w' → V v w') ∧ (∀ ρ1 w1, J w1 → cG pv ρ ρ1 w1 s → OG P ops o ρ1 w1 fun v w2 => Below w1.heap.size w1 w2 ∧ V v w2) ∧ DX P ops J ρ T (i + 1) (dO pv i V) os ss
 | _, pv, [], [] => T pv
 | _, _, _, _ => False
theorem zu (pv : Nat → VP) (i : Nat) (V : VP) : dO pv i V i = V := by simp [dO]
theorem q5 (pv : Nat → VP) {i j : Nat} (V : VP) (h : j ≠ i) : dO pv i V j = pv j := by
 have : Nat.beq j i = false := by rw [Bool.eq_false_iff]; intro h2; exact h (Nat.eq_of_beq_eq_true h2)
 simp only [dO, this, cond_false]
theorem mr {V V' : Nat → VP} {ρ ρ1 : Rf} {w1 : World} (h : ∀ j v w, V j v w → V' j v w) : ∀ s, cG V ρ ρ1 w1 s → cG V' ρ ρ1 w1 s
 | [], _ => trivial
 | (_, some _) :: r, hh => ⟨h _ _ _ hh.1, mr h r hh.2⟩
 | (_, none) :: r, hh => ⟨hh.1, mr h r hh.2⟩
theorem vr {P : Program} {ops : Array Oper} {J : World → Prop} {ρ : Rf} {T : (Nat → VP) → Prop} : ∀ (os : List Oper) (ss : List (List (Nat × Option Nat))) (i : Nat) (pv : Nat → VP), (∀ j, i ≤ j → ∀ v w, pv j v w) → DX P ops J ρ T i pv os ss →
  ∃ V, (∀ j, j < i → V j = pv j) ∧ DO P ops J V ρ i os ss ∧ T V
 | [], [], _, pv, _, h => ⟨pv, fun _ _ => rfl, trivial, h⟩
 | [], _ :: _, _, _, _, h => h.elim
 | _ :: _, [], _, _, _, h => h.elim
 | o :: os, s :: ss, i, pv, hpv, ⟨V, h1, h2, h3⟩ => by
  obtain ⟨V', h4, h5, h6⟩ := vr os ss (i + 1) (dO pv i V) (fun j hj v w => by rw [q5 _ _ Dq]; exact hpv j Dq v w) h3;have e : V' i = V := by rw [h4 i Dq, zu]
  refine ⟨V', fun j hj => by rw [h4 j Dq, q5 _ _ Dq], ⟨⟨?_, ?_⟩, h5⟩, h6⟩
  ·rw [e]; exact h1
  ·intro ρ1 w1 hj hr;rw [e];refine h2 ρ1 w1 hj (mr (fun j v w hh => ?_) s hr)
   rcases Nat.lt_or_ge j i with hlt | hge
   ·rw [h4 j Dq, q5 _ _ Dq] at hh; exact hh
   ·exact hpv j hge v w
theorem bg {P : Program} {N : Nat} {ρ : Rf} {w : World} {Q : Kq} {id : Nat} {l : List Oper} (m : Nat) (src : List (List (Nat × Option Nat))) (ds : List (Nat × Nat)) {w0 : World} {H : List HE} (hh : Hp w0 H w) (hm : P.follows .mixedOrders = true) (hok : uH l m N src ds = true)
  (h : DX P l.toArray (JJ w0 H w) ρ (fun V => ∀ f w', JJ w0 H w w' → sO V f w' ds → WL ⟨none, D, false⟩ P N l.toArray Q (l.drop m) (iC ρ f ds) w') 0 CL (l.take m) src) : WC ⟨none, D, false⟩ P N (.region id l.toArray true) Q ρ w := by
 obtain ⟨V, _, h1, h2⟩ := vr _ _ _ _ (fun _ _ _ _ => trivial) h;exact zI m src ds (JJ w0 H w) V hm hok (fun _ _ h hb => h.ext hb) (JJ.start hh) h1 h2
variable {P : Program} {ops : Array Oper} {J : World → Prop} {ρ : Rf} {T : (Nat → VP) → Prop} {i : Nat} {pv : Nat → VP} {os : List Oper} {s : List (Nat × Option Nat)} {ss : List (List (Nat × Option Nat))} {d : Option Nat} {op : Op} {ty : TypeId} {pos : String} {af : Array Edge}
theorem bq (h : T pv) : DX P ops J ρ T i pv [] [] := h
theorem bj {o : Oper} (V : VP) (h1 : ∀ v w w', V v w → Below w.heap.size w w' → V v w') (h2 : ∀ ρ1 w1, J w1 → cG (pv) ρ ρ1 w1 s → OG P ops o ρ1 w1 fun v w2 => Below w1.heap.size w1 w2 ∧ V v w2)
  (k : DX P ops J ρ T (i + 1) (dO pv i (V)) os ss) : DX P ops J ρ T i pv (o :: os) (s :: ss) := ⟨V, h1, h2, k⟩
theorem bo {v : Value} (hr : ∀ ρ1 w1, J w1 → cG (pv) ρ ρ1 w1 s → (execOp (ev ρ1) ⟨d, op, ty, pos, af, none⟩).run P w1 = .ok (.value v) w1)
  (k : DX P ops J ρ T (i + 1) (dO pv i (Is v)) os ss) : DX P ops J ρ T i pv (⟨d, op, ty, pos, af, none⟩ :: os) (s :: ss) :=
 bj (Is v) Is.ext (fun ρ1 w1 hj h => bW rfl (hr ρ1 w1 hj h) ⟨Below.refl _ _, rfl⟩) k
theorem zG {v : Value} {f : FuncId} {args : Array Value} (hr : ∀ ρ1 w1, J w1 → cG (pv) ρ ρ1 w1 s → (execOp (ev ρ1) ⟨d, op, ty, pos, af, none⟩).run P w1 = .ok (.enter f args) w1)
  (hc : ∀ w1, J w1 → Calls P f args w1 fun e w' => e = .returned v ∧ Below w1.heap.size w1 w')
  (k : DX P ops J ρ T (i + 1) (dO pv i (Is v)) os ss) : DX P ops J ρ T i pv (⟨d, op, ty, pos, af, none⟩ :: os) (s :: ss) :=
 bj (Is v) Is.ext (fun ρ1 w1 hj h => bJ rfl (hr ρ1 w1 hj h) (hc w1 hj) fun _ _ hq => ⟨v, hq.1, hq.2, rfl⟩) k
def Rows (n k : Nat) (cs : List Value) : VP := fun v W => ∃ A c, v = .slice A n c ∧ Sl W A n k cs
theorem Rows.ext {n k : Nat} {cs : List Value} (v : Value) (w w' : World) (h : Rows n k cs v w) (hb : Below w.heap.size w w') : Rows n k cs v w' := let ⟨A, c, h1, h2⟩ := h; ⟨A, c, h1, h2.ext hb⟩
theorem pQ {t e : TypeId} {len sz by' : Nat} {ag : Bool} {parts : Array (Nat × Operand)} {ps : List (Nat × Value)} {zc cs : List Value} (ht : P.underlying t = some (.slice e)) (hte : cZ P e = some (sz, ag, by', zc))
  (hp : ∀ ρ1 w1, J w1 → cG (pv) ρ ρ1 w1 s → pI ρ1 parts.toList = ps) (hzl : zc.length = sz) (hf : iA (fun i => some (i * sz, sz)) (fS len zc) ps = some cs) (h0 : ¬ len * sz = 0) (hsl : len * sz ≤ 16777216) (hl : cs.length = len * sz)
  (k : DX P ops J ρ T (i + 1) (dO pv i (Rows len sz cs)) os ss) : DX P ops J ρ T i pv (⟨d, .buildSlice t len parts, ty, pos, af, none⟩ :: os) (s :: ss) :=
 bj (Rows len sz cs) Rows.ext (fun ρ1 w1 hj h => fm ht hte (hp ρ1 w1 hj h) hzl hf h0 hsl hl fun _ _ ⟨_, hv, hs⟩ hb => ⟨hb, _, _, hv, hs⟩) k
theorem ee {b : Bool} {j dj : Nat} {v : Value} (hj : (ops[j]?).bind (·.dst) = some dj) (hv : ∀ ρ1 w1, J w1 → cG (pv) ρ ρ1 w1 s → ρ1 dj = .bool b)
  (hr : ∀ ρ1 w1, J w1 → cG (pv) ρ ρ1 w1 s → (execOp (ev ρ1) ⟨d, op, ty, pos, af, none⟩).run P w1 = .ok (.value v) w1)
  (k : DX P ops J ρ T (i + 1) (dO pv i (Is v)) os ss) : DX P ops J ρ T i pv (⟨d, op, ty, pos, af, some (j, b)⟩ :: os) (s :: ss) :=
 bj (Is v) Is.ext (fun ρ1 w1 hj' h => cD hj (hv ρ1 w1 hj' h) (bW rfl (hr ρ1 w1 hj' h) ⟨Below.refl _ _, rfl⟩)) k
theorem bR {b : Bool} {j dj : Nat} {v : Value} {f : FuncId} {args : Array Value} (hj : (ops[j]?).bind (·.dst) = some dj) (hv : ∀ ρ1 w1, J w1 → cG (pv) ρ ρ1 w1 s → ρ1 dj = .bool b)
  (hr : ∀ ρ1 w1, J w1 → cG (pv) ρ ρ1 w1 s → (execOp (ev ρ1) ⟨d, op, ty, pos, af, none⟩).run P w1 = .ok (.enter f args) w1)
  (hc : ∀ w1, J w1 → Calls P f args w1 fun e w' => e = .returned v ∧ Below w1.heap.size w1 w')
  (k : DX P ops J ρ T (i + 1) (dO pv i (Is v)) os ss) : DX P ops J ρ T i pv (⟨d, op, ty, pos, af, some (j, b)⟩ :: os) (s :: ss) :=
 bj (Is v) Is.ext (fun ρ1 w1 hj' h => cD hj (hv ρ1 w1 hj' h) (bJ rfl (hr ρ1 w1 hj' h) (hc w1 hj') fun _ _ hq => ⟨v, hq.1, hq.2, rfl⟩)) k
theorem fQ {b c : Bool} {j dj : Nat} (hj : (ops[j]?).bind (·.dst) = some dj) (hv : ∀ ρ1 w1, J w1 → cG (pv) ρ ρ1 w1 s → ρ1 dj = .bool c) (hb : c ≠ b)
  (k : DX P ops J ρ T (i + 1) (dO pv i (Is undef)) os ss) : DX P ops J ρ T i pv (⟨d, op, ty, pos, af, some (j, b)⟩ :: os) (s :: ss) :=
 bj (Is undef) Is.ext (fun ρ1 w1 hj' h => pP hj (hv ρ1 w1 hj' h) hb ⟨Below.refl _ _, rfl⟩) k
end
end Go.Proofs.YteeckcbbnegmcaaGreatDoor
namespace Go.Proofs.YteeckcbbnegmcaaGreatDoor
open Go.RowKit
def aQ {α : Type} (f : α → List Value) (l : List α) : List Value := l.flatMap f
section
variable {α : Type} {f : α → List Value} {sz : Nat}
theorem jD (hf : ∀ x, (f x).length = sz) (l : List α) : (aQ f l).length = l.length * sz := by
 induction l with
 | nil => simp [aQ]
 | cons x l ih =>
  have : aQ f (x :: l) = f x ++ aQ f l := by simp [aQ]
  rw [this, List.length_append, hf, ih, List.length_cons, Nat.succ_mul]; omega
theorem iV (x : α) (l : List α) : aQ f (x :: l) = f x ++ aQ f l := by simp [aQ]
theorem cn (l m : List α) : aQ f (l ++ m) = aQ f l ++ aQ f m := by simp [aQ]
theorem iU (x : α) : aQ f [x] = f x := by simp [aQ]
theorem iL (hf : ∀ x, (f x).length = sz) (l : List α) (k : Nat) : (aQ f l).drop (k * sz) = aQ f (l.drop k) := by
 induction l generalizing k with
 | nil => simp [aQ]
 | cons x l ih =>
  cases k with
  | zero => simp
  | succ k => rw [iV, Nat.succ_mul, Nat.add_comm, ← hf x, List.drop_append, List.drop_succ_cons, ← ih k, hf x]; simp [hf x]
theorem kh (hf : ∀ x, (f x).length = sz) (l : List α) (k : Nat) : (aQ f l).take (k * sz) = aQ f (l.take k) := by
 induction l generalizing k with
 | nil => simp [aQ]
 | cons x l ih =>
  cases k with
  | zero => simp [aQ]
  | succ k => rw [iV, Nat.succ_mul, Nat.add_comm, List.take_succ_cons, iV, ← ih k, ← hf x, List.take_append]; simp; exact List.take_of_length_le (Nat.le_add_right _ _)
theorem o8 (hf : ∀ x, (f x).length = sz) {l : List α} {k : Nat} {x : α} (h : l[k]? = some x) : ((aQ f l).drop (k * sz)).take sz = f x := by
 obtain ⟨h1, h2⟩ := List.getElem?_eq_some_iff.1 h;rw [iL hf, List.drop_eq_getElem_cons h1, h2, iV, List.take_append_of_le_length (by rw [hf]; omega), List.take_of_length_le (by rw [hf]; omega)]
theorem Rd.recAt {w : World} {ad : Addr} {l : List α} (h : Rd w ad (aQ f l)) (hf : ∀ x, (f x).length = sz) {k : Nat} {x : α} (hx : l[k]? = some x) : Rd w (ad.add (k * sz)) (f x) := by
 have := h.elem k sz;rwa [o8 hf hx] at this
theorem Sl.cI {w : World} {A : Option Addr} {n : Nat} {l : List α} (h : Sl w A n sz (aQ f l)) (hf : ∀ x, (f x).length = sz) (h0 : 0 < sz) : l.length = n := by
 have := h.1;rw [jD hf] at this;exact Nat.eq_of_mul_eq_mul_right h0 this
theorem nB (hf : ∀ x, (f x).length = sz) {l : List α} {k : Nat} {y : α} (h : k < l.length) : cg (aQ f l) (k * sz) (f y) = aQ f (l.set k y) := by
 unfold cg;rw [kh hf, hf, ← Nat.succ_mul, iL hf, List.set_eq_take_append_cons_drop, if_pos h, cn, iV, List.append_assoc]
theorem bL (h : ∀ x, (f x).all Value.oneCell' = true) (l : List α) : ((aQ f l).all Value.oneCell') = true := by
 rw [List.all_eq_true];intro v hv;obtain ⟨x, _, hx⟩ := List.mem_flatMap.1 hv;exact List.all_eq_true.1 (h x) v hx
end
theorem kd {α : Type} {l : List α} {k : Nat} {x : α} (h : l[k]? = some x) : l.drop k = x :: l.drop (k + 1) := by
 obtain ⟨h1, rfl⟩ := List.getElem?_eq_some_iff.1 h;exact List.drop_eq_getElem_cons h1
theorem gj {α : Type} {p : α → Bool} {l : List α} (h : l.any p = false) : l.find? p = none := by
 rw [List.find?_eq_none];intro x hx;have := List.any_eq_false.1 h x hx;simpa using this
theorem qQ {α : Type} {p : α → Bool} {l : List α} {i : Nat} {x : α} (h : (l.take i).any p = false) (hx : l[i]? = some x) (hp : p x = true) : l.find? p = some x := by
 have : l = l.take i ++ x :: l.drop (i + 1) := by rw [← kd hx, List.take_append_drop]
 rw [this, List.find?_append, gj h, List.find?_cons_of_pos hp]
 rfl
end Go.Proofs.YteeckcbbnegmcaaGreatDoor
namespace Go.Proofs.YteeckcbbnegmcaaGreatDoor
open Go.RowKit
variable {D : List Deferred}
section
variable {P : Program} {N : Nat} {Q : Kq} {ρ : Rf} {w : World}
def kq (acc : List Nat) : List Edge → Nat
 | [] => 0
 | e :: r => bif Region.binds .any e then 1 <<< e.on ||| acc.getD e.on 0 ||| kq acc r else kq acc r
def nW : List Oper → List Nat → List Nat
 | [], acc => acc
 | o :: r, acc => nW r (acc ++ [kq acc o.after.toList])
theorem kO {acc : List Nat} {i : Nat} : ∀ {es : List Edge}, (kq acc es).testBit i = true → ∃ e ∈ es, Region.binds .any e = true ∧ (e.on = i ∨ (acc.getD e.on 0).testBit i = true)
 | [], h => by simp [kq] at h
 | e :: r, h => by
  unfold kq at h
  cases hb : Region.binds .any e with
  | false =>
   rw [hb, cond_false] at h;obtain ⟨e', h1, h2⟩ := kO h;exact ⟨e', List.mem_cons_of_mem _ h1, h2⟩
  | true =>
   rw [hb, cond_true, Nat.testBit_or, Nat.testBit_or, Bool.or_eq_true, Bool.or_eq_true] at h
   rcases h with (h | h) | h
   ·refine ⟨e, List.mem_cons_self, hb, .inl ?_⟩;rw [Nat.one_shiftLeft, Nat.testBit_two_pow] at h;simpa using h
   ·exact ⟨e, List.mem_cons_self, hb, .inr h⟩
   ·obtain ⟨e', h1, h2⟩ := kO h;exact ⟨e', List.mem_cons_of_mem _ h1, h2⟩
theorem tp : ∀ (l : List Oper) (acc : List Nat), ∃ t, nW l acc = acc ++ t
 | [], acc => ⟨[], by simp [nW]⟩
 | o :: r, acc => by
  obtain ⟨t, h⟩ := tp r (acc ++ [kq acc o.after.toList]);exact ⟨_, by rw [nW, h, List.append_assoc]⟩
theorem vT : ∀ (l : List Oper) (acc : List Nat) (k i : Nat), acc.length ≤ k → ((nW l acc).getD k 0).testBit i = true → ∃ o, l[k - acc.length]? = some o ∧ ∃ e ∈ o.after, Region.binds .any e = true ∧ (e.on = i ∨ e.on < k ∧ ((nW l acc).getD e.on 0).testBit i = true)
 | [], acc, k, i, hk, h => by
  rw [nW, List.getD_eq_getElem?_getD, List.getElem?_eq_none hk] at h;simp at h
 | o :: r, acc, k, i, hk, h => by
  rcases Nat.lt_or_ge acc.length k with hlt | hge
  ·have hl : (acc ++ [kq acc o.after.toList]).length = acc.length + 1 := by simp
   obtain ⟨o', h1, h2⟩ := vT r (acc ++ [kq acc o.after.toList]) k i Dq h;refine ⟨o', ?_, h2⟩;rw [hl] at h1;rw [show k - acc.length = (k - (acc.length + 1)) + 1 by omega, List.getElem?_cons_succ];exact h1
  ·obtain rfl : k = acc.length := Dq;obtain ⟨t, ht⟩ := tp r (acc ++ [kq acc o.after.toList]);refine ⟨o, by rw [Nat.sub_self]; rfl, ?_⟩;rw [nW, ht] at h ⊢;rw [List.getD_eq_getElem?_getD, List.append_assoc, List.getElem?_append_right (Nat.le_refl _), Nat.sub_self] at h;simp only [List.cons_append, List.getElem?_cons_zero, Option.getD_some, List.nil_append] at h;obtain ⟨e, h1, h2, h3⟩ := kO h;refine ⟨e, by simpa using h1, h2, ?_⟩
   rcases h3 with h3 | h3
   ·exact .inl h3
   ·have h4 : e.on < acc.length := by
     rcases Nat.lt_or_ge e.on acc.length with h5 | h5
     ·exact h5
     ·rw [List.getD_eq_getElem?_getD, List.getElem?_eq_none h5] at h3; simp at h3
    refine .inr ⟨h4, ?_⟩;rw [List.getD_eq_getElem?_getD, List.append_assoc, List.getElem?_append_left h4, ← List.getD_eq_getElem?_getD];exact h3
theorem gI {l : List Oper} {M : List Nat} {L : Array Bool} (hM : nW l [] = M) (hc : mz l.toArray L) : ∀ (k i : Nat), (∀ o, l.toArray[k]? = some o → ∀ e ∈ o.after, Region.binds .any e = true → L.getD e.on false = true) → (M.getD k 0).testBit i = true → L.getD i false = true := by
 intro k
 induction k using Nat.strongRecOn with
 | _ k ih =>
  intro i hk h;rw [← hM] at h;obtain ⟨o, ho, e, he, hb, h3⟩ := vT l [] k i (Nat.zero_le _) h;have ho' : l.toArray[k]? = some o := by rw [List.getElem?_toArray]; exact ho
  have h1 := hk o ho' e he hb
  rcases h3 with h3 | ⟨h3, h4⟩
  ·rw [← h3]; exact h1
  ·rw [hM] at h4;exact ih e.on h3 i (fun o' ho2 => hc e.on o' ho2 h1) h4
def Cy (n m : Nat) (fl : List Nat) : Array Bool := ((List.range n).map fun i => decide (i < m ∧ i ∉ fl)).toArray
theorem yW {n m i : Nat} {fl : List Nat} (hi : i < n) : (Cy n m fl).getD i true = decide (i < m ∧ i ∉ fl) := by
 unfold Cy;rw [Array.getD_eq_getD_getElem?, List.getElem?_toArray, List.getElem?_map, List.getElem?_range hi]
 rfl
def NP (Q : Kq) : Prop := ∀ c ρ w, ¬ Q (.panic c) ρ w
theorem bX {fn : Func} {R : Ending → World → Prop} : NP (kj P fn R) := fun _ _ _ h => h.1.elim nofun nofun
theorem bE {next : Rf → World → Prop} (h : NP Q) : NP (dQ next Q) := fun c ρ w hq => h c ρ w hq
theorem bV {id : Nat} (h : NP Q) : NP (mj id Q) := fun c ρ w hq => h c ρ w hq
def oK : Op → Bool
 | .extract _ _ => true
 | .move _ => true
 | _ => false
def BI (l : List Oper) (m : Nat) (fl : List Nat) (i : Nat) : Bool :=
 Region.free .any l.toArray (Cy l.length m fl) i && match l[i]? with
  | some ⟨some _, op, _, _, af, none⟩ => oK op && af.all fun e => !Region.binds .any e || (decide (e.on < m) && !fl.contains e.on)
  | _ => false
theorem wY {l : List Oper} {m : Nat} {fl : List Nat} {i : Nat} (h : BI l m fl i = true) : Region.free .any l.toArray (Cy l.length m fl) i = true ∧ (∀ o, l[i]? = some o → ∀ e ∈ o.after, Region.binds .any e = true → e.on < m ∧ e.on ∉ fl) ∧
  ∃ d op ty pos af, l[i]? = some ⟨some d, op, ty, pos, af, none⟩ ∧ oK op = true := by
 unfold BI at h;rw [Bool.and_eq_true] at h;obtain ⟨h1, h2⟩ := h;split at h2
 ·rename_i d op ty pos af ho;rw [Bool.and_eq_true] at h2;obtain ⟨hpu, h2⟩ := h2;refine ⟨h1, fun o ho' e he hb => ?_, d, op, ty, pos, af, ho, hpu⟩;rw [ho] at ho';injection ho' with ho'
  subst ho';have := Array.all_eq_true'.1 h2 e he;simp only [hb, Bool.not_true, Bool.false_or, Bool.and_eq_true, decide_eq_true_eq, Bool.not_eq_true', List.contains_eq_mem, decide_eq_false_iff_not] at this;exact this
 ·cases h2
def ru (l : List Oper) (m N : Nat) (src : List (List (Nat × Option Nat))) (ds : List (Nat × Nat)) (fl M : List Nat) : Bool :=
 let ops := l.toArray
 let pre := (List.range m).map fun i => ((ops[i]?).bind (·.dst))
 (m ≤ l.length) && (src.length == m) &&
 (ds == (pre.zipIdx.filterMap fun (d, i) => d.map fun d => (i, d)).reverse) && (decide (ds.map (·.2)).Nodup) && (ds.all fun p => p.2 < N) &&
 ((List.range m).all fun i => match ops[i]?, src[i]? with
  | some o, some s => ((o.looksAt ops).all fun t => s.any fun p => p.1 == t) &&
    s.all fun p => match p.2 with
     | some j => (j < m) && ((ops[j]?).bind (·.dst) == some p.1) && (M.getD i 0).testBit j
     | none => (List.range m).all fun j => !((ops[j]?).bind (·.dst) == some p.1) || (j != i && (M.getD j 0).testBit i)
  | _, _ => false) &&
 (l.length == m || ((List.range m).all fun i => fl.contains i || (M.getD m 0).testBit i)) &&
 ((List.range (l.length - m)).all fun k => Region.ready .any ops (fu l.length (m + k)) == [m + k]) && (Region.ready .any ops (fu l.length l.length) == []) &&
 ((List.range (l.length - m)).all fun k => k == 0 || (M.getD (m + k) 0).testBit m) &&
 ((List.range l.length).all fun i => match ops[i]? with | some o => o.after.all fun e => !Region.binds .any e || e.on < i | none => false) &&
 Region.noSelect ops && (fl.all fun i => BI l m fl i) && (nW l [] == M)
def q8 (P : Program) (l : List Oper) : List Nat → Prop
 | [] => True
 | i :: r => (∃ d t ty pos af n ag by' zc, l[i]? = some ⟨some d, .alloc t, ty, pos, af, none⟩ ∧ cZ P t = some (n, ag, by', zc)) ∧ q8 P l r
theorem q8.at {l : List Oper} : ∀ {fr : List Nat}, q8 P l fr → ∀ i ∈ fr, ∃ d t ty pos af n ag by' zc, l[i]? = some ⟨some d, .alloc t, ty, pos, af, none⟩ ∧ cZ P t = some (n, ag, by', zc)
 | [], _, _, hi => by simp at hi
 | j :: r, h, i, hi => by
  rcases List.mem_cons.1 hi with rfl | hi
  ·exact h.1
  ·exact q8.at h.2 i hi
theorem dI {l : List Oper} : q8 P l [] := trivial
theorem jV {l : List Oper} {i d t ty : Nat} {pos : String} {af : Array Edge} {n by' : Nat} {ag : Bool} {zc : List Value} {r : List Nat} (h : l[i]? = some ⟨some d, .alloc t, ty, pos, af, none⟩) (ht : cZ P t = some (n, ag, by', zc)) (hr : q8 P l r) : q8 P l (i :: r) := ⟨⟨d, t, ty, pos, af, n, ag, by', zc, h, ht⟩, hr⟩
theorem xP {ops : Array Oper} {d : Nat} {t ty : Nat} {pos : String} {af : Array Edge} {n by' : Nat} {ag : Bool} {zc : List Value} {K : Value → World → Prop} (ht : cZ P t = some (n, ag, by', zc)) (h : OG P ops ⟨some d, .alloc t, ty, pos, af, none⟩ ρ w K)
  (a : Act) (hd : d < a.tmps.size) (next : Act → World → Prop) (Q : Exit → Act → World → Prop) (ha : ∀ i, a.tmps.getD i undef = ρ i) (hn : ∀ v w', K v w' → (∃ b, v = .pointer (some ⟨b, 0, none⟩) ∧ w.heap.size ≤ b ∧ b < w'.heap.size) → next (a.put (some d) v) w') :
  if Region.wanted ⟨some d, .alloc t, ty, pos, af, none⟩ (yielded ops a.tmps) then (Oper.wp P ⟨some d, .alloc t, ty, pos, af, none⟩ a w next Q) ∨ ((Oper.asks P ⟨some d, .alloc t, ty, pos, af, none⟩ a w) ∧ LetsOut Q) else next (a.put (some d) undef) w := by
 have h1 := h.out a (fun a' w' => ∃ v, a' = a.put (some d) v ∧ K v w') Q ha fun v w' hk => ⟨v, rfl, hk⟩;have hw : Region.wanted ⟨some d, .alloc t, ty, pos, af, none⟩ (yielded ops a.tmps) = true := by simp [Region.wanted]
 rw [if_pos hw] at h1 ⊢;refine h1.imp (fun h2 => ?_) id;obtain ⟨z, hz, hzc⟩ := cS (w := w) ht;have hr : (execOp a.eval ⟨some d, .alloc t, ty, pos, af, none⟩).run P w = .ok (.value (.pointer (some ⟨w.heap.size, 0, none⟩))) (w.alloc (.cells zc.toArray t)) := by simp [execOp, Instr.alloc, newVar, newRow, hz, hzc]
 unfold Oper.wp at h2 ⊢;rw [hr] at h2 ⊢;obtain ⟨v, hv, hk⟩ : ∃ v, a.put (some d) (.pointer (some ⟨w.heap.size, 0, none⟩)) = a.put (some d) v ∧ K v (w.alloc (.cells zc.toArray t)) := h2;have h3 := congrArg (fun a' : Act => a'.tmps.getD d undef) hv;simp only [dL hd, if_pos] at h3;subst h3;exact hn _ _ hk ⟨_, rfl, Nat.le_refl _, (Array.getElem?_eq_some_iff.1 (heap_alloc_new w _)).1⟩
theorem td {x : Operand} {k ty d : Nat} {pos : String} {af : Array Edge} (f : Operand → Value) (w : World) : (∃ v, ∀ w', (execOp f ⟨some d, .extract x k, ty, pos, af, none⟩).run P w' = .ok (.value v) w') ∨ ∀ a K, Oper.upon P ⟨some d, .extract x k, ty, pos, af, none⟩ a K (fun _ _ _ => False) ((execOp f ⟨some d, .extract x k, ty, pos, af, none⟩).run P w) → False := by
 cases hx : f x with
 | tuple xs =>
  cases hk : xs[k]? with
  | some v => exact .inl ⟨v, fun w' => by simp [execOp, hx, Instr.extract, hk]⟩
  | none => exact .inr fun a K h => by simp [execOp, hx, Instr.extract, hk, Oper.upon] at h
 | _ => exact .inr fun a K h => by simp [execOp, hx, Instr.extract, Oper.upon] at h
theorem pure_run {op : Op} (hp : oK op = true) {ty d : Nat} {pos : String} {af : Array Edge} (f : Operand → Value) (w : World) : (∃ v, ∀ w', (execOp f ⟨some d, op, ty, pos, af, none⟩).run P w' = .ok (.value v) w') ∨ ∀ a K, Oper.upon P ⟨some d, op, ty, pos, af, none⟩ a K (fun _ _ _ => False) ((execOp f ⟨some d, op, ty, pos, af, none⟩).run P w) → False := by
 unfold oK at hp;split at hp
 ·exact td f w
 ·exact .inl ⟨_, fun w' => by simp [execOp]; rfl⟩
 ·cases hp
theorem sn {ops : Array Oper} {d : Nat} {op : Op} (hp : oK op = true) {ty : Nat} {pos : String} {af : Array Edge} {K : Value → World → Prop} (h : OG P ops ⟨some d, op, ty, pos, af, none⟩ ρ w K) (a : Act) (hd : d < a.tmps.size) (ha : ∀ i, a.tmps.getD i undef = ρ i) :
  ∃ v, (∀ w', (execOp a.eval ⟨some d, op, ty, pos, af, none⟩).run P w' = .ok (.value v) w') ∧ K v w := by
 have h1 := h.out a (fun a' w' => ∃ v, a' = a.put (some d) v ∧ K v w') (fun _ _ _ => False) ha fun v w' hk => ⟨v, rfl, hk⟩;rw [if_pos (by simp [Region.wanted])] at h1
 rcases h1 with h1 | ⟨_, _, _, h1⟩
 ·unfold Oper.wp at h1
  rcases pure_run (P := P) hp (d := d) (ty := ty) (pos := pos) (af := af) a.eval w with ⟨v, hv⟩ | hn
  ·rw [hv w] at h1;obtain ⟨v', h2, hk⟩ : ∃ v', a.put (some d) v = a.put (some d) v' ∧ K v' w := h1;have h3 := congrArg (fun a' : Act => a'.tmps.getD d undef) h2;simp only [dL hd, if_pos] at h3;subst h3;exact ⟨v, hv, hk⟩
  ·exact (hn _ _ h1).elim
 ·exact h1.elim
structure Cz (D : List Deferred) (fr : List Nat) (N : Nat) (ops : Array Oper) (m : Nat) (ρ : Rf) (J : World → Prop) (V : Nat → Value → World → Prop) (L : Array Bool) (a : Act) (w : World) : Prop where
 nd : a.defers = D
 sz : a.tmps.size = N
 j : J w
 ls : L.size = ops.size
 cl : mz ops L
 tl : ∀ k, m ≤ k → L.getD k false = false
 vs : ∀ i d, i < m → L.getD i false = true → (ops[i]?).bind (·.dst) = some d → V i (a.tmps.getD d undef) w
 yt : ∀ s, (∀ i, i < m → L.getD i false = true → (ops[i]?).bind (·.dst) ≠ some s) → a.tmps.getD s undef = ρ s
 fb : ∀ i ∈ fr, L.getD i false = true → ∀ d, (ops[i]?).bind (·.dst) = some d → ∃ b, a.tmps.getD d undef = .pointer (some ⟨b, 0, none⟩) ∧ b < w.heap.size
 fd : ∀ i ∈ fr, ∀ j ∈ fr, i ≠ j → L.getD i false = true → L.getD j false = true → ∀ d e, (ops[i]?).bind (·.dst) = some d → (ops[j]?).bind (·.dst) = some e → a.tmps.getD d undef ≠ a.tmps.getD e undef
theorem yr {id : Nat} {l : List Oper} (fr fl M : List Nat) (m : Nat) (src : List (List (Nat × Option Nat))) (ds : List (Nat × Nat)) (J : World → Prop) (V : Nat → Value → World → Prop) (hm : P.follows .mixedOrders = true) (hok : ru l m N src ds fl M = true) (hfr : q8 P l fr) (hfm : fr.all (fun i => i < m) = true) (hQp : NP Q)
  (hJ : ∀ w w', J w → Below w.heap.size w w' → J w') (h0 : J w) (hops : DO P l.toArray J V ρ 0 (l.take m) src)
  (tail : ∀ f w', J w' → sO V f w' ds → (∀ i ∈ fr, ∀ j ∈ fr, i ≠ j → f i ≠ f j) → WL ⟨none, D, false⟩ P N l.toArray Q (l.drop m) (iC ρ f ds) w') : WC ⟨none, D, false⟩ P N (.region id l.toArray true) Q ρ w := by
 refine WC.lJ fun a hf => wp_region_any hm ?_;simp only [ru, Bool.and_eq_true, decide_eq_true_eq, beq_iff_eq, List.all_eq_true, List.mem_range] at hok;obtain ⟨⟨⟨⟨⟨⟨⟨⟨⟨⟨⟨⟨⟨hml, _⟩, hds⟩, hnd⟩, hdN⟩, hrd⟩, htail⟩, hready⟩, hend⟩, hdep⟩, hedge⟩, hns⟩, hflo⟩, hM⟩ := hok;have hfl := fun i hi => wY (hflo i hi);have hdo := (vK _ _ _ hops).2;have hpre : ∀ i d, i < m → ((l.toArray[i]?).bind (·.dst)) = some d → (i, d) ∈ ds := fun i d hi hd => by
  rw [hds, List.mem_reverse, List.mem_filterMap];refine ⟨(some d, i), ?_, rfl⟩;rw [List.mem_zipIdx_iff_getElem?];rw [List.getElem?_map, List.getElem?_range hi];simp only [Option.map_some, hd]
 have hdsm : ∀ i d, (i, d) ∈ ds → i < m ∧ ((l.toArray[i]?).bind (·.dst)) = some d := fun i d hp => by
  rw [hds, List.mem_reverse, List.mem_filterMap] at hp;obtain ⟨⟨x, k⟩, hx, hxe⟩ := hp;rw [List.mem_zipIdx_iff_getElem?] at hx
  cases x with
  | none => simp at hxe
  | some d' =>
   simp only [Option.map_some, Option.some.injEq, Prod.mk.injEq] at hxe;obtain ⟨rfl, rfl⟩ := hxe;rw [List.getElem?_map] at hx
   cases hr : (List.range m)[k]? with
   | none => rw [hr] at hx; simp at hx
   | some y =>
    have hkm : k < m := by
     have := (List.getElem?_eq_some_iff.1 hr).1;simpa using this
    rw [List.getElem?_range hkm] at hx;simp only [Option.map_some, Option.some.injEq] at hx;exact ⟨hkm, hx⟩
 have hone : ∀ i j d, i < m → j < m → ((l.toArray[i]?).bind (·.dst)) = some d → ((l.toArray[j]?).bind (·.dst)) = some d → i = j := fun i j d hi hj h1 h2 => by
  have p1 := hpre i d hi h1;have p2 := hpre j d hj h2;have e1 := ((eP (ρ := ρ) (fun i => .int .i64 i) ds d hnd).1 i p1).symm.trans ((eP (ρ := ρ) (fun i => .int .i64 i) ds d hnd).1 j p2);injection e1 with _ e1
  omega
 have hnn : l.toArray.size = l.length := by simp
 have hfm' : ∀ i ∈ fr, i < m := fun i hi => by simpa using List.all_eq_true.1 hfm i hi
 have full : ∀ (L : Array Bool) (a : Act) (w : World) (fuel : Nat), Cz D fr N l.toArray m ρ J V L a w → (∀ i, i < m → L.getD i false = true) → l.length ≤ fuel + m → wpAny P .any l.toArray (eO N D Q) fuel L a w := by
  intro L a w fuel hI hall hfu;have hL : L = fu l.length m := j2 (by rw [hI.ls, hnn]) hml hall hI.tl;rw [hL];refine lf m (fun k h1 h2 => ?_) hend fuel m a w (Nat.le_refl _) hml hfu ?_
  ·have := hready (k - m) Dq;rwa [show m + (k - m) = k by omega] at this
  ·have hfits : fi N D a (iC ρ (fun i => match (l.toArray[i]?).bind (·.dst) with | some d => a.tmps.getD d undef | none => undef) ds) := by
    refine ⟨hI.nd, hI.sz, fun s => ?_⟩;by_cases hs : ∃ i, (i, s) ∈ ds
    ·obtain ⟨i, hi⟩ := hs;rw [(eP _ ds s hnd).1 i hi, (hdsm i s hi).2]
    ·rw [(eP _ ds s hnd).2 fun i hi => hs ⟨i, hi⟩];exact hI.yt s fun i hi _ hd => hs ⟨i, hpre i s hi hd⟩
   refine (tail _ w hI.j (nH ds fun p hp => ?_) fun i hi j hj hij => ?_).out a hfits
   rotate_left
   ·obtain ⟨d, t, ty, pos, af, n, ag, by', zc, hi1, _⟩ := hfr.at i hi;obtain ⟨e, t', ty', pos', af', n', ag', by'', zc', hj1, _⟩ := hfr.at j hj;have hi2 : (l.toArray[i]?).bind (·.dst) = some d := by rw [List.getElem?_toArray, hi1]; rfl
    have hj2 : (l.toArray[j]?).bind (·.dst) = some e := by rw [List.getElem?_toArray, hj1]; rfl
    rw [hi2, hj2];exact hI.fd i hi j hj hij (hall i (hfm' i hi)) (hall j (hfm' j hj)) d e hi2 hj2
   obtain ⟨h1, h2⟩ := hdsm p.1 p.2 hp;have := hI.vs p.1 p.2 h1 (hall _ h1) h2;rw [h2];exact this
 have key : ∀ (fuel : Nat) (L : Array Bool) (a : Act) (w : World), Cz D fr N l.toArray m ρ J V L a w → fuel + L.toList.countP (fun b => b) = l.length → wpAny P .any l.toArray (eO N D Q) fuel L a w := by
  intro fuel
  induction fuel with
  | zero =>
   intro L a w hI hc;have hall : ∀ i, i < l.length → L.getD i false = true := fun i hi => by
    have h1 : L.toList.countP (fun b => b) = L.toList.length := by
     have := hI.ls; simp only [Array.length_toList]; omega
    have h2 := List.countP_eq_length.1 h1;have h3 : i < L.size := by rw [hI.ls, hnn]; exact hi
    have := h2 L[i] (by simp);simpa [h3] using this
   have hmn : l.length ≤ 0 + m := by
    rcases Nat.lt_or_ge m l.length with h | h
    ·have h1 := hall m h;rw [hI.tl m (Nat.le_refl _)] at h1
     cases h1
    ·omega
   exact full L a w 0 hI (fun i hi => hall i Dq) hmn
  | succ fuel ih =>
   intro L a w hI hc;by_cases hall : ∀ i, i < m → L.getD i false = true
   ·refine full L a w (fuel + 1) hI hall ?_;have hL : L = fu l.length m := j2 (by rw [hI.ls, hnn]) hml hall hI.tl;rw [hL, n0] at hc;omega
   ·have hsome : ∃ i, i < m ∧ L.getD i false = false := by
     refine Classical.byContradiction fun hn => hall fun i hi => ?_
     cases hc2 : L.getD i false with
     | true => rfl
     | false => exact absurd ⟨i, hi, hc2⟩ hn
    have hready_spec : ∀ i, i ∈ Region.ready .any l.toArray L ↔ i < l.length ∧ L.getD i true = false ∧ ∃ o, l.toArray[i]? = some o ∧ ∀ e ∈ o.after, Region.binds .any e = true → L.getD e.on false = true := fun i => by
     unfold Region.ready;rw [List.mem_filter, List.mem_range, hnn];constructor
     ·rintro ⟨h1, h2⟩;have ho : l.toArray[i]? = some l[i] := by simp [h1]
      rw [ho] at h2;simp only [Option.map_some, Option.getD_some, Bool.and_eq_true, Bool.not_eq_true'] at h2;refine ⟨h1, h2.1, l[i], ho, fun e he hb => ?_⟩;have := Array.all_eq_true'.1 h2.2 e he;simpa [hb] using this
     ·rintro ⟨h1, h2, o, ho, h3⟩;refine ⟨h1, ?_⟩;rw [ho];simp only [Option.map_some, Option.getD_some, Bool.and_eq_true, Bool.not_eq_true'];refine ⟨h2, Array.all_eq_true'.2 fun e he => ?_⟩
      cases hb : Region.binds .any e with
      | false => simp
      | true => simpa [hb] using h3 e he hb
    have both : ∀ (i : Nat) (_ : i < m) (o : Oper) (_ : l.toArray[i]? = some o) (_ : L.getD i false = false) (_ : ∀ e ∈ o.after, Region.binds .any e = true → L.getD e.on false = true),
      OG P l.toArray o (fun t => a.tmps.getD t undef) w (fun v w2 => Below w.heap.size w w2 ∧ V i v w2) ∧
      ∀ v w2, (Below w.heap.size w w2 ∧ V i v w2) → (i ∈ fr → ∃ b, v = .pointer (some ⟨b, 0, none⟩) ∧ w.heap.size ≤ b ∧ b < w2.heap.size) → wpAny P .any l.toArray (eO N D Q) fuel (L.setIfInBounds i true) (a.put o.dst v) w2 := fun i him o ho hun' hed => by
     have hiL : i < L.size := by rw [hI.ls, hnn]; omega
     have hed' : ∀ o', l.toArray[i]? = some o' → ∀ e ∈ o'.after, Region.binds .any e = true → L.getD e.on false = true := fun o' ho' => by
      rw [ho] at ho'; injection ho' with ho'; subst ho'; exact hed
     have hok' : (l.take m)[i]? = some o := by
      rw [List.getElem?_take, if_pos him];simpa using ho
     obtain ⟨s, hs, hstab, hog⟩ := hdo i o hok';rw [Nat.zero_add] at hstab hog;have hrdi := hrd i him;rw [ho, hs] at hrdi;simp only [Bool.and_eq_true, List.all_eq_true] at hrdi;have hro : cG V ρ (fun t => a.tmps.getD t undef) w s := lW s fun p hp => by
      have hp2 := hrdi.2 p hp
      cases hp3 : p.2 with
      | some j =>
       rw [hp3] at hp2;simp only [Bool.and_eq_true, decide_eq_true_eq, beq_iff_eq] at hp2;exact hI.vs j p.1 hp2.1.1 (gI hM hI.cl i j hed' hp2.2) hp2.1.2
      | none =>
       rw [hp3] at hp2;refine hI.yt p.1 fun j hj hjl hjd => ?_;have h6 := List.all_eq_true.1 hp2 j (by simpa using hj);rw [hjd] at h6;simp only [beq_self_eq_true, Bool.not_true, Bool.false_or, Bool.and_eq_true] at h6;have := gI hM hI.cl j i (fun o' ho' e he hb => hI.cl j o' ho' hjl e he hb) h6.2;rw [hun'] at this
       cases this
     have hnext : ∀ v w2, (Below w.heap.size w w2 ∧ V i v w2) → (i ∈ fr → ∃ b, v = .pointer (some ⟨b, 0, none⟩) ∧ w.heap.size ≤ b ∧ b < w2.heap.size) → wpAny P .any l.toArray (eO N D Q) fuel (L.setIfInBounds i true) (a.put o.dst v) w2 := fun v w2 hv hfv => by
      have hd1 : ∀ d', o.dst = some d' → d' < a.tmps.size := fun d' hd' => by
       rw [hI.sz];exact hdN (i, d') (hpre i d' him (by rw [ho]; exact hd'))
      have hput : ∀ j d, j < m → j ≠ i → (l.toArray[j]?).bind (·.dst) = some d → (a.put o.dst v).tmps.getD d undef = a.tmps.getD d undef := fun j d hj hji hjd => by
       cases hod : o.dst with
       | none => rfl
       | some d' => rw [dL (hd1 d' hod), if_neg fun e => hji (hone j i d hj him hjd (by rw [ho, e]; exact hod))]
      have hputi : ∀ d, (l.toArray[i]?).bind (·.dst) = some d → (a.put o.dst v).tmps.getD d undef = v := fun d hd => by
       rw [ho] at hd;simp only [Option.bind_some] at hd;rw [hd, dL (hd1 d hd), if_pos rfl]
      have hfd : ∀ j ∈ fr, j ≠ i → L.getD j false = true → i ∈ fr → ∀ e, (l.toArray[j]?).bind (·.dst) = some e → a.tmps.getD e undef ≠ v := fun j hj hji hjl hif e hje heq => by
       obtain ⟨b, hb1, hb2⟩ := hI.fb j hj hjl e hje;obtain ⟨b', hv1, hb3, _⟩ := hfv hif;rw [hb1, hv1] at heq;injection heq with heq
       injection heq with heq
       injection heq with heq
       omega
      refine ih _ _ _ ?_ ?_
      ·refine ⟨?_, ?_, hJ _ _ hI.j hv.1, by simpa using hI.ls, ?_, ?_, ?_, ?_, ?_, ?_⟩
       ·cases o.dst <;> exact hI.nd
       ·cases hod : o.dst with
        | none => exact hI.sz
        | some d => simpa [Act.put] using hI.sz
       ·intro k ok hk hkl e he hb;rw [dx hiL] at hkl ⊢;by_cases hki : k = i
        ·subst hki;simp [hed' ok hk e he hb]
        ·simp only [hki, decide_false, Bool.false_or] at hkl;simp [hI.cl k ok hk hkl e he hb]
       ·intro k hk;rw [dx hiL, hI.tl k hk];have : ¬ k = i := Dq;simp [this]
       ·intro j d hj hjl hjd;rw [dx hiL] at hjl;have hd1 : ∀ d', o.dst = some d' → d' < a.tmps.size := fun d' hd' => by
         rw [hI.sz];exact hdN (i, d') (hpre i d' him (by rw [ho]; exact hd'))
        by_cases hji : j = i
        ·subst hji;rw [ho] at hjd;simp only [Option.bind_some] at hjd;rw [hjd, dL (hd1 d hjd), if_pos rfl];exact hv.2
        ·simp only [hji, decide_false, Bool.false_or] at hjl;have hold := hI.vs j d hj hjl hjd;have hdj : (j, d) ∈ ds := hpre j d hj hjd;have hst := (hdo j (l.toArray[j]?.getD default) (by
          have : j < l.length := Dq;rw [List.getElem?_take, if_pos hj];simp [this])).choose_spec.2.1
         rw [Nat.zero_add] at hst;have hne : ∀ d', o.dst = some d' → d ≠ d' := fun d' hd' e => by
          subst e;exact hji (hone j i d hj him hjd (by rw [ho]; exact hd'))
         cases hod : o.dst with
         | none => exact hst _ _ _ hold hv.1
         | some d' =>
          rw [dL (hd1 d' hod), if_neg (hne d' hod)];exact hst _ _ _ hold hv.1
       ·intro s' hs';have hni : ((l.toArray[i]?).bind (·.dst)) ≠ some s' := hs' i him (by rw [dx hiL]; simp);have hold := hI.yt s' fun j hj hjl => hs' j hj (by rw [dx hiL]; simp [hjl]);rw [ho] at hni;simp only [Option.bind_some] at hni
        cases hod : o.dst with
        | none => exact hold
        | some d' =>
         rw [dL (by rw [hI.sz]; exact hdN (i, d') (hpre i d' him (by rw [ho]; exact hod))), if_neg (fun e => hni (by rw [hod, e]))];exact hold
       ·intro j hj hjl d hjd;rw [dx hiL] at hjl;by_cases hji : j = i
        ·subst hji;obtain ⟨b, hb1, _, hb3⟩ := hfv hj;exact ⟨b, (hputi d hjd).trans hb1, hb3⟩
        ·simp only [hji, decide_false, Bool.false_or] at hjl;obtain ⟨b, hb1, hb2⟩ := hI.fb j hj hjl d hjd;exact ⟨b, (hput j d (hfm' j hj) hji hjd).trans hb1, Nat.lt_of_lt_of_le hb2 hv.1.size⟩
       ·intro j hj k hk hjk hjl hkl d e hjd hke;rw [dx hiL] at hjl hkl;by_cases hji : j = i
        ·subst hji;have hkj : k ≠ j := fun e => hjk e.symm;simp only [hkj, decide_false, Bool.false_or] at hkl;rw [hputi d hjd, hput k e (hfm' k hk) hkj hke];exact fun he => hfd k hk hkj hkl hj e hke he.symm
        ·simp only [hji, decide_false, Bool.false_or] at hjl;by_cases hki : k = i
         ·subst hki;rw [hputi e hke, hput j d (hfm' j hj) hji hjd];exact hfd j hj hji hjl hk d hjd
         ·simp only [hki, decide_false, Bool.false_or] at hkl;rw [hput j d (hfm' j hj) hji hjd, hput k e (hfm' k hk) hki hke];exact hI.fd j hj k hk hjk hjl hkl d e hjd hke
      ·have hLi : L.toList[i]? = some false := by
        have h3 : i < L.toList.length := by simpa using hiL
        rw [List.getElem?_eq_getElem h3];have : L.getD i false = L.toList[i] := by simp [hiL]
        rw [← this, hun']
       rw [Array.toList_setIfInBounds, List.countP_set (by simpa using hiL)];have h4 : L.toList[i]'(by simpa using hiL) = false := (List.getElem?_eq_some_iff.1 hLi).2;rw [h4];simp only [Bool.false_eq_true, if_false, if_true];omega
     exact ⟨hog _ w hI.j hro, hnext⟩
    by_cases hnf : ∀ i, i < m → i ∉ fl → L.getD i false = true
    ·obtain ⟨i, him, hun'⟩ := hsome;have hif : i ∈ fl := Classical.byContradiction fun h => by
      have h2 := hnf i him h;rw [hun'] at h2
      cases h2
     obtain ⟨hfree, hedf, d, op, ty, pos, af, hlo, hpu⟩ := hfl i hif;have ho : l.toArray[i]? = some ⟨some d, op, ty, pos, af, none⟩ := by rw [List.getElem?_toArray]; exact hlo
     have hed : ∀ e ∈ af, Region.binds .any e = true → L.getD e.on false = true := fun e he hb => by
      obtain ⟨h1, h2⟩ := hedf _ hlo e he hb;exact hnf e.on h1 h2
     have hil : i < l.length := Dq;have hiL : i < L.size := by rw [hI.ls, hnn]; exact hil
     have hunt : L.getD i true = false := by
      rw [Array.getD_eq_getD_getElem?] at hun' ⊢;rw [Array.getElem?_eq_getElem hiL] at hun' ⊢;simpa using hun'
     obtain ⟨hog, hnext⟩ := both i him _ ho hun' hed;obtain ⟨v, hv, hk⟩ := sn hpu hog a (by rw [hI.sz]; exact hdN (i, d) (hpre i d him (by rw [ho]; rfl))) fun _ => rfl;refine wpAny_first (v := v) ho (Region.noSelect_spec hns) (fun c a w ⟨ρ', _, hq⟩ => (hQp c ρ' w hq).elim) fuel L a w (fun j oj hj hji hjl hno => ?_) ((hready_spec i).2 ⟨hil, hunt, _, ho, hed⟩) (.inl ⟨by simp [Region.wanted], hv⟩) (hnext v w hk fun hfr' => ?_)
     ·refine Region.free_spec ho hfree j oj hj hji ?_ hno;have hjlen : j < l.length := by have := (Array.getElem?_eq_some_iff.1 hj).1; omega
      rw [yW hjlen];rw [decide_eq_false_iff_not];rintro ⟨h1, h2⟩;have h3 := hnf j h1 h2;have hjL : j < L.size := by rw [hI.ls, hnn]; exact hjlen
      rw [Array.getD_eq_getD_getElem?] at h3 hjl;rw [Array.getElem?_eq_getElem hjL] at h3 hjl;simp only [Option.getD_some] at h3 hjl;rw [h3] at hjl
      cases hjl
     ·obtain ⟨d', t, ty', pos', af', n, ag, by', zc, hi1, _⟩ := hfr.at i hfr';rw [hlo] at hi1;injection hi1 with hi1
      injection hi1 with _ hi1
      subst hi1
      cases hpu
    have hsome2 : ∃ i, i < m ∧ i ∉ fl ∧ L.getD i false = false := by
     refine Classical.byContradiction fun hn => hnf fun i hi hif => ?_
     cases hc2 : L.getD i false with
     | true => rfl
     | false => exact absurd ⟨i, hi, hif, hc2⟩ hn
    refine ⟨fun hnil => ?_, fun i hi => ?_⟩
    ·exfalso;have hmin : ∀ k, (∃ i, i < k ∧ i < m ∧ L.getD i false = false) → ∃ i, i < m ∧ L.getD i false = false ∧ ∀ j, j < i → L.getD j false = true := by
      intro k
      induction k with
      | zero => rintro ⟨i, h, _⟩; omega
      | succ k ihk =>
       rintro ⟨i, h1, h2, h3⟩;by_cases hex : ∃ i, i < k ∧ i < m ∧ L.getD i false = false
       ·exact ihk hex
       ·have hik : i = k := by
         rcases Nat.lt_or_ge i k with h | h
         ·exact absurd ⟨i, h, h2, h3⟩ hex
         ·omega
        subst hik;refine ⟨i, h2, h3, fun j hj => ?_⟩
        cases hc2 : L.getD j false with
        | true => rfl
        | false => exact absurd ⟨j, hj, Dq, hc2⟩ hex
     obtain ⟨i0, h1, h2⟩ := hsome;obtain ⟨i, hi, hu, hlow⟩ := hmin (i0 + 1) ⟨i0, Dq, h1, h2⟩;have hil : i < l.length := Dq;have hE := hedge i hil;have ho : l.toArray[i]? = some l[i] := by simp [hil]
     rw [ho] at hE;have hmem : i ∈ Region.ready .any l.toArray L := (hready_spec i).2 ⟨hil, by
      have h3 : i < L.size := by rw [hI.ls, hnn]; exact hil
      rw [Array.getD_eq_getD_getElem?] at hu ⊢;rw [Array.getElem?_eq_getElem h3] at hu ⊢;simpa using hu, l[i], ho, fun e he hb => by
      have := Array.all_eq_true'.1 hE e he;simp only [hb, Bool.not_true, Bool.false_or, decide_eq_true_eq] at this;exact hlow _ this⟩
     rw [hnil] at hmem
     cases hmem
    ·obtain ⟨hil, hun, o, ho, hed⟩ := (hready_spec i).1 hi;have hiL : i < L.size := by rw [hI.ls, hnn]; exact hil
     have hun' : L.getD i false = false := by
      rw [Array.getD_eq_getD_getElem?] at hun ⊢;rw [Array.getElem?_eq_getElem hiL] at hun ⊢;simpa using hun
     have hed' : ∀ o', l.toArray[i]? = some o' → ∀ e ∈ o'.after, Region.binds .any e = true → L.getD e.on false = true := fun o' ho' => by
      rw [ho] at ho'; injection ho' with ho'; subst ho'; exact hed
     have him : i < m := by
      rcases Nat.lt_or_ge i m with h | h
      ·exact h
      ·exfalso
       rcases Nat.lt_or_ge m i with h2 | h2
       ·have h3 := hdep (i - m) Dq;rw [show m + (i - m) = i by omega] at h3;have h4 : (i - m == 0) = false := by simp; omega
        rw [h4, Bool.false_or] at h3;have := gI hM hI.cl i m hed' h3;rw [hI.tl m (Nat.le_refl _)] at this
        cases this
       ·obtain rfl : i = m := Dq;have h4 : (l.length == i) = false := by simp; omega
        rw [h4, Bool.false_or] at htail;have h5 := List.all_eq_true.1 htail;obtain ⟨j, hj, hjf, hju⟩ := hsome2;have h6 := h5 j (by simpa using hj);have h7 : fl.contains j = false := by simpa using hjf
        rw [h7, Bool.false_or] at h6;have := gI hM hI.cl i j hed' h6;rw [hju] at this
        cases this
     obtain ⟨hog, hnext⟩ := both i him o ho hun' hed;have hgo : if Region.wanted o (yielded l.toArray a.tmps) then (o.wp P a w (wpAny P .any l.toArray (eO N D Q) fuel (L.setIfInBounds i true)) (eO N D Q)) ∨ ((o.asks P a w) ∧ LetsOut (eO N D Q)) else wpAny P .any l.toArray (eO N D Q) fuel (L.setIfInBounds i true) (a.put o.dst undef) w := by
      by_cases hif : i ∈ fr
      ·obtain ⟨d, t, ty, pos, af, n, ag, by', zc, hi1, ht⟩ := hfr.at i hif;have ho2 : o = ⟨some d, .alloc t, ty, pos, af, none⟩ := by
        have h7 := ho;rw [List.getElem?_toArray, hi1] at h7;injection h7 with h7
        exact h7.symm
       have hds : d < a.tmps.size := by
        rw [hI.sz];exact hdN (i, d) (hpre i d him (by rw [ho, ho2]; rfl))
       subst ho2;exact xP ht hog a hds _ _ (fun _ => rfl) fun v w' hk hb => hnext v w' hk fun _ => hb
      ·exact hog.out a _ _ (fun _ => rfl) fun v w2 hv => hnext v w2 hv fun h => absurd h hif
     unfold wpOp;rw [ho];exact hgo
 have hJ0 : J ({ w with drawn := w.drawn + 1 } : World) := hJ w _ h0 ⟨rfl, rfl, rfl, Nat.le_refl _, fun _ _ => rfl⟩;have hr0 : ∀ i, (Array.replicate l.toArray.size false).getD i false = false := fun i => by
  rw [Array.getD_eq_getD_getElem?, Array.getElem?_replicate]; split <;> rfl
 refine key _ _ _ _ ⟨hf.nd, hf.sz, hJ0, by simp, fun k o _ hk => ?_, fun k _ => hr0 k, fun i d _ hi => ?_, fun s _ => hf.at_ s, fun i _ hi => ?_, fun i _ j _ _ hi => ?_⟩ ?_
 ·rw [hr0] at hk; cases hk
 ·rw [hr0] at hi; cases hi
 ·rw [hr0] at hi; cases hi
 ·rw [hr0] at hi; cases hi
 ·simp [List.countP_replicate]
end
theorem cY {P : Program} {N : Nat} {ρ : Rf} {w : World} {Q : Kq} {id : Nat} {l : List Oper} (fr fl M : List Nat) (m : Nat) (src : List (List (Nat × Option Nat))) (ds : List (Nat × Nat)) {w0 : World} {H : List HE} (hh : Hp w0 H w) (hm : P.follows .mixedOrders = true) (hok : ru l m N src ds fl M = true)
  (hfr : q8 P l fr) (hfm : fr.all (fun i => i < m) = true) (hQp : NP Q)
  (h : DX P l.toArray (JJ w0 H w) ρ (fun V => ∀ f w', JJ w0 H w w' → sO V f w' ds → (∀ i ∈ fr, ∀ j ∈ fr, i ≠ j → f i ≠ f j) → WL ⟨none, D, false⟩ P N l.toArray Q (l.drop m) (iC ρ f ds) w') 0 CL (l.take m) src) : WC ⟨none, D, false⟩ P N (.region id l.toArray true) Q ρ w := by
 obtain ⟨V, _, h1, h2⟩ := vr _ _ _ _ (fun _ _ _ _ => trivial) h;exact yr fr fl M m src ds (JJ w0 H w) V hm hok hfr hfm hQp (fun _ _ h hb => h.ext hb) (JJ.start hh) h1 h2
end Go.Proofs.YteeckcbbnegmcaaGreatDoor
namespace Go.Proofs.YteeckcbbnegmcaaGreatDoor
open Go.RowKit
variable {ro : Mode}
def cJ (ρ : Rf) : List (Nat × Value) → Rf
 | [] => ρ
 | (d, v) :: r => cx (cJ ρ r) d v
def Ck (f : Nat → Value) : List (Nat × Nat) → List (Nat × Value) → Prop
 | [], [] => True
 | (i, d) :: r, (d', v) :: s => (d = d' ∧ f i = v) ∧ Ck f r s
 | _, _ => False
theorem bk {ρ : Rf} {f : Nat → Value} : ∀ {ds : List (Nat × Nat)} {vs : List (Nat × Value)}, Ck f ds vs → iC ρ f ds = cJ ρ vs
 | [], [], _ => rfl
 | [], _ :: _, h => h.elim
 | _ :: _, [], h => h.elim
 | (i, d) :: r, (d', v) :: s, h => by
  obtain ⟨⟨rfl, rfl⟩, h2⟩ := h;rw [iC, cJ, bk h2]
theorem a5 {f : Nat → Value} : Ck f [] [] := trivial
theorem ae {f : Nat → Value} {i d : Nat} {v : Value} {r : List (Nat × Nat)} {s : List (Nat × Value)} (h : f i = v) (hr : Ck f r s) : Ck f ((i, d) :: r) ((d, v) :: s) := ⟨⟨rfl, h⟩, hr⟩
theorem a6 {P : Program} {N : Nat} {ops : Array Oper} {Q : Kq} {l : List Oper} {ρ ρ' : Rf} {w : World} (h : ρ = ρ') (k : WL ro P N ops Q l ρ' w) : WL ro P N ops Q l ρ w := h ▸ k
section
variable {P : Program} {ops : Array Oper} {J : World → Prop} {ρ : Rf} {T : (Nat → VP) → Prop} {i : Nat} {pv : Nat → VP} {os : List Oper} {s : List (Nat × Option Nat)} {ss : List (List (Nat × Option Nat))} {d : Option Nat} {ty : TypeId} {pos : String} {af : Array Edge}
theorem nY {K : Value → World → Prop} {w : World} {ρ : Rf} {op : Op} {j dj : Nat} {b : Bool} (hj : (ops[j]?).bind (·.dst) = some dj) (hv : ρ dj = undef) (h : K undef w) : OG P ops ⟨d, op, ty, pos, af, some (j, b)⟩ ρ w K :=
 ⟨fun a next Q ha hn => by
  have h1 : Region.wanted ⟨d, op, ty, pos, af, some (j, b)⟩ (yielded ops a.tmps) = false := by
   have h2 := ha dj;rw [hv, Array.getD_eq_getD_getElem?] at h2
   cases h3 : a.tmps[dj]? with
   | none => simp [Region.wanted, yielded, hj, h3]
   | some x =>
    rw [h3] at h2;simp only [Option.getD_some] at h2;subst h2;simp [Region.wanted, yielded, hj, h3, undef]
  rw [h1];exact hn _ _ h⟩
theorem eU {b : Bool} {op : Op} {j dj : Nat} (hj : (ops[j]?).bind (·.dst) = some dj) (hv : ∀ ρ1 w1, J w1 → cG (pv) ρ ρ1 w1 s → ρ1 dj = undef)
  (k : DX P ops J ρ T (i + 1) (dO pv i (Is undef)) os ss) : DX P ops J ρ T i pv (⟨d, op, ty, pos, af, some (j, b)⟩ :: os) (s :: ss) :=
 bj (Is undef) Is.ext (fun ρ1 w1 hj' h => nY hj (hv ρ1 w1 hj' h) ⟨Below.refl _ _, rfl⟩) k
theorem eE {b : Bool} {j dj : Nat} {t e : TypeId} {len sz by' : Nat} {ag : Bool} {parts : Array (Nat × Operand)} {ps : List (Nat × Value)} {zc cs : List Value} (hj : (ops[j]?).bind (·.dst) = some dj) (hg : ∀ ρ1 w1, J w1 → cG (pv) ρ ρ1 w1 s → ρ1 dj = .bool b)
  (ht : P.underlying t = some (.slice e)) (hte : cZ P e = some (sz, ag, by', zc))
  (hp : ∀ ρ1 w1, J w1 → cG (pv) ρ ρ1 w1 s → pI ρ1 parts.toList = ps) (hzl : zc.length = sz) (hf : iA (fun i => some (i * sz, sz)) (fS len zc) ps = some cs) (h0 : ¬ len * sz = 0) (hsl : len * sz ≤ 16777216) (hl : cs.length = len * sz)
  (k : DX P ops J ρ T (i + 1) (dO pv i (Rows len sz cs)) os ss) : DX P ops J ρ T i pv (⟨d, .buildSlice t len parts, ty, pos, af, some (j, b)⟩ :: os) (s :: ss) :=
 bj (Rows len sz cs) Rows.ext (fun ρ1 w1 hj' h => cD hj (hg ρ1 w1 hj' h) (fm ht hte (hp ρ1 w1 hj' h) hzl hf h0 hsl hl fun _ _ ⟨_, hv, hs⟩ hb => ⟨hb, _, _, hv, hs⟩)) k
end
theorem Hp.mq {α : Type} {f : α → List Value} {sz : Nat} {w0 w : World} {H : List HE} {i n c e k g : Nat} {l : List α} {x : α} (hh : Hp w0 H w) (hi : H[i]? = some (.row (some ⟨g, 0, none⟩) n c e sz (aQ f l))) (hf : ∀ x, (f x).length = sz) (h0 : 0 < sz) (hx : l[k]? = some x) : Rd w ⟨g, k * sz, none⟩ (f x) := by
 have hs := hh.aD hi;have hl := hs.cI hf h0;obtain ⟨ad, h1, h2⟩ := hs.2 (by have := (List.getElem?_eq_some_iff.1 hx).1; omega);injection h1 with h1
 subst h1;have h3 := h2.recAt hf hx;rwa [eG, Nat.zero_add] at h3
end Go.Proofs.YteeckcbbnegmcaaGreatDoor
namespace Go.Proofs.YteeckcbbnegmcaaGreatDoor
open Go.RowKit
variable {ro : Mode}
section
variable {P : Program} {ρ : Rf} {w : World}
end
end Go.Proofs.YteeckcbbnegmcaaGreatDoor
namespace Go.Proofs.YteeckcbbnegmcaaGreatDoor
open Go.RowKit
variable {ro : Mode}
section
variable {P : Program} {ρ : Rf} {w : World}
theorem pg {d : Option Nat} {ty : Nat} {pos : String} {af : Array Edge} {g : Option (Nat × Bool)} {x : Operand} {a : Addr} (hx : ev ρ x = .pointer (some a)) :
  (execOp (ev ρ) ⟨d, .nilCheck x, ty, pos, af, g⟩).run P w = .ok (.value (.pointer (some a))) w := by simp [execOp, hx]
end
section
variable {P : Program} {N : Nat} {ops : Array Oper} {Q : Kq} {ρ : Rf} {w : World} {rest : List Oper} {d ty : Nat} {pos : String} {af : Array Edge}
theorem eQ {x : Operand} {a : Addr} (hx : ev ρ x = .pointer (some a)) (hN : d < N) (kk : WL ro P N ops Q rest (cx ρ d (.pointer (some a))) w) : WL ro P N ops Q (⟨some d, .nilCheck x, ty, pos, af, none⟩ :: rest) ρ w := aU rfl rfl hN (pg hx) kk
end
end Go.Proofs.YteeckcbbnegmcaaGreatDoor
namespace Go.Proofs.YteeckcbbnegmcaaGreatDoor
open Go.RowKit
section
variable {P : Program} {N : Nat} {Q : Kq} {ρ : Rf} {w : World}
structure WA (P : Program) (N : Nat) (ops : Array Oper) (Q : Kq) (fuel : Nat) (L : Array Bool) (ρ : Rf) (w : World) : Prop where
 out : ∀ a, Fits N a ρ → wpAny P .any ops (lift N Q) fuel L a w
theorem oP {o : Oper} {a : Act} {next : Rf → World → Prop} {K : Act → World → Prop} {r : Result Next} (h : o.upon P a K (lift N (dQ next Q)) r) : o.upon P a K (lift N Q) r := by
 have hp : ∀ c a w, lift N (dQ next Q) (.panic c) a w → lift N Q (.panic c) a w := fun _ _ _ h => h;have ho : LetsOut (lift N (dQ next Q)) → LetsOut (lift N Q) := fun ⟨a, w, h⟩ => ⟨a, w, h⟩
 cases r with
 | ok n w' =>
  cases n <;> simp only [Oper.upon] at h ⊢ <;> first
   | exact h
   | exact Calls.mono h (fun e w'' he => by cases e <;> first | exact he | exact hp _ _ _ he | exact ho he)
 | halt x w' => cases x <;> simp only [Oper.upon] at h ⊢ <;> first | exact h | exact hp _ _ _ h | exact ho h
theorem vD {ops : Array Oper} {fuel : Nat} {L : Array Bool} {rs : List Nat} (hr : Region.ready .any ops L = rs) (hne : rs ≠ [])
  (h : ∀ i ∈ rs, ∃ o, ops[i]? = some o ∧ WL .plain P N ops (dQ (fun ρ w => WA P N ops Q fuel (L.setIfInBounds i true) ρ w) Q) [o] ρ w) : WA P N ops Q (fuel + 1) L ρ w := by
 refine ⟨fun a hf => wpAny_all hr hne fun i hi => ?_⟩;obtain ⟨o, ho, hw⟩ := h i hi;have h1 := hw.out a hf;have hK : ∀ a w, wpList P ops (lift N (dQ (fun ρ w => WA P N ops Q fuel (L.setIfInBounds i true) ρ w) Q)) [] a w → wpAny P .any ops (lift N Q) fuel (L.setIfInBounds i true) a w := fun a w ⟨ρ', hf', hq⟩ => by
  have hq' : WA P N ops Q fuel (L.setIfInBounds i true) ρ' w := hq;exact hq'.out a hf'
 unfold wpOp;rw [ho];simp only [];unfold wpList at h1;split at h1
 ·rename_i hwt;rw [if_pos hwt];refine h1.imp (fun h2 => Oper.wp_mono hK ?_) (fun h2 => ⟨h2.1, ?_⟩)
  ·unfold Oper.wp at h2 ⊢;exact oP h2
  ·obtain ⟨a', w', h3⟩ := h2.2;exact ⟨a', w', h3⟩
 ·rename_i hwt;rw [if_neg hwt];exact hK _ _ h1
theorem dt {ops : Array Oper} {fuel : Nat} {L : Array Bool} {i : Nat} {o : Oper} (hr : Region.ready .any ops L = [i]) (ho : ops[i]? = some o)
  (h : WL .plain P N ops (dQ (fun ρ w => WA P N ops Q fuel (L.setIfInBounds i true) ρ w) Q) [o] ρ w) : WA P N ops Q (fuel + 1) L ρ w :=
 vD hr (by simp) fun j hj => by
  obtain rfl : j = i := by simpa using hj
  exact ⟨o, ho, h⟩
theorem kC {ops : Array Oper} {fuel : Nat} {L : Array Bool} {i i2 : Nat} {o o2 : Oper} (hr : Region.ready .any ops L = [i, i2]) (ho : ops[i]? = some o) (ho2 : ops[i2]? = some o2)
  (h : WL .plain P N ops (dQ (fun ρ w => WA P N ops Q fuel (L.setIfInBounds i true) ρ w) Q) [o] ρ w)
  (h2 : WL .plain P N ops (dQ (fun ρ w => WA P N ops Q fuel (L.setIfInBounds i2 true) ρ w) Q) [o2] ρ w) : WA P N ops Q (fuel + 1) L ρ w :=
 vD hr (by simp) fun j hj => by
  rcases List.mem_cons.1 hj with rfl | hj
  ·exact ⟨o, ho, h⟩
  ·obtain rfl : j = i2 := by simpa using hj
   exact ⟨o2, ho2, h2⟩
theorem cH {ops : Array Oper} {fuel : Nat} {L : Array Bool} (h : WA P N ops Q fuel L ρ w) : WL .plain P N ops (dQ (fun ρ w => WA P N ops Q fuel L ρ w) Q) [] ρ w := aa h
theorem dT {l : List Oper} {fuel : Nat} {L : Array Bool} (m : Nat) (hm : m ≤ l.length) (hL : L = fu l.length m) (hf : l.length ≤ fuel + m)
  (hr : ((List.range (l.length - m)).all fun k => Region.ready .any l.toArray (fu l.length (m + k)) == [m + k]) = true) (hend : Region.ready .any l.toArray (fu l.length l.length) = [])
  (h : WL .plain P N l.toArray Q (l.drop m) ρ w) : WA P N l.toArray Q fuel L ρ w :=
 ⟨fun a hfits => by
  rw [hL];refine lf m (fun k h1 h2 => ?_) hend fuel m a w (Nat.le_refl _) hm hf (h.out a hfits);have h3 := List.all_eq_true.1 hr (k - m) (by simp; omega);rw [show m + (k - m) = k by omega] at h3;exact eq_of_beq h3⟩
theorem jh {id : Nat} {l : List Oper} {w0 : World} {H : List HE} (hh : Hp w0 H w) (hm : P.follows .mixedOrders = true) (h : ∀ w', JJ w0 H w w' → WA P N l.toArray Q l.length (Array.replicate l.length false) ρ w') : WC .plain P N (.region id l.toArray true) Q ρ w := by
 refine WC.lJ fun a hf => wp_region_any hm ?_;have hb : Below w.heap.size w ({ w with drawn := w.drawn + 1 } : World) := ⟨rfl, rfl, rfl, Nat.le_refl _, fun _ _ => rfl⟩;have := (h _ ((JJ.start hh).ext hb)).out a hf;simpa using this
end
end Go.Proofs.YteeckcbbnegmcaaGreatDoor
namespace Go.Proofs.YteeckcbbnegmcaaGreatDoor
open Go.RowKit
section
variable {P : Program} {N : Nat} {Q : Kq} {ρ : Rf} {w : World}
def wy : List Nat → List (List Nat)
 | [] => [[]]
 | x :: r => wy r ++ (wy r).map (x :: ·)
theorem nq (p : Nat → Bool) : ∀ l : List Nat, l.filter p ∈ wy l
 | [] => by simp [wy]
 | x :: r => by
  have ih := nq p r;rw [List.filter_cons, wy];split
  ·exact List.mem_append_right _ (List.mem_map.2 ⟨_, ih, rfl⟩)
  ·exact List.mem_append_left _ ih
def lD (n m : Nat) (fl D : List Nat) : Array Bool := ((List.range n).map fun i => decide (i < m ∧ (i ∉ fl ∨ i ∈ D))).toArray
def vI (l : List Oper) (fl D : List Nat) : Bool := D.all fun i => match l[i]? with
 | some o => o.after.all fun e => !Region.binds .any e || !fl.contains e.on || D.contains e.on
 | none => true
def BZ (ds : List (Nat × Nat)) (fl D : List Nat) : List (Nat × Nat) := ds.filter fun p => !fl.contains p.1 || D.contains p.1
def vL (l : List Oper) (m : Nat) (fl : List Nat) (ds : List (Nat × Nat)) : List (List Nat × Nat × List (Nat × Nat)) :=
 ((wy fl).filter (vI l fl)).map fun D => (D, l.length - (lD l.length m fl D).toList.countP (fun b => b) - 1, BZ ds fl D)
def rP (l : List Oper) (m N : Nat) (src : List (List (Nat × Option Nat))) (ds : List (Nat × Nat)) (fl M : List Nat) : Bool :=
 let ops := l.toArray
 let pre := (List.range m).map fun i => ((ops[i]?).bind (·.dst))
 (m ≤ l.length) && (src.length == m) &&
 (ds == (pre.zipIdx.filterMap fun (d, i) => d.map fun d => (i, d)).reverse) && (decide (ds.map (·.2)).Nodup) && (ds.all fun p => p.2 < N) &&
 ((List.range m).all fun i => match ops[i]?, src[i]? with
  | some o, some s => ((o.looksAt ops).all fun t => s.any fun p => p.1 == t) &&
    s.all fun p => match p.2 with
     | some j => (j < m) && ((ops[j]?).bind (·.dst) == some p.1) && (M.getD i 0).testBit j
     | none => (List.range m).all fun j => !((ops[j]?).bind (·.dst) == some p.1) || (j != i && (M.getD j 0).testBit i)
  | _, _ => false) &&
 (l.length == m || ((List.range m).all fun i => fl.contains i || (M.getD m 0).testBit i)) &&
 ((List.range (l.length - m)).all fun k => k == 0 || (M.getD (m + k) 0).testBit m) &&
 ((List.range l.length).all fun i => match ops[i]? with | some o => o.after.all fun e => !Region.binds .any e || e.on < i | none => false) && (nW l [] == M)
theorem yQ {id : Nat} {l : List Oper} (fl M : List Nat) (m : Nat) (src : List (List (Nat × Option Nat))) (ds : List (Nat × Nat)) (Ds : List (List Nat × Nat × List (Nat × Nat))) (J : World → Prop) (V : Nat → Value → World → Prop) (hm : P.follows .mixedOrders = true) (hok : rP l m N src ds fl M = true) (hDs : vL l m fl ds = Ds) (hmn : m < l.length)
  (hJ : ∀ w w', J w → Below w.heap.size w w' → J w') (h0 : J w) (hops : DO P l.toArray J V ρ 0 (l.take m) src)
  (tail : ∀ p ∈ Ds, ∀ f w', J w' → sO V f w' p.2.2 → WL .plain P N l.toArray (dQ (fun ρ w => WA P N l.toArray Q p.2.1 ((lD l.length m fl p.1).setIfInBounds m true) ρ w) Q) ((l.drop m).take 1) (iC ρ f p.2.2) w') : WC .plain P N (.region id l.toArray true) Q ρ w := by
 refine WC.lJ fun a hf => wp_region_any hm ?_;simp only [rP, Bool.and_eq_true, decide_eq_true_eq, beq_iff_eq, List.all_eq_true, List.mem_range] at hok;obtain ⟨⟨⟨⟨⟨⟨⟨⟨⟨hml, _⟩, hds⟩, hnd⟩, hdN⟩, hrd⟩, htail⟩, hdep⟩, hedge⟩, hM⟩ := hok;have hdo := (vK _ _ _ hops).2;have hpre : ∀ i d, i < m → ((l.toArray[i]?).bind (·.dst)) = some d → (i, d) ∈ ds := fun i d hi hd => by
  rw [hds, List.mem_reverse, List.mem_filterMap];refine ⟨(some d, i), ?_, rfl⟩;rw [List.mem_zipIdx_iff_getElem?];rw [List.getElem?_map, List.getElem?_range hi];simp only [Option.map_some, hd]
 have hdsm : ∀ i d, (i, d) ∈ ds → i < m ∧ ((l.toArray[i]?).bind (·.dst)) = some d := fun i d hp => by
  rw [hds, List.mem_reverse, List.mem_filterMap] at hp;obtain ⟨⟨x, k⟩, hx, hxe⟩ := hp;rw [List.mem_zipIdx_iff_getElem?] at hx
  cases x with
  | none => simp at hxe
  | some d' =>
   simp only [Option.map_some, Option.some.injEq, Prod.mk.injEq] at hxe;obtain ⟨rfl, rfl⟩ := hxe;rw [List.getElem?_map] at hx
   cases hr : (List.range m)[k]? with
   | none => rw [hr] at hx; simp at hx
   | some y =>
    have hkm : k < m := by
     have := (List.getElem?_eq_some_iff.1 hr).1;simpa using this
    rw [List.getElem?_range hkm] at hx;simp only [Option.map_some, Option.some.injEq] at hx;exact ⟨hkm, hx⟩
 have hone : ∀ i j d, i < m → j < m → ((l.toArray[i]?).bind (·.dst)) = some d → ((l.toArray[j]?).bind (·.dst)) = some d → i = j := fun i j d hi hj h1 h2 => by
  have p1 := hpre i d hi h1;have p2 := hpre j d hj h2;have e1 := ((eP (ρ := ρ) (fun i => .int .i64 i) ds d hnd).1 i p1).symm.trans ((eP (ρ := ρ) (fun i => .int .i64 i) ds d hnd).1 j p2);injection e1 with _ e1
  omega
 have hnn : l.toArray.size = l.length := by simp
 have part : ∀ (L : Array Bool) (a : Act) (w : World) (fuel : Nat), Cz [] [] N l.toArray m ρ J V L a w → (∀ i, i < m → i ∉ fl → L.getD i false = true) → fuel + 1 + L.toList.countP (fun b => b) = l.length → ∀ o, l.toArray[m]? = some o →
   wpOp P l.toArray (lift N Q) m (wpAny P .any l.toArray (lift N Q) fuel (L.setIfInBounds m true)) a w := by
  intro L a w fuel hI hall hfu o ho;have hflt : ∀ i, i ∈ fl.filter (fun i => L.getD i false) ↔ i ∈ fl ∧ L.getD i false = true := fun i => by rw [List.mem_filter]
  have hL : L = lD l.length m fl (fl.filter fun i => L.getD i false) := by
   apply Array.ext (by simp [lD, hI.ls]);intro i h1 h2;have e1 : L.getD i false = L[i] := by simp [h1]
   rw [← e1];simp only [lD, List.getElem_toArray, List.getElem_map, List.getElem_range]
   rcases Nat.lt_or_ge i m with h | h
   ·by_cases hif : i ∈ fl
    ·cases hc : L.getD i false with
     | true => exact (decide_eq_true ⟨h, .inr ((hflt i).2 ⟨hif, hc⟩)⟩).symm
     | false => exact (decide_eq_false fun hh => hh.2.elim (fun hn => hn hif) fun hd => by rw [((hflt i).1 hd).2] at hc; cases hc).symm
    ·rw [hall i h hif];exact (decide_eq_true ⟨h, .inl hif⟩).symm
   ·rw [hI.tl i h];exact (decide_eq_false fun hh => by omega).symm
  have hcl : vI l fl (fl.filter fun i => L.getD i false) = true := List.all_eq_true.2 fun i hi => by
   obtain ⟨h1, h2⟩ := (hflt i).1 hi
   cases hli : l[i]? with
   | none => rfl
   | some oi =>
    refine Array.all_eq_true'.2 fun e he => ?_
    cases hb : Region.binds .any e with
    | false => rfl
    | true =>
     have h3 := hI.cl i oi (by rw [List.getElem?_toArray]; exact hli) h2 e he hb;by_cases hef : e.on ∈ fl
     ·rw [Bool.or_eq_true];exact .inr (List.contains_iff_mem.2 ((hflt _).2 ⟨hef, h3⟩))
     ·simp [hef]
  have hmem : (fl.filter (fun i => L.getD i false), l.length - (lD l.length m fl (fl.filter fun i => L.getD i false)).toList.countP (fun b => b) - 1, BZ ds fl (fl.filter fun i => L.getD i false)) ∈ Ds := by
   rw [← hDs];exact List.mem_map.2 ⟨_, List.mem_filter.2 ⟨nq _ _, hcl⟩, rfl⟩
  have hfu' : l.length - L.toList.countP (fun b => b) - 1 = fuel := Dq;have htl := tail _ hmem;simp only [← hL, hfu'] at htl;have hsub : ∀ p ∈ BZ ds fl (fl.filter fun i => L.getD i false), p ∈ ds ∧ L.getD p.1 false = true := fun p hp => by
   obtain ⟨h1, h2⟩ := List.mem_filter.1 hp;refine ⟨h1, ?_⟩;simp only [Bool.or_eq_true, Bool.not_eq_true', List.contains_eq_mem, decide_eq_false_iff_not, decide_eq_true_eq] at h2
   rcases h2 with h2 | h2
   ·exact hall _ (hdsm _ _ h1).1 h2
   ·exact ((hflt _).1 h2).2
  have hnd' : ((BZ ds fl (fl.filter fun i => L.getD i false)).map (·.2)).Nodup := (List.filter_sublist.map _).nodup hnd;have hfits : Fits N a (iC ρ (fun i => match (l.toArray[i]?).bind (·.dst) with | some d => a.tmps.getD d undef | none => undef) (BZ ds fl (fl.filter fun i => L.getD i false))) := by
   refine ⟨hI.nd, hI.sz, fun s => ?_⟩;by_cases hs : ∃ i, (i, s) ∈ BZ ds fl (fl.filter fun i => L.getD i false)
   ·obtain ⟨i, hi⟩ := hs;rw [(eP _ _ s hnd').1 i hi, (hdsm i s (hsub _ hi).1).2]
   ·rw [(eP _ _ s hnd').2 fun i hi => hs ⟨i, hi⟩];refine hI.yt s fun i hi hil hd => hs ⟨i, List.mem_filter.2 ⟨hpre i s hi hd, ?_⟩⟩;by_cases hif : i ∈ fl
    ·rw [Bool.or_eq_true];exact .inr (List.contains_iff_mem.2 ((hflt i).2 ⟨hif, hil⟩))
    ·simp [hif]
  have h1 := (htl (fun i => match (l.toArray[i]?).bind (·.dst) with | some d => a.tmps.getD d undef | none => undef) w hI.j (nH _ fun p hp => by
   obtain ⟨h1, h2⟩ := hsub p hp;obtain ⟨h3, h4⟩ := hdsm p.1 p.2 h1;have := hI.vs p.1 p.2 h3 h2 h4;rw [h4];exact this)).out a hfits
  have hone' : (l.drop m).take 1 = [o] := by
   rw [List.getElem?_toArray] at ho;obtain ⟨h2, h3⟩ := List.getElem?_eq_some_iff.1 ho;rw [List.drop_eq_getElem_cons h2, h3]
   rfl
  rw [hone'] at h1;have hK : ∀ a w, wpList P l.toArray (lift N (dQ (fun ρ w => WA P N l.toArray Q fuel (L.setIfInBounds m true) ρ w) Q)) [] a w → wpAny P .any l.toArray (lift N Q) fuel (L.setIfInBounds m true) a w := fun a w ⟨ρ', hf', hq⟩ => by
   have hq' : WA P N l.toArray Q fuel (L.setIfInBounds m true) ρ' w := hq;exact hq'.out a hf'
  unfold wpOp;rw [ho];simp only [];unfold wpList at h1;split at h1
  ·rename_i hwt;rw [if_pos hwt];refine h1.imp (fun h2 => Oper.wp_mono hK ?_) (fun h2 => ⟨h2.1, ?_⟩)
   ·unfold Oper.wp at h2 ⊢;exact oP h2
   ·obtain ⟨a', w', h3⟩ := h2.2;exact ⟨a', w', h3⟩
  ·rename_i hwt;rw [if_neg hwt];exact hK _ _ h1
 have key : ∀ (fuel : Nat) (L : Array Bool) (a : Act) (w : World), Cz [] [] N l.toArray m ρ J V L a w → fuel + L.toList.countP (fun b => b) = l.length → wpAny P .any l.toArray (lift N Q) fuel L a w := by
  intro fuel
  induction fuel with
  | zero =>
   intro L a w hI hc;have hall : ∀ i, i < l.length → L.getD i false = true := fun i hi => by
    have h1 : L.toList.countP (fun b => b) = L.toList.length := by
     have := hI.ls; simp only [Array.length_toList]; omega
    have h2 := List.countP_eq_length.1 h1;have h3 : i < L.size := by rw [hI.ls, hnn]; exact hi
    have := h2 L[i] (by simp);simpa [h3] using this
   have h1 := hall m hmn;rw [hI.tl m (Nat.le_refl _)] at h1
   cases h1
  | succ fuel ih =>
   intro L a w hI hc
   ·have hready_spec : ∀ i, i ∈ Region.ready .any l.toArray L ↔ i < l.length ∧ L.getD i true = false ∧ ∃ o, l.toArray[i]? = some o ∧ ∀ e ∈ o.after, Region.binds .any e = true → L.getD e.on false = true := fun i => by
     unfold Region.ready;rw [List.mem_filter, List.mem_range, hnn];constructor
     ·rintro ⟨h1, h2⟩;have ho : l.toArray[i]? = some l[i] := by simp [h1]
      rw [ho] at h2;simp only [Option.map_some, Option.getD_some, Bool.and_eq_true, Bool.not_eq_true'] at h2;refine ⟨h1, h2.1, l[i], ho, fun e he hb => ?_⟩;have := Array.all_eq_true'.1 h2.2 e he;simpa [hb] using this
     ·rintro ⟨h1, h2, o, ho, h3⟩;refine ⟨h1, ?_⟩;rw [ho];simp only [Option.map_some, Option.getD_some, Bool.and_eq_true, Bool.not_eq_true'];refine ⟨h2, Array.all_eq_true'.2 fun e he => ?_⟩
      cases hb : Region.binds .any e with
      | false => simp
      | true => simpa [hb] using h3 e he hb
    have both : ∀ (i : Nat) (_ : i < m) (o : Oper) (_ : l.toArray[i]? = some o) (_ : L.getD i false = false) (_ : ∀ e ∈ o.after, Region.binds .any e = true → L.getD e.on false = true),
      OG P l.toArray o (fun t => a.tmps.getD t undef) w (fun v w2 => Below w.heap.size w w2 ∧ V i v w2) ∧
      ∀ v w2, (Below w.heap.size w w2 ∧ V i v w2) → (i ∈ ([] : List Nat) → ∃ b, v = .pointer (some ⟨b, 0, none⟩) ∧ w.heap.size ≤ b ∧ b < w2.heap.size) → wpAny P .any l.toArray (lift N Q) fuel (L.setIfInBounds i true) (a.put o.dst v) w2 := fun i him o ho hun' hed => by
     have hiL : i < L.size := by rw [hI.ls, hnn]; omega
     have hed' : ∀ o', l.toArray[i]? = some o' → ∀ e ∈ o'.after, Region.binds .any e = true → L.getD e.on false = true := fun o' ho' => by
      rw [ho] at ho'; injection ho' with ho'; subst ho'; exact hed
     have hok' : (l.take m)[i]? = some o := by
      rw [List.getElem?_take, if_pos him];simpa using ho
     obtain ⟨s, hs, hstab, hog⟩ := hdo i o hok';rw [Nat.zero_add] at hstab hog;have hrdi := hrd i him;rw [ho, hs] at hrdi;simp only [Bool.and_eq_true, List.all_eq_true] at hrdi;have hro : cG V ρ (fun t => a.tmps.getD t undef) w s := lW s fun p hp => by
      have hp2 := hrdi.2 p hp
      cases hp3 : p.2 with
      | some j =>
       rw [hp3] at hp2;simp only [Bool.and_eq_true, decide_eq_true_eq, beq_iff_eq] at hp2;exact hI.vs j p.1 hp2.1.1 (gI hM hI.cl i j hed' hp2.2) hp2.1.2
      | none =>
       rw [hp3] at hp2;refine hI.yt p.1 fun j hj hjl hjd => ?_;have h6 := List.all_eq_true.1 hp2 j (by simpa using hj);rw [hjd] at h6;simp only [beq_self_eq_true, Bool.not_true, Bool.false_or, Bool.and_eq_true] at h6;have := gI hM hI.cl j i (fun o' ho' e he hb => hI.cl j o' ho' hjl e he hb) h6.2;rw [hun'] at this
       cases this
     have hnext : ∀ v w2, (Below w.heap.size w w2 ∧ V i v w2) → (i ∈ ([] : List Nat) → ∃ b, v = .pointer (some ⟨b, 0, none⟩) ∧ w.heap.size ≤ b ∧ b < w2.heap.size) → wpAny P .any l.toArray (lift N Q) fuel (L.setIfInBounds i true) (a.put o.dst v) w2 := fun v w2 hv hfv => by
      have hd1 : ∀ d', o.dst = some d' → d' < a.tmps.size := fun d' hd' => by
       rw [hI.sz];exact hdN (i, d') (hpre i d' him (by rw [ho]; exact hd'))
      have hput : ∀ j d, j < m → j ≠ i → (l.toArray[j]?).bind (·.dst) = some d → (a.put o.dst v).tmps.getD d undef = a.tmps.getD d undef := fun j d hj hji hjd => by
       cases hod : o.dst with
       | none => rfl
       | some d' => rw [dL (hd1 d' hod), if_neg fun e => hji (hone j i d hj him hjd (by rw [ho, e]; exact hod))]
      have hputi : ∀ d, (l.toArray[i]?).bind (·.dst) = some d → (a.put o.dst v).tmps.getD d undef = v := fun d hd => by
       rw [ho] at hd;simp only [Option.bind_some] at hd;rw [hd, dL (hd1 d hd), if_pos rfl]
      refine ih _ _ _ ?_ ?_
      ·refine ⟨?_, ?_, hJ _ _ hI.j hv.1, by simpa using hI.ls, ?_, ?_, ?_, ?_, ?_, ?_⟩
       ·cases o.dst <;> exact hI.nd
       ·cases hod : o.dst with
        | none => exact hI.sz
        | some d => simpa [Act.put] using hI.sz
       ·intro k ok hk hkl e he hb;rw [dx hiL] at hkl ⊢;by_cases hki : k = i
        ·subst hki;simp [hed' ok hk e he hb]
        ·simp only [hki, decide_false, Bool.false_or] at hkl;simp [hI.cl k ok hk hkl e he hb]
       ·intro k hk;rw [dx hiL, hI.tl k hk];have : ¬ k = i := Dq;simp [this]
       ·intro j d hj hjl hjd;rw [dx hiL] at hjl;have hd1 : ∀ d', o.dst = some d' → d' < a.tmps.size := fun d' hd' => by
         rw [hI.sz];exact hdN (i, d') (hpre i d' him (by rw [ho]; exact hd'))
        by_cases hji : j = i
        ·subst hji;rw [ho] at hjd;simp only [Option.bind_some] at hjd;rw [hjd, dL (hd1 d hjd), if_pos rfl];exact hv.2
        ·simp only [hji, decide_false, Bool.false_or] at hjl;have hold := hI.vs j d hj hjl hjd;have hdj : (j, d) ∈ ds := hpre j d hj hjd;have hst := (hdo j (l.toArray[j]?.getD default) (by
          have : j < l.length := Dq;rw [List.getElem?_take, if_pos hj];simp [this])).choose_spec.2.1
         rw [Nat.zero_add] at hst;have hne : ∀ d', o.dst = some d' → d ≠ d' := fun d' hd' e => by
          subst e;exact hji (hone j i d hj him hjd (by rw [ho]; exact hd'))
         cases hod : o.dst with
         | none => exact hst _ _ _ hold hv.1
         | some d' =>
          rw [dL (hd1 d' hod), if_neg (hne d' hod)];exact hst _ _ _ hold hv.1
       ·intro s' hs';have hni : ((l.toArray[i]?).bind (·.dst)) ≠ some s' := hs' i him (by rw [dx hiL]; simp);have hold := hI.yt s' fun j hj hjl => hs' j hj (by rw [dx hiL]; simp [hjl]);rw [ho] at hni;simp only [Option.bind_some] at hni
        cases hod : o.dst with
        | none => exact hold
        | some d' =>
         rw [dL (by rw [hI.sz]; exact hdN (i, d') (hpre i d' him (by rw [ho]; exact hod))), if_neg (fun e => hni (by rw [hod, e]))];exact hold
       ·intro j hj
        cases hj
       ·intro j hj
        cases hj
      ·have hLi : L.toList[i]? = some false := by
        have h3 : i < L.toList.length := by simpa using hiL
        rw [List.getElem?_eq_getElem h3];have : L.getD i false = L.toList[i] := by simp [hiL]
        rw [← this, hun']
       rw [Array.toList_setIfInBounds, List.countP_set (by simpa using hiL)];have h4 : L.toList[i]'(by simpa using hiL) = false := (List.getElem?_eq_some_iff.1 hLi).2;rw [h4];simp only [Bool.false_eq_true, if_false, if_true];omega
     exact ⟨hog _ w hI.j hro, hnext⟩
    refine ⟨fun hnil => ?_, fun i hi => ?_⟩
    ·exfalso;have hmin : ∀ k, (∃ i, i < k ∧ i < m + 1 ∧ L.getD i false = false) → ∃ i, i < m + 1 ∧ L.getD i false = false ∧ ∀ j, j < i → L.getD j false = true := by
      intro k
      induction k with
      | zero => rintro ⟨i, h, _⟩; omega
      | succ k ihk =>
       rintro ⟨i, h1, h2, h3⟩;by_cases hex : ∃ i, i < k ∧ i < m + 1 ∧ L.getD i false = false
       ·exact ihk hex
       ·have hik : i = k := by
         rcases Nat.lt_or_ge i k with h | h
         ·exact absurd ⟨i, h, h2, h3⟩ hex
         ·omega
        subst hik;refine ⟨i, h2, h3, fun j hj => ?_⟩
        cases hc2 : L.getD j false with
        | true => rfl
        | false => exact absurd ⟨j, hj, Dq, hc2⟩ hex
     obtain ⟨i, hi, hu, hlow⟩ := hmin (m + 1) ⟨m, Dq, Dq, hI.tl m (Nat.le_refl _)⟩;have hil : i < l.length := Dq;have hE := hedge i hil;have ho : l.toArray[i]? = some l[i] := by simp [hil]
     rw [ho] at hE;have hmem : i ∈ Region.ready .any l.toArray L := (hready_spec i).2 ⟨hil, by
      have h3 : i < L.size := by rw [hI.ls, hnn]; exact hil
      rw [Array.getD_eq_getD_getElem?] at hu ⊢;rw [Array.getElem?_eq_getElem h3] at hu ⊢;simpa using hu, l[i], ho, fun e he hb => by
      have := Array.all_eq_true'.1 hE e he;simp only [hb, Bool.not_true, Bool.false_or, decide_eq_true_eq] at this;exact hlow _ this⟩
     rw [hnil] at hmem
     cases hmem
    ·obtain ⟨hil, hun, o, ho, hed⟩ := (hready_spec i).1 hi;have hiL : i < L.size := by rw [hI.ls, hnn]; exact hil
     have hun' : L.getD i false = false := by
      rw [Array.getD_eq_getD_getElem?] at hun ⊢;rw [Array.getElem?_eq_getElem hiL] at hun ⊢;simpa using hun
     have hed' : ∀ o', l.toArray[i]? = some o' → ∀ e ∈ o'.after, Region.binds .any e = true → L.getD e.on false = true := fun o' ho' => by
      rw [ho] at ho'; injection ho' with ho'; subst ho'; exact hed
     rcases Nat.lt_or_ge i m with him | him
     ·obtain ⟨hog, hnext⟩ := both i him o ho hun' hed;have hgo := hog.out a (wpAny P .any l.toArray (lift N Q) fuel (L.setIfInBounds i true)) (lift N Q) (fun _ => rfl) fun v w2 hv => hnext v w2 hv fun h => nomatch h;unfold wpOp;rw [ho];exact hgo
     ·rcases Nat.lt_or_ge m i with h2 | h2
      ·exfalso;have h3 := hdep (i - m) Dq;rw [show m + (i - m) = i by omega] at h3;have h4 : (i - m == 0) = false := by simp; omega
       rw [h4, Bool.false_or] at h3;have := gI hM hI.cl i m hed' h3;rw [hI.tl m (Nat.le_refl _)] at this
       cases this
      ·obtain rfl : i = m := Dq;refine part L a w fuel hI (fun j hj hjf => ?_) hc o ho;have h4 : (l.length == i) = false := by simp; omega
       rw [h4, Bool.false_or] at htail;have h6 := List.all_eq_true.1 htail j (by simpa using hj);have h7 : fl.contains j = false := by simpa using hjf
       rw [h7, Bool.false_or] at h6;exact gI hM hI.cl i j hed' h6
 have hJ0 : J ({ w with drawn := w.drawn + 1 } : World) := hJ w _ h0 ⟨rfl, rfl, rfl, Nat.le_refl _, fun _ _ => rfl⟩;have hr0 : ∀ i, (Array.replicate l.toArray.size false).getD i false = false := fun i => by
  rw [Array.getD_eq_getD_getElem?, Array.getElem?_replicate]; split <;> rfl
 refine key _ _ _ _ ⟨hf.nd, hf.sz, hJ0, by simp, fun k o _ hk => ?_, fun k _ => hr0 k, fun i d _ hi => ?_, fun s _ => hf.at_ s, fun i _ hi => ?_, fun i _ j _ _ hi => ?_⟩ ?_
 ·rw [hr0] at hk; cases hk
 ·rw [hr0] at hi; cases hi
 ·rw [hr0] at hi; cases hi
 ·rw [hr0] at hi; cases hi
 ·simp [List.countP_replicate]
end
theorem qq {P : Program} {N : Nat} {ρ : Rf} {w : World} {Q : Kq} {id : Nat} {l : List Oper} (fl M : List Nat) (m : Nat) (src : List (List (Nat × Option Nat))) (ds : List (Nat × Nat)) (Ds : List (List Nat × Nat × List (Nat × Nat))) {w0 : World} {H : List HE} (hh : Hp w0 H w) (hm : P.follows .mixedOrders = true) (hok : rP l m N src ds fl M = true) (hDs : vL l m fl ds = Ds) (hmn : m < l.length)
  (h : DX P l.toArray (JJ w0 H w) ρ (fun V => ∀ p ∈ Ds, ∀ f w', JJ w0 H w w' → sO V f w' p.2.2 → WL .plain P N l.toArray (dQ (fun ρ w => WA P N l.toArray Q p.2.1 ((lD l.length m fl p.1).setIfInBounds m true) ρ w) Q) ((l.drop m).take 1) (iC ρ f p.2.2) w') 0 CL (l.take m) src) : WC .plain P N (.region id l.toArray true) Q ρ w := by
 obtain ⟨V, _, h1, h2⟩ := vr _ _ _ _ (fun _ _ _ _ => trivial) h;exact yQ fl M m src ds Ds (JJ w0 H w) V hm hok hDs hmn (fun _ _ h hb => h.ext hb) (JJ.start hh) h1 h2
end Go.Proofs.YteeckcbbnegmcaaGreatDoor
namespace Go.Proofs.YteeckcbbnegmcaaGreatDoor
open Go.RowKit
theorem iZ {P : Program} {ρ : Rf} {w : World} {d : Option Nat} {ty : TypeId} {pos : String} {af : Array Edge} {g : Option (Nat × Bool)} {t e : TypeId} {x lo : Operand} {A : Option Addr} {n c l sz : Nat} {k : IntKind} {m : Int} (ht : P.underlying t = some (.slice e)) (hsz : (P.info? e).map (·.size) = some sz) (hx : ev ρ x = .slice A n c) (hlo : ev ρ lo = .int k m)
  (hm : m = (l : Int)) (h1 : l ≤ n) (h2 : n ≤ c) : (execOp (ev ρ) ⟨d, .slice t x (some lo) none none, ty, pos, af, g⟩).run P w = .ok (.value (.slice (if c = l then A else A.map (·.add (l * sz))) (n - l) (c - l))) w :=
 gi (lo := some lo) (hi := none) (l := l) (h := n) ht hsz hx ⟨k, m, hlo, hm⟩ rfl h1 h2
theorem Sl.front {w : World} {A : Option Addr} {n k m : Nat} {xs : List Value} (h : Sl w A n k xs) (hm : m ≤ n) : Sl w A m k (xs.take (m * k)) := by
 have hle : m * k ≤ n * k := Nat.mul_le_mul_right _ hm;refine ⟨by rw [List.length_take, h.1]; omega, fun h0 => ?_⟩;obtain ⟨ad, h1, h2⟩ := h.2 Dq;exact ⟨ad, h1, h2.take _⟩
theorem Sl.back {w : World} {A : Option Addr} {n k l c : Nat} {xs : List Value} (h : Sl w A n k xs) (hl : l ≤ n) (hc : n ≤ c) : Sl w (if c = l then A else A.map (·.add (l * k))) (n - l) k (xs.drop (l * k)) := by
 have h1 := h.cut hl (Nat.le_refl n) hc;have h2 : ((xs.drop (l * k)).take ((n - l) * k)) = xs.drop (l * k) := List.take_of_length_le (by rw [List.length_drop, h.1, Nat.sub_mul]; exact Nat.le_refl _);rwa [h2] at h1
def Db (base : Nat) (t : TypeId) (sz : Nat) : VP := fun v W => ∃ g, v = .slice (some ⟨g, 0, none⟩) 0 0 ∧ W.ownsRow base t sz (.slice (some ⟨g, 0, none⟩) 0 0) 0 []
def xk (base : Nat) (t : TypeId) (n sz : Nat) (cs : List Value) : VP := fun v W => ∃ A c, v = .slice A n c ∧ W.ownsRow base t sz (.slice A n c) n cs
theorem uv {w w' : World} {base : Nat} {t : TypeId} {sz n c : Nat} {A : Option Addr} {xs : List Value} (h : w.ownsRow base t sz (.slice A n c) n xs) (hb : Below w.heap.size w w') : w'.ownsRow base t sz (.slice A n c) n xs := by
 refine ⟨h.1, h.2.imp id ?_⟩;rintro ⟨g, cap, cur, h1, h2, h3, h4⟩;have hlt : g < w.heap.size := by
  rcases Nat.lt_or_ge g w.heap.size with h | h
  ·exact h
  ·rw [Array.getElem?_eq_none h] at h3; cases h3
 exact ⟨g, cap, cur, h1, h2, (hb.block g hlt).trans h3, h4⟩
theorem xk.ext {base : Nat} {t : TypeId} {n sz : Nat} {cs : List Value} (v : Value) (w w' : World) (h : xk base t n sz cs v w) (hb : Below w.heap.size w w') : xk base t n sz cs v w' := let ⟨A, c, h1, h2⟩ := h; ⟨A, c, h1, uv h2 hb⟩
theorem JJ.BC {w0 : World} {H : List HE} {w W : World} {t : TypeId} {n c sz : Nat} {A : Option Addr} {cs : List Value} (hs : Hp w0 H w) (h : Hp w0 H W) (ho : W.ownsRow w.heap.size t sz (.slice A n c) n cs) : Hp w0 (.row A n c t sz cs :: H) W := by
 refine ⟨h.below, fun x hx => ?_, ?_⟩
 ·rcases List.mem_cons.1 hx with rfl | hx
  ·refine ⟨ho.1, ho.2.imp id ?_⟩;rintro ⟨g, cap, cur, h1, h2, h3⟩;exact ⟨g, cap, cur, h1, Nat.le_trans hs.size h2, h3⟩
  ·exact h.own x hx
 ·rw [List.filterMap_cons]
  rcases ho.2 with ⟨h1, _⟩ | ⟨g, cap, cur, h1, h2, _⟩
  ·injection h1 with e1
   subst e1;exact h.nd
  ·injection h1 with e1
   subst e1;show (g :: H.filterMap HE.id).Nodup;refine List.nodup_cons.2 ⟨fun hm => ?_, h.nd⟩;obtain ⟨y, hy, hyb⟩ := List.mem_filterMap.1 hm;have := (eH (hs.own y hy) hyb).2;omega
section
variable {P : Program} {ops : Array Oper} {J : World → Prop} {ρ : Rf} {T : (Nat → VP) → Prop} {i : Nat} {pv : Nat → VP} {os : List Oper} {s : List (Nat × Option Nat)} {ss : List (List (Nat × Option Nat))} {d : Option Nat} {ty : TypeId} {pos : String} {af : Array Edge}
end
end Go.Proofs.YteeckcbbnegmcaaGreatDoor
namespace Go.Proofs.YteeckcbbnegmcaaGreatDoor
open Go.RowKit
variable {D : List Deferred}
section
variable {P : Program} {N : Nat} {Q : Kq} {ρ : Rf} {w : World}
structure Dm (D : List Deferred) (N : Nat) (ops : Array Oper) (m μ : Nat) (ρ : Rf) (J : Bool → World → Prop) (V : Nat → Value → World → Prop) (L : Array Bool) (a : Act) (w : World) : Prop where
 nd : a.defers = D
 sz : a.tmps.size = N
 j : J (L.getD μ false) w
 ls : L.size = ops.size
 cl : mz ops L
 tl : ∀ k, m ≤ k → L.getD k false = false
 vs : ∀ i d, i < m → L.getD i false = true → (ops[i]?).bind (·.dst) = some d → V i (a.tmps.getD d undef) w
 yt : ∀ s, (∀ i, i < m → L.getD i false = true → (ops[i]?).bind (·.dst) ≠ some s) → a.tmps.getD s undef = ρ s
end
def C9 (V : Nat → VP) : List Nat → Prop
 | [] => True
 | i :: r => (∀ v w w', V i v w → V i v w') ∧ C9 V r
structure JC (w0 : World) (H : List HE) (W : World) : Prop where
 hp : Hp w0 H W
end Go.Proofs.YteeckcbbnegmcaaGreatDoor
/- The rules of drawn regions once more, short to write. Plain lemmas, no program in sight. -/
namespace Go.Proofs.YteeckcbbnegmcaaGreatDoor
open Go.RowKit
section
variable {P : Program} {ops : Array Oper} {J : World → Prop} {ρ : Rf} {T : (Nat → VP) → Prop} {i : Nat} {pv : Nat → VP} {os : List Oper} {s : List (Nat × Option Nat)} {ss : List (List (Nat × Option Nat))} {d : Option Nat} {ty : TypeId} {pos : String} {af : Array Edge} {x y : Operand} {t u : TypeId}
theorem fW {k : IntKind} {a : Int} (kk : DX P ops J ρ T (i + 1) (dO pv i (Is (.int k a))) os ss) (hx : ∀ ρ1 w1, J w1 → cG pv ρ ρ1 w1 s → ev ρ1 x = .int k a := by intro ρ1 w1 hj hR; first | exact hR.1 | exact hR.2.1 | exact hR.2.2.1 | exact rfl) : DX P ops J ρ T i pv (⟨d, .move x, ty, pos, af, none⟩ :: os) (s :: ss) := bo (fun ρ1 w1 hj h => cQ (hx ρ1 w1 hj h)) kk
theorem ky {a : Bool} (kk : DX P ops J ρ T (i + 1) (dO pv i (Is (.bool a))) os ss) (hx : ∀ ρ1 w1, J w1 → cG pv ρ ρ1 w1 s → ev ρ1 x = .bool a := by intro ρ1 w1 hj hR; first | exact hR.1 | exact hR.2.1 | exact hR.2.2.1 | exact rfl) : DX P ops J ρ T i pv (⟨d, .move x, ty, pos, af, none⟩ :: os) (s :: ss) := bo (fun ρ1 w1 hj h => cQ (hx ρ1 w1 hj h)) kk
theorem Dd {a : ByteArray} (kk : DX P ops J ρ T (i + 1) (dO pv i (Is (.string a))) os ss) (hx : ∀ ρ1 w1, J w1 → cG pv ρ ρ1 w1 s → ev ρ1 x = .string a := by intro ρ1 w1 hj hR; first | exact hR.1 | exact hR.2.1 | exact hR.2.2.1 | exact rfl) : DX P ops J ρ T i pv (⟨d, .move x, ty, pos, af, none⟩ :: os) (s :: ss) := bo (fun ρ1 w1 hj h => cQ (hx ρ1 w1 hj h)) kk
theorem jv {A : Option Addr} {n c : Nat} (kk : DX P ops J ρ T (i + 1) (dO pv i (Is (.slice A n c))) os ss) (hx : ∀ ρ1 w1, J w1 → cG pv ρ ρ1 w1 s → ev ρ1 x = .slice A n c := by intro ρ1 w1 hj hR; first | exact hR.1 | exact hR.2.1 | exact hR.2.2.1 | exact rfl) : DX P ops J ρ T i pv (⟨d, .move x, ty, pos, af, none⟩ :: os) (s :: ss) := bo (fun ρ1 w1 hj h => cQ (hx ρ1 w1 hj h)) kk
theorem CK {l : List Value} (kk : DX P ops J ρ T (i + 1) (dO pv i (Is (.tuple l.toArray))) os ss) (hx : ∀ ρ1 w1, J w1 → cG pv ρ ρ1 w1 s → ev ρ1 x = .tuple l.toArray := by intro ρ1 w1 hj hR; first | exact hR.1 | exact hR.2.1 | exact hR.2.2.1 | exact rfl) : DX P ops J ρ T i pv (⟨d, .move x, ty, pos, af, none⟩ :: os) (s :: ss) := bo (fun ρ1 w1 hj h => cQ (hx ρ1 w1 hj h)) kk
theorem zL {f : Fn} {l r : List Value} (kk : DX P ops J ρ T (i + 1) (dO pv i (Is (.func f l.toArray r.toArray))) os ss) (hx : ∀ ρ1 w1, J w1 → cG pv ρ ρ1 w1 s → ev ρ1 x = .func f l.toArray r.toArray := by intro ρ1 w1 hj hR; first | exact hR.1 | exact hR.2.1 | exact hR.2.2.1 | exact rfl) : DX P ops J ρ T i pv (⟨d, .move x, ty, pos, af, none⟩ :: os) (s :: ss) := bo (fun ρ1 w1 hj h => cQ (hx ρ1 w1 hj h)) kk
theorem y7 {a : Option Addr} (kk : DX P ops J ρ T (i + 1) (dO pv i (Is (.pointer a))) os ss) (hx : ∀ ρ1 w1, J w1 → cG pv ρ ρ1 w1 s → ev ρ1 x = .pointer a := by intro ρ1 w1 hj hR; first | exact hR.1 | exact hR.2.1 | exact hR.2.2.1 | exact rfl) : DX P ops J ρ T i pv (⟨d, .move x, ty, pos, af, none⟩ :: os) (s :: ss) := bo (fun ρ1 w1 hj h => cQ (hx ρ1 w1 hj h)) kk
theorem Bi {a : Addr} (kk : DX P ops J ρ T (i + 1) (dO pv i (Is (.pointer (some a)))) os ss) (hx : ∀ ρ1 w1, J w1 → cG pv ρ ρ1 w1 s → ev ρ1 x = .pointer (some a) := by intro ρ1 w1 hj hR; first | exact hR.1 | exact hR.2.1 | exact hR.2.2.1 | exact rfl) : DX P ops J ρ T i pv (⟨d, .nilCheck x, ty, pos, af, none⟩ :: os) (s :: ss) := bo (fun ρ1 w1 hj h => pg (hx ρ1 w1 hj h)) kk
theorem dX {c : TypeId} {f b o off : Nat} {ft : TypeId} [hf : dJ P c f off ft] (kk : DX P ops J ρ T (i + 1) (dO pv i (Is (.pointer (some ⟨b, o + off, none⟩)))) os ss) (hx : ∀ ρ1 w1, J w1 → cG pv ρ ρ1 w1 s → ev ρ1 x = .pointer (some ⟨b, o, none⟩) := by intro ρ1 w1 hj hR; first | exact hR.1 | exact hR.2.1 | exact hR.2.2.1 | exact rfl) : DX P ops J ρ T i pv (⟨d, .fieldAddr c x f, ty, pos, af, none⟩ :: os) (s :: ss) := bo (fun ρ1 w1 hj h => iq hf.out (hx ρ1 w1 hj h)) kk
theorem sX {c : TypeId} {f off : Nat} {ad : Addr} {ft : TypeId} [hf : dJ P c f off ft] (kk : DX P ops J ρ T (i + 1) (dO pv i (Is (.pointer (some (ad.add off))))) os ss) (hx : ∀ ρ1 w1, J w1 → cG pv ρ ρ1 w1 s → ev ρ1 x = .pointer (some ad) := by intro ρ1 w1 hj hR; first | exact hR.1 | exact hR.2.1 | exact hR.2.2.1 | exact rfl) : DX P ops J ρ T i pv (⟨d, .fieldAddr c x f, ty, pos, af, none⟩ :: os) (s :: ss) := bo (fun ρ1 w1 hj h => lv hf.out (hx ρ1 w1 hj h)) kk
theorem kP {ad : Addr} {n by' : Nat} {zc : List Value} {v : Value} (hc : ∀ w1, J w1 → w1.cell? ad = some v) [ht : aC P t n false by' zc] (kk : DX P ops J ρ T (i + 1) (dO pv i (Is (v))) os ss) (hx : ∀ ρ1 w1, J w1 → cG pv ρ ρ1 w1 s → ev ρ1 x = .pointer (some ad) := by intro ρ1 w1 hj hR; first | exact hR.1 | exact hR.2.1 | exact hR.2.2.1 | exact rfl) : DX P ops J ρ T i pv (⟨d, .load t x, ty, pos, af, none⟩ :: os) (s :: ss) := bo (fun ρ1 w1 hj h => gP ht.out (hx ρ1 w1 hj h) (hc w1 hj)) kk
theorem wx {ad : Addr} {n by' : Nat} {zc : List Value} (vs : List Value) (hc : ∀ w1, J w1 → Rd w1 ad vs) [ht : aC P t n true by' zc] (kk : DX P ops J ρ T (i + 1) (dO pv i (Is (.agg vs.toArray))) os ss) (hx : ∀ ρ1 w1, J w1 → cG pv ρ ρ1 w1 s → ev ρ1 x = .pointer (some ad) := by intro ρ1 w1 hj hR; first | exact hR.1 | exact hR.2.1 | exact hR.2.2.1 | exact rfl) (hl : vs.length = n := by exact rfl) : DX P ops J ρ T i pv (⟨d, .load t x, ty, pos, af, none⟩ :: os) (s :: ss) := bo (fun ρ1 w1 hj h => kQ ht.out (hx ρ1 w1 hj h) (hc w1 hj) hl) kk
theorem fT {w0 w : World} {H : List HE} {b o n by' : Nat} {zc cs : List Value} {fz : Nat × Nat} {t' : TypeId} {v : Value} (j : Nat) [ht : aC P t n false by' zc] (kk : DX P ops (JJ w0 H w) ρ T (i + 1) (dO pv i (Is (v))) os ss) (hx : ∀ ρ1 w1, JJ w0 H w w1 → cG pv ρ ρ1 w1 s → ev ρ1 x = .pointer (some ⟨b, o, none⟩) := by intro ρ1 w1 hj hR; first | exact hR.1 | exact hR.2.1 | exact hR.2.2.1 | exact rfl) (hi : H[j]? = some (.blk b t' cs fz) := by exact rfl) (hv : cs[o]? = some v := by exact rfl) : DX P ops (JJ w0 H w) ρ T i pv (⟨d, .load t x, ty, pos, af, none⟩ :: os) (s :: ss) := bo (fun ρ1 w1 hj h => gP ht.out (hx ρ1 w1 hj h) (hj.hp.dK hi hv)) kk
theorem fX {w0 w : World} {H : List HE} {b o n by' : Nat} {zc cs : List Value} {fz : Nat × Nat} {t' : TypeId} (j : Nat) (vs : List Value) [ht : aC P t n true by' zc] (kk : DX P ops (JJ w0 H w) ρ T (i + 1) (dO pv i (Is (.agg vs.toArray))) os ss) (hx : ∀ ρ1 w1, JJ w0 H w w1 → cG pv ρ ρ1 w1 s → ev ρ1 x = .pointer (some ⟨b, o, none⟩) := by intro ρ1 w1 hj hR; first | exact hR.1 | exact hR.2.1 | exact hR.2.2.1 | exact rfl) (hi : H[j]? = some (.blk b t' cs fz) := by exact rfl) (hv : (cs.drop o).take n = vs := by exact rfl) (hl : vs.length = n := by exact rfl) : DX P ops (JJ w0 H w) ρ T i pv (⟨d, .load t x, ty, pos, af, none⟩ :: os) (s :: ss) := bo (fun ρ1 w1 hj h => kQ ht.out (hx ρ1 w1 hj h) (hj.hp.aw hi hv) hl) kk
theorem BR {e : TypeId} {B : Option Addr} {n c : Nat} [ht : aF P t (.slice e)] (kk : DX P ops J ρ T (i + 1) (dO pv i (Is (.int .i64 n))) os ss) (hx : ∀ ρ1 w1, J w1 → cG pv ρ ρ1 w1 s → ev ρ1 x = .slice B n c := by intro ρ1 w1 hj hR; first | exact hR.1 | exact hR.2.1 | exact hR.2.2.1 | exact rfl) : DX P ops J ρ T i pv (⟨d, .call ⟨.builtin .len, #[x], #[t]⟩, ty, pos, af, none⟩ :: os) (s :: ss) := bo (fun ρ1 w1 hj h => tu ht.out (hx ρ1 w1 hj h)) kk
theorem wg {k : IntKind} {a b : Int} {r : Bool} (kk : DX P ops J ρ T (i + 1) (dO pv i (Is (.bool r))) os ss) (hx : ∀ ρ1 w1, J w1 → cG pv ρ ρ1 w1 s → ev ρ1 x = .int k a := by intro ρ1 w1 hj hR; first | exact hR.1 | exact hR.2.1 | exact hR.2.2.1 | exact rfl) (hy : ∀ ρ1 w1, J w1 → cG pv ρ ρ1 w1 s → ev ρ1 y = .int k b := by intro ρ1 w1 hj hR; first | exact hR.1 | exact hR.2.1 | exact hR.2.2.1 | exact rfl) (hr : decide (b < a) = r := by first | exact decide_eq_true Dq | exact decide_eq_false Dq | exact rfl) : DX P ops J ρ T i pv (⟨d, .binOp .gtr t x y u, ty, pos, af, none⟩ :: os) (s :: ss) := bo (fun ρ1 w1 hj h => by rw [← hr]; exact vC (hx ρ1 w1 hj h) (hy ρ1 w1 hj h)) kk
theorem pR {k : IntKind} {a b : Int} {r : Bool} (kk : DX P ops J ρ T (i + 1) (dO pv i (Is (.bool r))) os ss) (hx : ∀ ρ1 w1, J w1 → cG pv ρ ρ1 w1 s → ev ρ1 x = .int k a := by intro ρ1 w1 hj hR; first | exact hR.1 | exact hR.2.1 | exact hR.2.2.1 | exact rfl) (hy : ∀ ρ1 w1, J w1 → cG pv ρ ρ1 w1 s → ev ρ1 y = .int k b := by intro ρ1 w1 hj hR; first | exact hR.1 | exact hR.2.1 | exact hR.2.2.1 | exact rfl) (hr : decide (a = b) = r := by first | exact decide_eq_true Dq | exact decide_eq_false Dq | exact rfl) : DX P ops J ρ T i pv (⟨d, .binOp .eql t x y u, ty, pos, af, none⟩ :: os) (s :: ss) := bo (fun ρ1 w1 hj h => by rw [← hr]; exact vc (hx ρ1 w1 hj h) (hy ρ1 w1 hj h)) kk
theorem yB {a b : Int} (kk : DX P ops J ρ T (i + 1) (dO pv i (Is (.int .i64 (a + b)))) os ss) (hx : ∀ ρ1 w1, J w1 → cG pv ρ ρ1 w1 s → ev ρ1 x = .int .i64 a := by intro ρ1 w1 hj hR; first | exact hR.1 | exact hR.2.1 | exact hR.2.2.1 | exact rfl) (hy : ∀ ρ1 w1, J w1 → cG pv ρ ρ1 w1 s → ev ρ1 y = .int .i64 b := by intro ρ1 w1 hj hR; first | exact hR.1 | exact hR.2.1 | exact hR.2.2.1 | exact rfl) (h1 : -9223372036854775808 ≤ a + b := by omega) (h2 : a + b ≤ 9223372036854775807 := by omega) : DX P ops J ρ T i pv (⟨d, .binOp .add t x y u, ty, pos, af, none⟩ :: os) (s :: ss) := bo (fun ρ1 w1 hj h => xL (hx ρ1 w1 hj h) (hy ρ1 w1 hj h) h1 h2) kk
theorem nD {a b : Int} (kk : DX P ops J ρ T (i + 1) (dO pv i (Is (.int .i64 (a - b)))) os ss) (hx : ∀ ρ1 w1, J w1 → cG pv ρ ρ1 w1 s → ev ρ1 x = .int .i64 a := by intro ρ1 w1 hj hR; first | exact hR.1 | exact hR.2.1 | exact hR.2.2.1 | exact rfl) (hy : ∀ ρ1 w1, J w1 → cG pv ρ ρ1 w1 s → ev ρ1 y = .int .i64 b := by intro ρ1 w1 hj hR; first | exact hR.1 | exact hR.2.1 | exact hR.2.2.1 | exact rfl) (h1 : -9223372036854775808 ≤ a - b := by omega) (h2 : a - b ≤ 9223372036854775807 := by omega) : DX P ops J ρ T i pv (⟨d, .binOp .sub t x y u, ty, pos, af, none⟩ :: os) (s :: ss) := bo (fun ρ1 w1 hj h => y3 (hx ρ1 w1 hj h) (hy ρ1 w1 hj h) h1 h2) kk
theorem CT {a b : Int} (kk : DX P ops J ρ T (i + 1) (dO pv i (Is (.int .i64 (a * b)))) os ss) (hx : ∀ ρ1 w1, J w1 → cG pv ρ ρ1 w1 s → ev ρ1 x = .int .i64 a := by intro ρ1 w1 hj hR; first | exact hR.1 | exact hR.2.1 | exact hR.2.2.1 | exact rfl) (hy : ∀ ρ1 w1, J w1 → cG pv ρ ρ1 w1 s → ev ρ1 y = .int .i64 b := by intro ρ1 w1 hj hR; first | exact hR.1 | exact hR.2.1 | exact hR.2.2.1 | exact rfl) (h1 : -9223372036854775808 ≤ a * b := by omega) (h2 : a * b ≤ 9223372036854775807 := by omega) : DX P ops J ρ T i pv (⟨d, .binOp .mul t x y u, ty, pos, af, none⟩ :: os) (s :: ss) := bo (fun ρ1 w1 hj h => yD (hx ρ1 w1 hj h) (hy ρ1 w1 hj h) h1 h2) kk
theorem wk {b : Bool} (kk : DX P ops J ρ T (i + 1) (dO pv i (Is (.bool !b))) os ss) (hx : ∀ ρ1 w1, J w1 → cG pv ρ ρ1 w1 s → ev ρ1 x = .bool b := by intro ρ1 w1 hj hR; first | exact hR.1 | exact hR.2.1 | exact hR.2.2.1 | exact rfl) : DX P ops J ρ T i pv (⟨d, .unOp .not t x, ty, pos, af, none⟩ :: os) (s :: ss) := bo (fun ρ1 w1 hj h => AO (hx ρ1 w1 hj h)) kk
theorem Bh {j : Nat} {vs : List Value} {v : Value} (kk : DX P ops J ρ T (i + 1) (dO pv i (Is (v))) os ss) (hx : ∀ ρ1 w1, J w1 → cG pv ρ ρ1 w1 s → ev ρ1 x = .tuple vs.toArray := by intro ρ1 w1 hj hR; first | exact hR.1 | exact hR.2.1 | exact hR.2.2.1 | exact rfl) (hv : vs[j]? = some v := by exact rfl) : DX P ops J ρ T i pv (⟨d, .extract x j, ty, pos, af, none⟩ :: os) (s :: ss) := bo (fun ρ1 w1 hj h => dP (hx ρ1 w1 hj h) hv) kk
theorem rh {c a b : Operand} {v : Bool} (kk : DX P ops J ρ T (i + 1) (dO pv i (Is (.bool v))) os ss) (hc : ∀ ρ1 w1, J w1 → cG pv ρ ρ1 w1 s → ev ρ1 c = .bool true := by intro ρ1 w1 hj hR; first | exact hR.1 | exact hR.2.1 | exact hR.2.2.1 | exact rfl) (hx : ∀ ρ1 w1, J w1 → cG pv ρ ρ1 w1 s → ev ρ1 a = .bool v := by intro ρ1 w1 hj hR; first | exact hR.1 | exact hR.2.1 | exact hR.2.2.1 | exact rfl) : DX P ops J ρ T i pv (⟨d, .pick c a b, ty, pos, af, none⟩ :: os) (s :: ss) := bo (fun ρ1 w1 hj h => rY (hc ρ1 w1 hj h) (hx ρ1 w1 hj h)) kk
theorem rQ {c a b : Operand} {v : Bool} (kk : DX P ops J ρ T (i + 1) (dO pv i (Is (.bool v))) os ss) (hc : ∀ ρ1 w1, J w1 → cG pv ρ ρ1 w1 s → ev ρ1 c = .bool false := by intro ρ1 w1 hj hR; first | exact hR.1 | exact hR.2.1 | exact hR.2.2.1 | exact rfl) (hx : ∀ ρ1 w1, J w1 → cG pv ρ ρ1 w1 s → ev ρ1 b = .bool v := by intro ρ1 w1 hj hR; first | exact hR.1 | exact hR.2.1 | exact hR.2.2.1 | exact rfl) : DX P ops J ρ T i pv (⟨d, .pick c a b, ty, pos, af, none⟩ :: os) (s :: ss) := bo (fun ρ1 w1 hj h => sB (hc ρ1 w1 hj h) (hx ρ1 w1 hj h)) kk
theorem BQ {e : TypeId} {b n c sz : Nat} {q : IntKind} {m : Int} (k : Nat) [ht : aF P t (.slice e)] [hs : TS P e sz] (kk : DX P ops J ρ T (i + 1) (dO pv i (Is (.pointer (some ⟨b, k * sz, none⟩)))) os ss) (hx : ∀ ρ1 w1, J w1 → cG pv ρ ρ1 w1 s → ev ρ1 x = .slice (some ⟨b, 0, none⟩) n c := by intro ρ1 w1 hj hR; first | exact hR.1 | exact hR.2.1 | exact hR.2.2.1 | exact rfl) (hy : ∀ ρ1 w1, J w1 → cG pv ρ ρ1 w1 s → ev ρ1 y = .int q m := by intro ρ1 w1 hj hR; first | exact hR.1 | exact hR.2.1 | exact hR.2.2.1 | exact rfl) (hm : m = (k : Int) := by omega) (h1 : k < n := by omega) : DX P ops J ρ T i pv (⟨d, .indexAddr t x y, ty, pos, af, none⟩ :: os) (s :: ss) := bo (fun ρ1 w1 hj h => kS ht.out hs.out (hx ρ1 w1 hj h) (hy ρ1 w1 hj h) hm h1) kk
theorem mf {e : TypeId} {ad : Addr} {n c sz : Nat} {q : IntKind} {m : Int} (k : Nat) [ht : aF P t (.slice e)] [hs : TS P e sz] (kk : DX P ops J ρ T (i + 1) (dO pv i (Is (.pointer (some (ad.add (k * sz)))))) os ss) (hx : ∀ ρ1 w1, J w1 → cG pv ρ ρ1 w1 s → ev ρ1 x = .slice (some ad) n c := by intro ρ1 w1 hj hR; first | exact hR.1 | exact hR.2.1 | exact hR.2.2.1 | exact rfl) (hy : ∀ ρ1 w1, J w1 → cG pv ρ ρ1 w1 s → ev ρ1 y = .int q m := by intro ρ1 w1 hj hR; first | exact hR.1 | exact hR.2.1 | exact hR.2.2.1 | exact rfl) (hm : m = (k : Int) := by omega) (h1 : k < n := by omega) : DX P ops J ρ T i pv (⟨d, .indexAddr t x y, ty, pos, af, none⟩ :: os) (s :: ss) := bo (fun ρ1 w1 hj h => eg ht.out hs.out (hx ρ1 w1 hj h) (hy ρ1 w1 hj h) hm h1) kk
theorem dC {f : FuncId} {args : Array Operand} {ts : Array TypeId} {vs : List Value} {v : Value} (hc : ∀ w1, J w1 → Calls P f vs.toArray w1 fun e w' => e = .returned v ∧ Below w1.heap.size w1 w') [hf : aq P f] (kk : DX P ops J ρ T (i + 1) (dO pv i (Is (v))) os ss) (ha : ∀ ρ1 w1, J w1 → cG pv ρ ρ1 w1 s → pL ρ1 args.toList = vs := by intro ρ1 w1 hj hR; repeat (first | exact a0 | (apply ay; first | exact hR.1 | exact hR.2.1 | exact hR.2.2.1 | exact hR.2.2.2.1 | exact rfl))) : DX P ops J ρ T i pv (⟨d, .call ⟨.value (.func f), args, ts⟩, ty, pos, af, none⟩ :: os) (s :: ss) := zG (fun ρ1 w1 hj h => aW hf.out (ha ρ1 w1 hj h)) hc kk
theorem dB {n by' : Nat} {parts : Array (Nat × Operand)} {ps : List (Nat × Value)} {zc : List Value} {pl : List (Nat × Nat)} (cs : List Value) [hte : aC P t n true by' zc] [hpl : iY P t pl] (kk : DX P ops J ρ T (i + 1) (dO pv i (Is (.agg cs.toArray))) os ss) (hp : ∀ ρ1 w1, J w1 → cG pv ρ ρ1 w1 s → pI ρ1 parts.toList = ps := by intro ρ1 w1 hj hR; repeat (first | exact bQ | (apply aY; first | exact hR.1 | exact hR.2.1 | exact hR.2.2.1 | exact hR.2.2.2.1 | exact rfl))) (hf : iA (pl[·]?) zc ps = some cs := by exact rfl) : DX P ops J ρ T i pv (⟨d, .build t parts, ty, pos, af, none⟩ :: os) (s :: ss) := bo (fun ρ1 w1 hj h => rq hte.out hpl.out (hp ρ1 w1 hj h) hf) kk
theorem tF {e : TypeId} {len sz by' : Nat} {ag : Bool} {parts : Array (Nat × Operand)} {ps : List (Nat × Value)} {zc : List Value} (cs : List Value) [ht : aF P t (.slice e)] [hte : aC P e sz ag by' zc] (kk : DX P ops J ρ T (i + 1) (dO pv i (Rows len sz cs)) os ss) (hp : ∀ ρ1 w1, J w1 → cG pv ρ ρ1 w1 s → pI ρ1 parts.toList = ps := by intro ρ1 w1 hj hR; repeat (first | exact bQ | (apply aY; first | exact hR.1 | exact hR.2.1 | exact hR.2.2.1 | exact hR.2.2.2.1 | exact rfl))) (hzl : zc.length = sz := by exact rfl) (hf : iA (fun i => some (i * sz, sz)) (fS len zc) ps = some cs := by exact rfl) (h0 : ¬ len * sz = 0 := by decide) (hsl : len * sz ≤ 16777216 := by decide) (hl : cs.length = len * sz := by exact rfl) : DX P ops J ρ T i pv (⟨d, .buildSlice t len parts, ty, pos, af, none⟩ :: os) (s :: ss) := pQ ht.out hte.out hp hzl hf h0 hsl hl kk
theorem dS {b c : Bool} {op : Op} {j dj : Nat} (kk : DX P ops J ρ T (i + 1) (dO pv i (Is (undef))) os ss) (hj : (ops[j]?).bind (·.dst) = some dj := by exact rfl) (hv : ∀ ρ1 w1, J w1 → cG pv ρ ρ1 w1 s → ρ1 dj = .bool c := by intro ρ1 w1 hj hR; first | exact hR.1 | exact hR.2.1 | exact hR.2.2.1 | exact hR.2.2.2.1) (hb : c ≠ b := by decide) : DX P ops J ρ T i pv (⟨d, op, ty, pos, af, some (j, b)⟩ :: os) (s :: ss) := fQ hj hv hb kk
theorem dU {b : Bool} {op : Op} {j dj : Nat} (kk : DX P ops J ρ T (i + 1) (dO pv i (Is (undef))) os ss) (hj : (ops[j]?).bind (·.dst) = some dj := by exact rfl) (hv : ∀ ρ1 w1, J w1 → cG pv ρ ρ1 w1 s → ρ1 dj = undef := by intro ρ1 w1 hj hR; first | exact hR.1 | exact hR.2.1 | exact hR.2.2.1 | exact hR.2.2.2.1) : DX P ops J ρ T i pv (⟨d, op, ty, pos, af, some (j, b)⟩ :: os) (s :: ss) := eU hj hv kk
theorem dG {b : Bool} {op : Op} {j dj : Nat} (kk : DX P ops J ρ T i pv (⟨d, op, ty, pos, af, none⟩ :: os) (s :: ss)) (hj : (ops[j]?).bind (·.dst) = some dj := by exact rfl) (hv : ∀ ρ1 w1, J w1 → cG pv ρ ρ1 w1 s → ρ1 dj = .bool b := by intro ρ1 w1 hj hR; first | exact hR.1 | exact hR.2.1 | exact hR.2.2.1 | exact hR.2.2.2.1) : DX P ops J ρ T i pv (⟨d, op, ty, pos, af, some (j, b)⟩ :: os) (s :: ss) := let ⟨V, h1, h2, h3⟩ := kk; ⟨V, h1, fun ρ1 w1 hj1 h => cD hj (hv ρ1 w1 hj1 h) (h2 ρ1 w1 hj1 h), h3⟩
end
end Go.Proofs.YteeckcbbnegmcaaGreatDoor
/- Several texts in one: OpsC, Dig, MonoF. -/
namespace Go.Proofs.YteeckcbbnegmcaaGreatDoor
open Go.RowKit
variable {ro : Mode}
section
variable {P : Program} {N : Nat} {ops : Array Oper} {Q : Kq} {ρ : Rf} {w w0 : World} {rest : List Oper} {H : List HE} {d : Nat} {ty : TypeId} {pos : String} {af : Array Edge}
theorem zi (hh : Hp w0 H w) {t s e : TypeId} {x y : Operand} {i b o m c dl dc n cy sz by' : Nat} {ag : Bool} {B : Option Addr} {zc xs news : List Value} (hi : H[i]? = some (.row (some ⟨b, 0, none⟩) m c e sz xs)) (hx : ev ρ x = .slice (some ⟨b, o, none⟩) dl dc) (hy : ev ρ y = .slice B n cy)
  (hsl : Sl w B n sz news) (ht : P.underlying t = some (.slice e)) (hte : cZ P e = some (sz, ag, by', zc)) (ho : o + min n dl * sz ≤ xs.length) (h1 : (news.all Value.oneCell') = true) (hN : d < N)
  (kk : ∀ w', Hp w0 (H.set i (.row (some ⟨b, 0, none⟩) m c e sz (cg xs o (news.take (min n dl * sz))))) w' → WL ro P N ops Q rest (cx ρ d (.int .i64 ((min n dl : Nat) : Int))) w') :
  WL ro P N ops Q (⟨some d, .call ⟨.builtin .copy, #[x, y], #[t, s]⟩, ty, pos, af, none⟩ :: rest) ρ w := by
 obtain ⟨inf, z, dd, hti, hd, hz, hsz, hby, hzc, _⟩ := eD hte;have hrow := hh.at_ hi;obtain ⟨hlen, h2⟩ := hrow;have hnl := hsl.1;have hmin : min n dl * sz ≤ n * sz := Nat.mul_le_mul_right _ (Nat.min_le_left _ _);have hvl : (news.take (min n dl * sz)).length = min n dl * sz := by rw [List.length_take]; omega
 have h1' : ∀ v ∈ news.take (min n dl * sz), v.oneCell' = true := fun v hv => List.all_eq_true.1 h1 v (List.mem_of_mem_take hv);have hcells : (Builtin.firstCells sz (min n dl) (.slice B n cy)).run P w = .ok (news.take (min n dl * sz)).toArray w := by
  cases B with
  | none =>
   have h0 : n = 0 := by
    rcases Nat.eq_zero_or_pos n with h0 | h0
    ·exact h0
    ·obtain ⟨ad, h1, _⟩ := hsl.2 h0; cases h1
   subst h0;simp [Builtin.firstCells]
  | some ad =>
   have hrd : ∀ j u, (news.take (min n dl * sz))[j]? = some u → w.cell? (ad.add j) = some u := by
    intro j u hj;rw [List.getElem?_take] at hj;split at hj
    ·rcases Nat.eq_zero_or_pos n with h0 | h0
     ·subst h0;have : news = [] := List.eq_nil_of_length_eq_zero (by simpa using hnl);simp [this] at hj
     ·obtain ⟨ad', he, hr'⟩ := hsl.2 h0;injection he with he
      subst he;exact hr' j u hj
    ·cases hj
   have := run_loadCells_list (P := P) w ad _ hrd;rw [hvl] at this;simpa [Builtin.firstCells] using this
 generalize news.take (min n dl * sz) = vs at hvl h1' hcells kk;rw [← hvl] at ho
 rcases h2 with ⟨h2, _⟩ | ⟨g, cap, cur, hv, hg, hheap, hmc, hcm, hcur, htake⟩
 ·injection h2 with h2; cases h2
 ·injection hv with hA hn hcap
  injection hA with hA
  injection hA with hA
  subst hA; subst hcap;have hcl : cur.size = cur.toList.length := by simp
  have hle : m * sz ≤ c * sz := Nat.mul_le_mul_right _ hmc;obtain ⟨w', hr, hb', hgr, hs⟩ := ff (P := P) (b := b) (t := e) (fz := (0, 0)) o vs 0 cur.toList w (by simpa using hheap) (.inr (Nat.le_refl _)) (by rw [← hcl]; omega) h1';refine aU rfl rfl hN (w' := w') (v := .int .i64 ((min n dl : Nat) : Int)) ?_ (kk w' (hh.grown hi hgr (.inl rfl) ⟨by rw [eK Dq]; exact hlen, .inr ⟨b, c, (cg cur.toList o vs).toArray, rfl, hg, by simpa using hb', hmc, hcm, ?_, ?_⟩⟩))
  ·have hmm : Nat.min n dl = min n dl := rfl;simp only [execOp, resolve, invoke, hx, hy, List.map_toArray, List.map_cons, List.map_nil];simp [builtin, Builtin.copy_, run_underlying ht, Builtin.lenOf, sizeOf, typeInfo, hti, hsz, hmm, hcells, hr, goInt]
  ·simp only [List.size_toArray];rw [eK (by rw [← hcl]; omega), ← hcl, hcur]
  ·simp only [cg];rw [← htake];have h5 : o + vs.length ≤ m * sz := Dq;have h6 : m * sz ≤ cur.toList.length := by rw [← hcl, hcur]; exact hle
   rw [List.take_take, Nat.min_eq_left Dq, List.drop_take, List.append_assoc, List.append_assoc, List.take_append, List.take_append];simp only [List.length_take, Nat.min_eq_left (show o ≤ cur.toList.length by omega)];rw [List.take_of_length_le (l := cur.toList.take o) (by simp; omega), List.take_of_length_le (l := vs) Dq];congr 2;congr 1;omega
end
end Go.Proofs.YteeckcbbnegmcaaGreatDoor
namespace Go.Proofs.YteeckcbbnegmcaaGreatDoor
def bh (B : Nat) : List Nat → Nat
 | [] => 0
 | d :: l => d + B * bh B l
def bH (B : Nat) : Nat → Nat → List Nat
 | 0, _ => []
 | k + 1, n => n % B :: bH B k (n / B)
def dz : List Nat → List Nat
 | [] => []
 | d :: l => match dz l with
  | [] => if d = 0 then [] else [d]
  | e :: m => d :: e :: m
def aR (B n : Nat) : List Nat := dz (bH B (n.log2 + 1) n)
def Dg (B : Nat) (l : List Nat) : Prop := ∀ d ∈ l, d < B
section
variable {B : Nat}
theorem Dg.nil : Dg B [] := fun _ h => (nomatch h)
theorem Dg.cons {d : Nat} {l : List Nat} (h : d < B) (hl : Dg B l) : Dg B (d :: l) := fun x hx => by
 rcases List.mem_cons.1 hx with rfl | hx
 ·exact h
 ·exact hl x hx
theorem Dg.head {d : Nat} {l : List Nat} (h : Dg B (d :: l)) : d < B := h d List.mem_cons_self
theorem Dg.tail {d : Nat} {l : List Nat} (h : Dg B (d :: l)) : Dg B l := fun x hx => h x (List.mem_cons_of_mem _ hx)
theorem Dg.append {l m : List Nat} (h : Dg B l) (h' : Dg B m) : Dg B (l ++ m) := fun x hx => by
 rcases List.mem_append.1 hx with hx | hx
 ·exact h x hx
 ·exact h' x hx
theorem Dg.sub {l m : List Nat} (h : Dg B l) (h' : m.Sublist l) : Dg B m := fun x hx => h x (h'.subset hx)
theorem Dg.take {l : List Nat} (h : Dg B l) (n : Nat) : Dg B (l.take n) := h.sub (List.take_sublist n l)
theorem Dg.drop {l : List Nat} (h : Dg B l) (n : Nat) : Dg B (l.drop n) := h.sub (List.drop_sublist n l)
theorem Dg.at_ {l : List Nat} (h : Dg B l) {i d : Nat} (hi : l[i]? = some d) : d < B := h d (List.mem_of_getElem? hi)
theorem Dg.Bd {l : List Nat} (h : Dg B l) (i : Nat) {d : Nat} (hd : d < B) : Dg B (l.set i d) := fun x hx => by
 rcases List.mem_or_eq_of_mem_set hx with hx | rfl
 ·exact h x hx
 ·exact hd
theorem Dg.yP (hB : 0 < B) (n : Nat) : Dg B (List.replicate n 0) := fun x hx => by rw [List.eq_of_mem_replicate hx]; exact hB
theorem dW (l m : List Nat) : bh B (l ++ m) = bh B l + B ^ l.length * bh B m := by
 induction l with
 | nil => simp [bh]
 | cons d l ih => simp only [List.cons_append, bh, ih, List.length_cons, Nat.pow_succ]; rw [Nat.mul_add, Nat.add_assoc]; congr 2; rw [← Nat.mul_assoc, Nat.mul_comm B]
theorem fY {l : List Nat} (h : Dg B l) : bh B l < B ^ l.length := by
 induction l with
 | nil => simp [bh]
 | cons d l ih =>
  have h1 := ih h.tail;have h2 := h.head;simp only [bh, List.length_cons, Nat.pow_succ]
  calc d + B * bh B l < B + B * bh B l := by omega
   _ = B * (bh B l + 1) := by rw [Nat.mul_add, Nat.mul_one, Nat.add_comm]
   _ ≤ B * B ^ l.length := Nat.mul_le_mul_left _ h1
   _ = B ^ l.length * B := Nat.mul_comm _ _
theorem mV (n : Nat) : bh B (List.replicate n 0) = 0 := by
 induction n with
 | zero => rfl
 | succ n ih => simp [List.replicate_succ, bh, ih]
theorem aM (k n : Nat) : (bH B k n).length = k := by
 induction k generalizing n with
 | zero => rfl
 | succ k ih => simp [bH, ih]
theorem eB (hB : 0 < B) (k n : Nat) : Dg B (bH B k n) := by
 induction k generalizing n with
 | zero => exact Dg.nil
 | succ k ih => exact Dg.cons (Nat.mod_lt _ hB) (ih _)
theorem xV (k n : Nat) : bh B (bH B k n) = n % B ^ k := by
 induction k generalizing n with
 | zero => simp [bH, bh, Nat.mod_one]
 | succ k ih => rw [bH, bh, ih, Nat.pow_succ, Nat.mul_comm (B ^ k), Nat.mod_mul]
theorem cq {k n : Nat} (h : n < B ^ k) : bh B (bH B k n) = n := by rw [xV, Nat.mod_eq_of_lt h]
theorem oV {l : List Nat} (h : Dg B l) : bH B l.length (bh B l) = l := by
 induction l with
 | nil => rfl
 | cons d l ih =>
  have hd := h.head;simp only [List.length_cons, bH, bh];rw [Nat.add_mul_mod_self_left, Nat.mod_eq_of_lt hd, Nat.add_mul_div_left _ _ Dq, Nat.div_eq_of_lt hd, Nat.zero_add, ih h.tail]
theorem rg {l m : List Nat} (hl : Dg B l) (hm : Dg B m) (hlen : l.length = m.length) (h : bh B l = bh B m) : l = m := by
 rw [← oV hl, ← oV hm, hlen, h]
theorem fP (k n i : Nat) (h : i < k) : (bH B k n)[i]? = some (n / B ^ i % B) := by
 induction k generalizing n i with
 | zero => omega
 | succ k ih =>
  cases i with
  | zero => simp [bH]
  | succ i => simp only [bH, List.getElem?_cons_succ]; rw [ih _ _ Dq, Nat.div_div_eq_div_mul, Nat.pow_succ, Nat.mul_comm B]
theorem nK {l : List Nat} (h : Dg B l) {i d : Nat} (hi : l[i]? = some d) : bh B l / B ^ i % B = d := by
 have h1 := fP (B := B) l.length (bh B l) i (List.getElem?_eq_some_iff.1 hi).1;rw [oV h, hi] at h1;injection h1 with h1
 exact h1.symm
theorem oU {l : List Nat} (h : Dg B l) {i : Nat} (hi : l.length ≤ i) (hB : 0 < B) : bh B l / B ^ i = 0 :=
 Nat.div_eq_of_lt (Nat.lt_of_lt_of_le (fY h) (Nat.pow_le_pow_right hB hi))
theorem gy (l : List Nat) (i : Nat) (h : i ≤ l.length) : bh B l = bh B (l.take i) + B ^ i * bh B (l.drop i) := by
 have := dW (B := B) (l.take i) (l.drop i);rw [List.take_append_drop, List.length_take_of_le h] at this;exact this
theorem iQ (l : List Nat) : bh B (dz l) = bh B l := by
 induction l with
 | nil => rfl
 | cons d l ih =>
  simp only [dz, bh];split
  ·rename_i h;rw [h] at ih;simp only [bh] at ih;split
   ·rename_i h0; rw [h0, ← ih]; simp [bh]
   ·rw [← ih]; simp [bh]
  ·rename_i e m h;rw [h] at ih;rw [← ih]; rfl
theorem gX (l : List Nat) : dz l = l.take (dz l).length := by
 induction l with
 | nil => rfl
 | cons d l ih =>
  simp only [dz];split
  ·split
   ·rfl
   ·simp
  ·rename_i e m h;rw [h] at ih;simp only [List.length_cons, List.take_succ_cons] at ih ⊢;rw [← ih]
theorem eI (l : List Nat) : (dz l).length ≤ l.length := by
 have := congrArg List.length (gX l);rw [List.length_take] at this;omega
theorem qB (l : List Nat) : (dz l).getLast? ≠ some 0 := by
 induction l with
 | nil => simp [dz]
 | cons d l ih =>
  simp only [dz];split
  ·split
   ·simp
   ·simpa
  ·rename_i e m h;rw [h] at ih;rwa [List.getLast?_cons_cons]
theorem Dg.cut {l : List Nat} (h : Dg B l) : Dg B (dz l) := by rw [gX]; exact h.take _
theorem wi {l : List Nat} (h : l.getLast? ≠ some 0) : dz l = l := by
 induction l with
 | nil => rfl
 | cons d l ih =>
  cases l with
  | nil => simp only [dz]; rw [if_neg]; intro h0; subst h0; simp at h
  | cons e m =>
   rw [List.getLast?_cons_cons] at h;rw [dz, ih h]
theorem oE (l : List Nat) : dz (l ++ [0]) = dz l := by
 induction l with
 | nil => simp [dz]
 | cons d l ih => simp only [List.cons_append, dz, ih]
theorem qi {l : List Nat} {d : Nat} (h : d ≠ 0) : dz (l ++ [d]) = l ++ [d] := wi (by simpa using h)
def Can (B : Nat) (l : List Nat) : Prop := Dg B l ∧ l.getLast? ≠ some 0
theorem Can.cut {l : List Nat} (h : Dg B l) : Can B (dz l) := ⟨h.cut, qB l⟩
theorem xF {l : List Nat} (h : l.getLast? ≠ some 0) (hn : l ≠ []) : B ^ (l.length - 1) ≤ bh B l := by
 have h1 := List.dropLast_concat_getLast hn;have h2 : l.getLast hn ≠ 0 := by
  intro h0;apply h;rw [List.getLast?_eq_some_getLast hn, h0]
 rw [← h1, dW];simp only [List.length_append, List.length_dropLast, List.length_cons, List.length_nil];have : l.length - 1 + (0 + 1) - 1 = l.length - 1 := Dq;rw [this];simp only [bh, Nat.mul_zero, Nat.add_zero];exact Nat.le_trans (Nat.le_mul_of_pos_right _ (Nat.pos_of_ne_zero h2)) (Nat.le_add_left _ _)
theorem Can.pz {l m : List Nat} (hl : Can B l) (hm : Can B m) (hB : 1 < B) (h : bh B l ≤ bh B m) : l.length ≤ m.length := by
 rcases Nat.lt_or_ge m.length l.length with hlt | hge
 ·exfalso;have hn : l ≠ [] := by intro h0; simp [h0] at hlt
  have h1 := xF (B := B) hl.2 hn;have h2 := fY hm.1;have h3 : B ^ m.length ≤ B ^ (l.length - 1) := Nat.pow_le_pow_right Dq Dq;exact Nat.lt_irrefl _ (Nat.lt_of_lt_of_le h2 (Nat.le_trans h3 (Nat.le_trans h1 h)))
 ·exact hge
theorem Can.inj {l m : List Nat} (hl : Can B l) (hm : Can B m) (hB : 1 < B) (h : bh B l = bh B m) : l = m :=
 rg hl.1 hm.1 (Nat.le_antisymm (hl.pz hm hB (Nat.le_of_eq h)) (hm.pz hl hB (Nat.le_of_eq h.symm))) h
theorem dw (hB : 0 < B) (n : Nat) : Can B (aR B n) := Can.cut (eB hB _ _)
theorem sV (hB : 1 < B) (n : Nat) : n < B ^ (n.log2 + 1) := by
 have h1 : n < 2 ^ (n.log2 + 1) := Nat.lt_log2_self;exact Nat.lt_of_lt_of_le h1 (Nat.pow_le_pow_left hB _)
theorem dF (hB : 1 < B) (n : Nat) : bh B (aR B n) = n := by
 rw [aR, iQ, cq (sV hB n)]
theorem tE (hB : 1 < B) {l : List Nat} (h : Can B l) : aR B (bh B l) = l :=
 (dw Dq _).inj h hB (dF hB _)
theorem eL (hB : 1 < B) {l : List Nat} (h : Dg B l) : dz l = aR B (bh B l) := by
 rw [← iQ, tE hB (Can.cut h)]
theorem eZ (hB : 1 < B) : aR B 0 = [] := (dw Dq 0).inj ⟨Dg.nil, by simp⟩ hB (by rw [dF hB]; rfl)
theorem pH (hB : 1 < B) {n : Nat} : aR B n = [] ↔ n = 0 := by
 constructor
 ·intro h; have := dF hB n; rw [h] at this; exact this.symm
 ·intro h; rw [h, eZ hB]
theorem fB (hB : 1 < B) {n k : Nat} (h : n < B ^ k) : (aR B n).length ≤ k := by
 have h1 : dz (bH B k n) = aR B n := by rw [eL hB (eB Dq _ _), cq h]
 have := eI (bH B k n);rw [h1, aM] at this;exact this
theorem j9 (hB : 1 < B) (n : Nat) : n < B ^ (aR B n).length := by
 have := fY (dw (B := B) Dq n).1;rwa [dF hB] at this
theorem kp (hB : 1 < B) {a b : Nat} (h : a ≤ b) : (aR B a).length ≤ (aR B b).length :=
 (dw Dq a).pz (dw Dq b) hB (by rw [dF hB, dF hB]; exact h)
theorem sQ (hB : 1 < B) {n i : Nat} (h : i < (aR B n).length) : (aR B n)[i]? = some (n / B ^ i % B) := by
 have h1 := List.getElem?_eq_getElem h;rw [h1];have h2 := nK (dw (B := B) Dq n).1 h1;rw [dF hB] at h2;rw [h2]
theorem vX (hB : 1 < B) {n : Nat} (h : n ≠ 0) : aR B n = n % B :: aR B (n / B) := by
 refine (dw Dq n).inj ⟨Dg.cons (Nat.mod_lt _ Dq) (dw Dq _).1, ?_⟩ hB ?_
 ·cases hd : aR B (n / B) with
  | nil =>
   rw [pH hB] at hd;have : n = n % B := by have := Nat.div_add_mod n B; rw [hd] at this; simpa using this.symm
   simp only [List.getLast?_singleton];intro h0; injection h0 with h0; omega
  | cons e m =>
   rw [List.getLast?_cons_cons, ← hd];exact (dw Dq _).2
 ·rw [dF hB, bh, dF hB]; have := Nat.div_add_mod n B; omega
theorem rX (hB : 1 < B) {n k : Nat} (h : n < B ^ k) : bH B k n = aR B n ++ List.replicate (k - (aR B n).length) 0 := by
 have hl := fB hB h;refine rg (B := B) (eB Dq _ _) ((dw Dq _).1.append (Dg.yP Dq _)) ?_ ?_
 ·rw [aM, List.length_append, List.length_replicate]; omega
 ·rw [cq h, dW, dF hB, mV]; simp
end
section
variable {B : Nat}
def tO : List Nat → Nat
 | [] => 0
 | d :: _ => d
theorem yf (ys : List Nat) : bh B ys = tO ys + B * bh B ys.tail := by cases ys <;> simp [bh, tO]
theorem Bv {ys : List Nat} (h : Dg B ys) (hB : 0 < B) : tO ys < B := by
 cases ys with
 | nil => exact hB
 | cons d l => exact h.head
theorem Dg.tl {ys : List Nat} (h : Dg B ys) : Dg B ys.tail := by
 cases ys with
 | nil => exact h
 | cons d l => exact h.tail
theorem pq (ys : List Nat) (i : Nat) : tO (ys.drop i) = (ys[i]?).getD 0 := by
 induction ys generalizing i with
 | nil => simp [tO]
 | cons d l ih => cases i with
  | zero => rfl
  | succ i => simpa using ih i
theorem tail_drop (ys : List Nat) (i : Nat) : (ys.drop i).tail = ys.drop (i + 1) := by
 induction ys generalizing i with
 | nil => simp
 | cons d l ih => cases i with
  | zero => rfl
  | succ i => simp
theorem sI {B a b n : Nat} (hB : 0 < B) (h : a + B * b < B * n) : b + a / B < n := by
 have h1 : (a + B * b) / B < n := by rw [Nat.div_lt_iff_lt_mul hB, Nat.mul_comm n]; exact h
 rw [Nat.add_mul_div_left _ _ hB] at h1;omega
def fg (B : Nat) : List Nat → List Nat → Nat → Nat → List Nat
 | [], _, _, _ => []
 | x :: xs, ys, m, c => (x + tO ys * m + c) % B :: fg B xs ys.tail m ((x + tO ys * m + c) / B)
theorem l5 (xs ys : List Nat) (m c : Nat) : (fg B xs ys m c).length = xs.length := by
 induction xs generalizing ys c with
 | nil => rfl
 | cons x xs ih => simp [fg, ih]
theorem sP (hB : 0 < B) (xs ys : List Nat) (m c : Nat) : Dg B (fg B xs ys m c) := by
 induction xs generalizing ys c with
 | nil => exact Dg.nil
 | cons x xs ih => exact Dg.cons (Nat.mod_lt _ hB) (ih _ _)
theorem pU (hB : 0 < B) (xs ys : List Nat) (m c : Nat) (h : bh B xs + bh B ys * m + c < B ^ xs.length) : bh B (fg B xs ys m c) = bh B xs + bh B ys * m + c := by
 induction xs generalizing ys c with
 | nil => simp only [List.length_nil, Nat.pow_zero, bh] at h; simp only [fg, bh]; omega
 | cons x xs ih =>
  have e : bh B (x :: xs) + bh B ys * m + c = (x + tO ys * m + c) + B * (bh B xs + bh B ys.tail * m) := by
   rw [bh, yf ys, Nat.add_mul, Nat.mul_add, Nat.mul_assoc]; omega
  rw [List.length_cons, Nat.pow_succ, Nat.mul_comm _ B, e] at h;have h1 := sI hB h;simp only [fg, bh];rw [ih _ _ h1, ← bh, e, Nat.mul_add];have := Nat.mod_add_div (x + tO ys * m + c) B;omega
def nF (B : Nat) : List Nat → List Nat → Nat → List Nat
 | [], _, _ => []
 | x :: xs, ys, b => (x + B - tO ys - b) % B :: nF B xs ys.tail (if x < tO ys + b then 1 else 0)
def rW (B : Nat) : List Nat → List Nat → Nat → Nat
 | [], _, b => b
 | x :: xs, ys, b => rW B xs ys.tail (if x < tO ys + b then 1 else 0)
theorem zV (hB : 0 < B) (xs ys : List Nat) (c : Nat) : Dg B (nF B xs ys c) := by
 induction xs generalizing ys c with
 | nil => exact Dg.nil
 | cons x xs ih => exact Dg.cons (Nat.mod_lt _ hB) (ih _ _)
theorem xQ (hB : 0 < B) (xs ys : List Nat) (b : Nat) (hx : Dg B xs) (hy : Dg B ys) (hb : b ≤ 1) (h : bh B ys + b ≤ bh B xs) : bh B (nF B xs ys b) + bh B ys + b = bh B xs ∧ rW B xs ys b = 0 := by
 induction xs generalizing ys b with
 | nil => simp only [bh] at h; simp only [nF, rW, bh]; omega
 | cons x xs ih =>
  have hx0 := hx.head;have hy0 := Bv hy hB;have e := yf (B := B) ys;simp only [bh, nF, rW] at h ⊢;by_cases hlt : x < tO ys + b
  ·rw [if_pos hlt];have h1 : bh B ys.tail + 1 ≤ bh B xs := by
    refine Nat.lt_of_not_le fun hle => ?_;have := Nat.mul_le_mul_left B hle;omega
   obtain ⟨i1, i2⟩ := ih ys.tail 1 hx.tail hy.tl Dq h1;refine ⟨?_, i2⟩;have h2 := congrArg (B * ·) i1;simp only [Nat.mul_add] at h2;rw [Nat.mod_eq_of_lt Dq];omega
  ·rw [if_neg hlt];have h1 : bh B ys.tail + 0 ≤ bh B xs := by
    refine Nat.le_of_not_lt fun hle => ?_;have := Nat.mul_le_mul_left B (Nat.succ_le_of_lt hle);simp only [Nat.mul_succ, Nat.add_zero] at this;omega
   obtain ⟨i1, i2⟩ := ih ys.tail 0 hx.tail hy.tl Dq h1;refine ⟨?_, i2⟩;have h2 := congrArg (B * ·) i1;simp only [Nat.mul_add, Nat.add_zero] at h2;have h3 : x + B - tO ys - b = (x - tO ys - b) + B := Dq;rw [h3, Nat.add_mod_right, Nat.mod_eq_of_lt Dq];omega
theorem zw (xs : List Nat) (i d : Nat) {o : Nat} (hi : xs[i]? = some o) : bh B (xs.set i d) + B ^ i * o = bh B xs + B ^ i * d := by
 induction xs generalizing i with
 | nil => simp at hi
 | cons x xs ih =>
  cases i with
  | zero => simp only [List.getElem?_cons_zero, Option.some.injEq] at hi; subst hi; simp only [List.set_cons_zero, bh, Nat.pow_zero, Nat.one_mul]; omega
  | succ i =>
   have := congrArg (B * ·) (ih i hi);simp only [Nat.mul_add, ← Nat.mul_assoc] at this;simp only [List.set_cons_succ, bh, Nat.pow_succ, Nat.mul_comm _ B];omega
theorem tK {l m : List Nat} {x y : Nat} (hl : Dg B l) (hlen : l.length = m.length) (h : x < y) : bh B (l ++ [x]) < bh B (m ++ [y]) := by
 rw [dW, dW, hlen];have h1 := fY hl;rw [hlen] at h1;have h2 : B ^ m.length * (x + 1) ≤ B ^ m.length * y := Nat.mul_le_mul_left _ h;simp only [bh, Nat.mul_zero, Nat.add_zero, Nat.mul_succ] at h2 ⊢;omega
def iK (a b : Nat) : Int := if a < b then -1 else if b < a then 1 else 0
theorem jk {a b : Nat} (h : a < b) : iK a b = -1 := by simp [iK, h]
theorem rI {a b : Nat} (h : b < a) : iK a b = 1 := by simp only [iK]; rw [if_neg Dq, if_pos h]
theorem vi {a b : Nat} (h : a = b) : iK a b = 0 := by simp only [iK]; rw [if_neg Dq, if_neg Dq]
theorem qt {xs ys : List Nat} {k x y : Nat} (hx : Dg B xs) (hxk : xs[k]? = some x) (hyk : ys[k]? = some y) (hd : xs.drop (k + 1) = ys.drop (k + 1)) (hlt : x < y) : bh B xs < bh B ys := by
 have lx := (List.getElem?_eq_some_iff.1 hxk).1;have ly := (List.getElem?_eq_some_iff.1 hyk).1;rw [gy xs (k + 1) lx, gy ys (k + 1) ly, hd];have e1 : xs.take (k + 1) = xs.take k ++ [x] := by rw [List.take_add_one, hxk]; rfl
 have e2 : ys.take (k + 1) = ys.take k ++ [y] := by rw [List.take_add_one, hyk]; rfl
 have := tK (B := B) (m := ys.take k) (hx.take k) (by rw [List.length_take, List.length_take]; omega) hlt;rw [e1, e2];omega
theorem rK {xs ys : List Nat} {k x y : Nat} (hxk : xs[k]? = some x) (hyk : ys[k]? = some y) (hd : xs.drop (k + 1) = ys.drop (k + 1)) (h : x = y) : xs.drop k = ys.drop k := by
 obtain ⟨lx, ex⟩ := List.getElem?_eq_some_iff.1 hxk;obtain ⟨ly, ey⟩ := List.getElem?_eq_some_iff.1 hyk;rw [List.drop_eq_getElem_cons lx, List.drop_eq_getElem_cons ly, hd, ex, ey, h]
end
section
variable {B : Nat}
theorem k7 {k n j v : Nat} (hB : 0 < B) (hj : j < k) (hn : n + B ^ j * v < B ^ k) (hv : n / B ^ j % B + v < B) : (bH B k n).set j (n / B ^ j % B + v) = bH B k (n + B ^ j * v) := by
 refine rg (B := B) ((eB hB _ _).Bd _ hv) (eB hB _ _) (by rw [List.length_set, aM, aM]) ?_;have h1 := zw (B := B) (bH B k n) j (n / B ^ j % B + v) (fP k n j hj);rw [cq Dq] at h1;rw [cq hn];rw [Nat.mul_add] at h1;omega
theorem mH (k : Nat) : bH B k 0 = List.replicate k 0 := by
 induction k with
 | zero => rfl
 | succ k ih => simp [bH, ih, List.replicate_succ]
def sl (s : List UInt8) : List Nat := (s.map UInt8.toNat).reverse
def bn (s : List UInt8) : Nat := bh 256 (sl s)
def sb (n : Nat) : List UInt8 := ((aR 256 n).map UInt8.ofNat).reverse
theorem kH (s : List UInt8) : (sl s).length = s.length := by simp [sl]
theorem rf (s : List UInt8) : Dg 256 (sl s) := fun d hd => by
 obtain ⟨c, _, rfl⟩ := List.mem_map.1 (List.mem_reverse.1 hd);exact c.toNat_lt
theorem AK (s : List UInt8) : bn s < 256 ^ s.length := by have := fY (rf s); rwa [kH] at this
theorem xB {s : List UInt8} {i : Nat} {c : UInt8} (hi : i < s.length) (h : s[s.length - 1 - i]? = some c) : (sl s)[i]? = some c.toNat := by
 unfold sl;rw [List.getElem?_reverse (by simpa using hi), List.length_map, List.getElem?_map, h]; rfl
theorem yx (n : Nat) : sl (sb n) = aR 256 n := by
 unfold sl sb;rw [List.map_reverse, List.reverse_reverse, List.map_map];have : ∀ l : List Nat, Dg 256 l → l.map (UInt8.toNat ∘ UInt8.ofNat) = l := by
  intro l
  induction l with
  | nil => intro _; rfl
  | cons d l ih =>
   intro h;have hd := h.head;simp only [List.map_cons, ih h.tail, Function.comp];congr 1;simp only [UInt8.toNat_ofNat'];omega
 exact this _ (dw Dq n).1
theorem Ce (n : Nat) : bn (sb n) = n := by rw [bn, yx, dF Dq]
theorem wv (n : Nat) : (sb n).length = (aR 256 n).length := by simp [sb]
theorem zH {s t : List UInt8} (h : sl s = sl t) : s = t := by
 have h1 := List.reverse_inj.1 h;exact (List.map_inj_right fun a b h => UInt8.toNat_inj.1 h).1 h1
theorem B2 {s : List UInt8} {n : Nat} (h : sl s = aR 256 n) : s = sb n := zH (by rw [h, yx])
theorem Az : sb 0 = [] := by rw [sb, eZ Dq]; rfl
theorem yy (s : List UInt8) : bn (0 :: s) = bn s := by
 unfold bn sl;rw [List.map_cons, List.reverse_cons, dW]; simp [bh]
theorem B3 {s : List UInt8} (h : s.head? ≠ some 0) : sb (bn s) = s := by
 refine (B2 ?_).symm;rw [bn, tE Dq ⟨rf s, ?_⟩];unfold sl;rw [List.getLast?_reverse, List.head?_map]
 cases s with
 | nil => simp
 | cons c s =>
  simp only [List.head?_cons, Option.map_some];intro h0;injection h0 with h0
  apply h;simp only [List.head?_cons];congr 1;exact UInt8.toNat_inj.1 (by simpa using h0)
end
def bz (n : Nat) : Nat := (aR 2 n).length
theorem iO : bz 0 = 0 := by rw [bz, eZ Dq]; rfl
theorem db (n : Nat) : n < 2 ^ bz n := j9 Dq n
theorem dm {n k : Nat} (h : n < 2 ^ k) : bz n ≤ k := fB Dq h
theorem vz {n : Nat} (h : n ≠ 0) : 2 ^ (bz n - 1) ≤ n := by
 have h1 := xF (B := 2) (dw (B := 2) Dq n).2 (fun h0 => h ((pH Dq).1 h0));rwa [dF Dq] at h1
theorem lF {n : Nat} (h : n ≠ 0) : 0 < bz n := by
 rw [bz];have : aR 2 n ≠ [] := fun h0 => h ((pH Dq).1 h0);exact List.length_pos_iff.2 this
theorem u0 {n k : Nat} (h1 : n < 2 ^ k) (h2 : 2 ^ (k - 1) ≤ n) : bz n = k := by
 have h3 := dm h1
 rcases Nat.lt_or_ge (bz n) k with h | h
 ·have h4 := db n;have h5 : 2 ^ bz n ≤ 2 ^ (k - 1) := Nat.pow_le_pow_right Dq Dq;omega
 ·omega
theorem y5 {B b m : Nat} (hB : B = 2 ^ b) {l : List Nat} {d : Nat} (hl : Dg B l) (hlen : l.length = m) (hd : d ≠ 0) : bz (bh B (l ++ [d])) = b * m + bz d := by
 have hlt := fY hl;rw [hlen] at hlt;have hp : B ^ m = 2 ^ (b * m) := by rw [hB, ← Nat.pow_mul]
 rw [dW, hlen];simp only [bh, Nat.mul_zero, Nat.add_zero];rw [hp] at hlt ⊢;apply u0
 ·have h1 := db d;have h2 : 2 ^ (b * m) * (d + 1) ≤ 2 ^ (b * m) * 2 ^ bz d := Nat.mul_le_mul_left _ h1;rw [Nat.pow_add];rw [Nat.mul_succ] at h2;omega
 ·have h1 := vz hd;have h2 := lF hd;have e : b * m + bz d - 1 = b * m + (bz d - 1) := Dq;rw [e, Nat.pow_add];have h3 : 2 ^ (b * m) * 2 ^ (bz d - 1) ≤ 2 ^ (b * m) * d := Nat.mul_le_mul_left _ h1;omega
theorem tX {a c s : Nat} (h : a < 2 ^ s) : a ||| (c * 2 ^ s) = a + c * 2 ^ s := by
 have h1 := Nat.shiftLeft_add_eq_or_of_lt h c;rw [Nat.shiftLeft_eq] at h1;rw [Nat.or_comm, ← h1, Nat.add_comm]
theorem Aj {k i c : Nat} (n : Nat) (hn : n < 256 ^ i) (hc : c < 256) (hi : i / 8 < k) :
  n / 18446744073709551616 ^ (i / 8) % 18446744073709551616 < 2 ^ (i % 8 * 8) ∧ c * 2 ^ (i % 8 * 8) < 18446744073709551616 ∧
  (bH 18446744073709551616 k n).set (i / 8) (n / 18446744073709551616 ^ (i / 8) % 18446744073709551616 + c * 2 ^ (i % 8 * 8)) = bH 18446744073709551616 k (n + 256 ^ i * c) := by
 have hW : (18446744073709551616 : Nat) = 2 ^ 64 := by decide
 have h256 : (256 : Nat) = 2 ^ 8 := by decide
 have hp : 256 ^ i = 18446744073709551616 ^ (i / 8) * 2 ^ (i % 8 * 8) := by
  rw [hW, h256, ← Nat.pow_mul, ← Nat.pow_mul, ← Nat.pow_add]; congr 1; omega
 have h1 : n / 18446744073709551616 ^ (i / 8) < 2 ^ (i % 8 * 8) := by
  rw [Nat.div_lt_iff_lt_mul (Nat.pow_pos Dr), Nat.mul_comm, ← hp]; exact hn
 have hs : 2 ^ (i % 8 * 8) * 256 ≤ 18446744073709551616 := by
  rw [h256, hW, ← Nat.pow_add]; exact Nat.pow_le_pow_right Dq Dq
 have h2 : n / 18446744073709551616 ^ (i / 8) % 18446744073709551616 < 2 ^ (i % 8 * 8) := Nat.lt_of_le_of_lt (Nat.mod_le _ _) h1;have h3 : (c + 1) * 2 ^ (i % 8 * 8) ≤ 256 * 2 ^ (i % 8 * 8) := Nat.mul_le_mul_right _ hc;rw [Nat.succ_mul] at h3;have hpos : 0 < 2 ^ (i % 8 * 8) := Nat.pow_pos Dq;refine ⟨h2, Dq, ?_⟩;have h4 : 256 ^ i * c = 18446744073709551616 ^ (i / 8) * (c * 2 ^ (i % 8 * 8)) := by rw [hp, Nat.mul_assoc, Nat.mul_comm c]
 rw [h4];refine k7 Dr hi ?_ Dq;rw [← h4];have h5 : 256 ^ i * (c + 1) ≤ 256 ^ i * 256 := Nat.mul_le_mul_left _ hc;have h6 : 256 ^ i * 256 ≤ 18446744073709551616 ^ k := by
  have : 256 ^ i * 256 = 2 ^ (8 * (i + 1)) := by rw [h256, ← Nat.pow_mul, ← Nat.pow_add]; congr 1
  rw [this, hW, ← Nat.pow_mul];exact Nat.pow_le_pow_right Dq Dq
 rw [Nat.mul_succ] at h5;omega
theorem wj (n i : Nat) : n / 18446744073709551616 ^ (i / 8) % 18446744073709551616 / 2 ^ (i % 8 * 8) % 256 = n / 256 ^ i % 256 := by
 have hW : (18446744073709551616 : Nat) = 2 ^ 64 := by decide
 have h256 : (256 : Nat) = 2 ^ 8 := by decide
 have hp : 256 ^ i = 18446744073709551616 ^ (i / 8) * 2 ^ (i % 8 * 8) := by
  rw [hW, h256, ← Nat.pow_mul, ← Nat.pow_mul, ← Nat.pow_add]; congr 1; omega
 rw [hp, ← Nat.div_div_eq_div_mul];generalize n / 18446744073709551616 ^ (i / 8) = m;have e : (18446744073709551616 : Nat) = 2 ^ (i % 8 * 8) * 2 ^ (64 - i % 8 * 8) := by rw [← Nat.pow_add, hW]; congr 1; omega
 rw [e, Nat.mod_mul_right_div_self];have e2 : 2 ^ (64 - i % 8 * 8) = 256 * 2 ^ (56 - i % 8 * 8) := by rw [h256, ← Nat.pow_add]; congr 1; omega
 rw [e2, Nat.mod_mul_right_mod]
theorem qP (n j s : Nat) (hs : s < 64) (h0 : 0 < s) :
  (n / 18446744073709551616 ^ j % 18446744073709551616 / 2 ^ s) < 2 ^ (64 - s) ∧
  n / 18446744073709551616 ^ j % 18446744073709551616 / 2 ^ s + n / 18446744073709551616 ^ (j + 1) % 2 ^ s * 2 ^ (64 - s) = n / 2 ^ (64 * j + s) % 18446744073709551616 := by
 have hW : (18446744073709551616 : Nat) = 2 ^ 64 := by decide
 have e : (18446744073709551616 : Nat) = 2 ^ s * 2 ^ (64 - s) := by rw [← Nat.pow_add, hW]; congr 1; omega
 have hp : (18446744073709551616 : Nat) ^ (j + 1) = 18446744073709551616 ^ j * 18446744073709551616 := Nat.pow_succ ..;rw [hp, ← Nat.div_div_eq_div_mul, Nat.pow_add, Nat.pow_mul, ← hW, ← Nat.div_div_eq_div_mul];generalize n / 18446744073709551616 ^ j = m;have e1 : m % 18446744073709551616 / 2 ^ s = m / 2 ^ s % 2 ^ (64 - s) := by rw [e, Nat.mod_mul_right_div_self]
 rw [e1];refine ⟨Nat.mod_lt _ (Nat.pow_pos Dq), ?_⟩;have e2 : m / 18446744073709551616 = m / 2 ^ s / 2 ^ (64 - s) := by rw [e, ← Nat.div_div_eq_div_mul]
 rw [e2];generalize m / 2 ^ s = q;have e3 : (18446744073709551616 : Nat) = 2 ^ (64 - s) * 2 ^ s := by rw [Nat.mul_comm]; exact e
 rw [e3, Nat.mod_mul, Nat.mul_comm (2 ^ (64 - s))]
theorem Bu {d s : Nat} (hd : d < 18446744073709551616) (hs : s ≤ 64) : d * 2 ^ s % 18446744073709551616 + d / 2 ^ (64 - s) * 18446744073709551616 = d * 2 ^ s ∧ d / 2 ^ (64 - s) < 2 ^ s := by
 have hW : (18446744073709551616 : Nat) = 2 ^ 64 := by decide
 have e : (18446744073709551616 : Nat) = 2 ^ (64 - s) * 2 ^ s := by rw [← Nat.pow_add, hW]; congr 1; omega
 have h1 : d * 2 ^ s / 18446744073709551616 = d / 2 ^ (64 - s) := by rw [e, Nat.mul_div_mul_right _ _ (Nat.pow_pos Dq)]
 rw [← h1];constructor
 ·have := Nat.mod_add_div (d * 2 ^ s) 18446744073709551616;omega
 ·rw [h1, Nat.div_lt_iff_lt_mul (Nat.pow_pos Dq), Nat.mul_comm, ← e]; exact hd
end Go.Proofs.YteeckcbbnegmcaaGreatDoor
namespace Go.Proofs.YteeckcbbnegmcaaGreatDoor
open Go.RowKit
def str (l : List UInt8) : ByteArray := ⟨l.toArray⟩
theorem bC (l : List UInt8) : (str l).data.toList = l := by simp [str]
theorem mn {a b : ByteArray} (h : a.data.toList = b.data.toList) : a = b := by
 cases a; cases b; congr 1; exact Array.ext' h
theorem BH (s : ByteArray) : str s.data.toList = s := mn (bC _)
theorem eh (l : List UInt8) : (str l).size = l.length := by simp [str, ByteArray.size]
theorem ca (s : ByteArray) : s.size = s.data.toList.length := (Array.length_toList).symm
theorem tL (a b : List UInt8) : str a ++ str b = str (a ++ b) := by
 apply mn;simp [str]
def jw (l : List Int) : List Value := l.map (Value.int .i64)
theorem nc (l : List Int) : (jw l).length = l.length := by simp [jw]
theorem kY {l : List Int} {k : Nat} {x : Int} (h : l[k]? = some x) : (jw l)[k]? = some (.int .i64 x) := by simp [jw, h]
theorem ue (a b : List UInt8) : jj (a ++ b) = jj a ++ jj b := by simp [jj]
def tt (l : List ByteArray) : List Value := l.map Value.string
theorem na (l : List ByteArray) : (tt l).length = l.length := by simp [tt]
theorem u5 {l : List ByteArray} {k : Nat} {x : ByteArray} (h : l[k]? = some x) : (tt l)[k]? = some (.string x) := by simp [tt, h]
theorem aT {α : Type} {l : List α} {k : Nat} {x : α} (h : l[k]? = some x) : l.take (k + 1) = l.take k ++ [x] := by rw [List.take_add_one, h]; rfl
theorem aG {α : Type} {l : List α} {k : Nat} (h : k < l.length) : ∃ x, l[k]? = some x := ⟨_, List.getElem?_eq_getElem h⟩
def dq (l : List UInt8) : Bool := l.all fun c => decide (c.toNat < 128)
theorem wC (l : List UInt8) (c : UInt8) : dq (l ++ [c]) = (dq l && decide (c.toNat < 128)) := by simp [dq]
theorem yT {l : List UInt8} {k : Nat} {c : UInt8} (h : l[k]? = some c) (hc : ¬ c.toNat < 128) : dq l = false := by
 rw [← List.take_append_drop (k + 1) l, aT h];simp only [dq, List.all_append];simp; omega
theorem gO {l : List UInt8} (h : dq l = true) {k : Nat} {c : UInt8} (hc : l[k]? = some c) : c.toNat < 128 := by
 have := List.all_eq_true.1 h c (List.mem_of_getElem? hc);simpa using this
def ej (x : Int) : Bool := decide (0 ≤ x) && decide (x ≤ 127)
def pV (x : Int) : UInt8 := UInt8.ofNat x.toNat
def y6 (xs : List Int) : List UInt8 := if xs.all ej then xs.map pV else []
def Ae (xs : List Int) : Int := if xs.all ej then 0 else 3
theorem x7 {xs : List Int} {k : Nat} {x : Int} (hx : xs[k]? = some x) (h : ej x = false) : y6 xs = [] ∧ Ae xs = 3 := by
 have : xs.all ej = false := by
  cases hc : xs.all ej with
  | false => rfl
  | true => rw [List.all_eq_true.1 hc x (List.mem_of_getElem? hx)] at h; cases h
 simp [y6, Ae, this]
theorem nI {xs : List Int} (h : xs.all ej = true) : y6 xs = xs.map pV ∧ Ae xs = 0 := by simp [y6, Ae, h]
theorem x9 {α : Type} {p : α → Bool} {l : List α} {k : Nat} {x : α} (h : l[k]? = some x) (h1 : (l.take k).all p = true) (h2 : p x = true) : (l.take (k + 1)).all p = true := by
 rw [aT h, List.all_append, h1]; simp [h2]
theorem Ai {x : Int} (h : 0 ≤ x) (h2 : x ≤ 255) : IntKind.u8.wrap x = x := by
 have : IntKind.u8.wrap x = x % 256 := rfl;rw [this]; omega
theorem ke {x : Int} (h : ej x = true) : Value.int .u8 x = .int .u8 (pV x).toNat := by
 simp only [ej, Bool.and_eq_true, decide_eq_true_eq] at h;congr 1;simp only [pV, UInt8.toNat_ofNat'];omega
theorem yu {xs : List Int} {k : Nat} {x : Int} (hx : xs[k]? = some x) (h : ej x = true) : jj ((xs.take k).map pV) ++ [.int .u8 x] = jj ((xs.take (k + 1)).map pV) := by
 rw [aT hx, List.map_append, ue, ke h]; rfl
def ints (l : List UInt8) : List Int := l.map fun c => (c.toNat : Int)
def jF (l : List UInt8) : List Int := if dq l then ints l else []
def C5 (l : List UInt8) : Int := (jF l).sum
theorem cM (l : List UInt8) : (ints l).length = l.length := by simp [ints]
theorem nX {l : List UInt8} {k : Nat} {c : UInt8} (h : l[k]? = some c) : jw (ints (l.take k)) ++ [.int .i64 c.toNat] = jw (ints (l.take (k + 1))) := by
 rw [aT h]; simp [jw, ints]
def lenOf : Value → Nat | .slice _ n _ => n | _ => 0
theorem mF {l : List UInt8} (h : dq l = true) : jF l = ints l := by simp [jF, h]
theorem x6 {l : List UInt8} (h : dq l = false) : jF l = [] := by simp [jF, h]
theorem vH {l : List UInt8} {k : Nat} {x : Int} (h : (jF l)[k]? = some x) : 0 ≤ x ∧ x ≤ 127 := by
 unfold jF at h;split at h
 ·rename_i hm;simp only [ints, List.getElem?_map, Option.map_eq_some_iff] at h;obtain ⟨c, hc, rfl⟩ := h;have := gO hm hc;omega
 ·simp at h
def fJ (f : Int → Int → Int) (a b : List UInt8) : Option (List Int) :=
 if dq a && (dq b && decide ((b.length : Int) = a.length)) then some (List.zipWith f (ints a) (ints b)) else none
def mulL (a b : List UInt8) : List UInt8 × Int :=
 match fJ (· + ·) a b with | some l => (y6 l, Ae l) | none => ([], 1)
def De (a b : List UInt8) : List UInt8 × Bool :=
 match fJ (· - ·) a b with | some l => (y6 l, decide (Ae l = 0)) | none => ([], false)
theorem uI {f : Int → Int → Int} {a b : List Int} {k : Nat} {x y : Int} (hx : a[k]? = some x) (hy : b[k]? = some y) : (List.zipWith f a b)[k]? = some (f x y) := by
 simp [List.getElem?_zipWith, hx, hy]
def jU (f : Int → Int → Int) (a b : List Int) (k : Nat) : List Int := (List.zipWith f a b).take k ++ b.drop k
theorem xG (f : Int → Int → Int) (a b : List Int) : jU f a b 0 = b := by simp [jU]
theorem zy {f : Int → Int → Int} {a b : List Int} (h : a.length = b.length) {k : Nat} (hk : k ≤ b.length) : (jU f a b k).length = b.length := by
 simp [jU, h]; omega
theorem Bf {f : Int → Int → Int} {a b : List Int} (h : a.length = b.length) {k : Nat} {y : Int} (hy : b[k]? = some y) : (jU f a b k)[k]? = some y := by
 have hk : k < b.length := (List.getElem?_eq_some_iff.1 hy).1;unfold jU;rw [List.getElem?_append_right (by simp [h]; omega)];simp [h, Nat.min_eq_left (Nat.le_of_lt hk), hy]
theorem zZ {f : Int → Int → Int} {a b : List Int} (h : a.length = b.length) {k : Nat} {x y : Int} (hx : a[k]? = some x) (hy : b[k]? = some y) :
  cg (jw (jU f a b k)) k [.int .i64 (f x y)] = jw (jU f a b (k + 1)) := by
 have hk : k < b.length := (List.getElem?_eq_some_iff.1 hy).1;have hl : ((List.zipWith f a b).take k).length = k := by simp [h]; omega
 have e1 : (jU f a b k).take k = (List.zipWith f a b).take k := by
  unfold jU; rw [List.take_append_of_le_length Dq, List.take_of_length_le Dq]
 have e2 : (jU f a b k).drop (k + 1) = b.drop (k + 1) := by
  unfold jU;rw [List.drop_append, hl, List.drop_of_length_le Dq, show k + 1 - k = 1 by omega, List.drop_drop];simp
 simp only [cg, jw, ← List.map_take, ← List.map_drop, List.length_cons, List.length_nil, Nat.zero_add, e1, e2];unfold jU;rw [aT (uI hx hy)];simp
theorem xw {f : Int → Int → Int} {a b : List Int} (h : a.length = b.length) : jU f a b b.length = List.zipWith f a b := by
 unfold jU;rw [List.take_of_length_le (by simp [h]), List.drop_length, List.append_nil]
end Go.Proofs.YteeckcbbnegmcaaGreatDoor
/- The walks through math/bits: Mul64, Len64, LeadingZeros64, TrailingZeros64, and what the model says of Add64 and Sub64. -/
namespace Go.Proofs.YteeckcbbnegmcaaGreatDoor
open Go.RowKit
section
variable {P : Program} {N : Nat} {ops : Array Oper} {Q : Kq} {ρ : Rf} {w : World} {rest : List Oper} {d : Nat} {ty : TypeId} {pos : String} {af : Array Edge}
theorem iz {f : FuncId} {args : Array Operand} {ts : Array TypeId} {vs : List Value} {v : Value} (hc : (callFunc f vs.toArray).run P w = .ok (.value v) w) (ha : pL ρ args.toList = vs) (hN : d < N) (kk : WL .plain P N ops Q rest (cx ρ d v) w) :
  WL .plain P N ops Q (⟨some d, .call ⟨.value (.func f), args, ts⟩, ty, pos, af, none⟩ :: rest) ρ w := by
 have hr : (execOp (ev ρ) ⟨some d, .call ⟨.value (.func f), args, ts⟩, ty, pos, af, none⟩).run P w = .ok (.value v) w := by
  have hx : ev ρ (.func f) = .func (.func f) #[] #[] := rfl;simp only [execOp, resolve, Deferred.ofValue, hx, invoke, lV args ha];simpa using hc
 exact aU rfl rfl hN hr kk
end
theorem gW (x y c : Nat) (hc : c ≤ 1) (w : World) :
  (callFunc 261 #[.int .u64 x, .int .u64 y, .int .u64 c]).run Tryz.prog w =
   .ok (.value (.tuple #[.int .u64 (((x + y + c) % 18446744073709551616 : Nat) : Int), .int .u64 (((x + y + c) / 18446744073709551616 : Nat) : Int)])) w := by
 rw [run_callFunc_extern Tryz.func261 Dt Dt Dt (e := add64Entry) Dt, run_add64 x y c Dq Dq Dq Dq];simp only [Result.andThen];congr 5 <;> omega
def yj : Array Value → Sem Value := fun args => do
 let (x, y, b) ← Extern.MathBitsCarry.three "Sub64" args
 pure (Extern.MathBitsCarry.pair ((x + Extern.MathBitsCarry.m64 - y - b) % Extern.MathBitsCarry.m64) (if x < y + b then 1 else 0))
theorem uc {P : Program} (x y b : Nat) (hb : b ≤ 1) (w : World) :
  (yj #[.int .u64 x, .int .u64 y, .int .u64 b]).run P w =
   .ok (.tuple #[.int .u64 (((x + 18446744073709551616 - y - b) % 18446744073709551616 : Nat) : Int), .int .u64 ((if x < y + b then 1 else 0 : Nat) : Int)]) w := by
 have : b = 0 ∨ b = 1 := Dq
 rcases this with rfl | rfl <;> rfl
theorem qE (x y b : Nat) (hb : b ≤ 1) (w : World) :
  (callFunc 262 #[.int .u64 x, .int .u64 y, .int .u64 b]).run Tryz.prog w =
   .ok (.value (.tuple #[.int .u64 (((x + 18446744073709551616 - y - b) % 18446744073709551616 : Nat) : Int), .int .u64 ((if x < y + b then 1 else 0 : Nat) : Int)])) w := by
 rw [run_callFunc_extern Tryz.func262 Dt Dt Dt (e := yj) Dt, uc x y b hb]
 rfl
theorem nC (x y : Nat) (w : World) (hx : x < 18446744073709551616) (hy : y < 18446744073709551616) :
  Calls Tryz.prog 267 #[.int .u64 (x : Int), .int .u64 (y : Int)] w fun e w' => e = .returned (.tuple #[.int .u64 ((x * y / 18446744073709551616 : Nat) : Int), .int .u64 ((x * y % 18446744073709551616 : Nat) : Int)]) ∧ Below w.heap.size w w' := by
 refine aj (N := 51) (l := [.int .u64 (x : Int), .int .u64 (y : Int)]) Tryz.func267 rfl rfl (by simp) ?_;refine sr (aI (aI (aa (sr (mI ?_)))));refine jJ (b := 4294967295) rfl rfl (by first | assumption | omega) (by first | assumption | omega) Dr ?_;refine aI (aa (sr (mI ?_)));refine dZ (s := 32) (m := 4294967296) rfl rfl Dr Dr Dr ?_;refine aI (aa (sr (mI ?_)));refine jJ (b := 4294967295) rfl rfl (by first | assumption | omega) (by first | assumption | omega) Dr ?_;refine aI (aa (sr (mI ?_)));refine dZ (s := 32) (m := 4294967296) rfl rfl Dr Dr Dr ?_;refine aI (aa (sr (mI (mI ?_))));refine mJ rfl rfl Dr ?_;refine aI (aa (sr (mI (mI ?_))));refine mJ rfl rfl Dr ?_;refine mI ?_;refine dZ (s := 32) (m := 4294967296) rfl rfl Dr Dr Dr ?_;refine fM rfl rfl Dr ?_;refine aI (aa (sr (mI ?_)));refine jJ (b := 4294967295) rfl rfl (by first | assumption | omega) (by first | assumption | omega) Dr ?_;refine aI (aa (sr (mI ?_)));refine dZ (s := 32) (m := 4294967296) rfl rfl Dr Dr Dr ?_;refine aI (aa (sr (mI (mI (mI ?_)))));refine mJ rfl rfl Dr ?_;refine fM rfl rfl Dr ?_;refine aI (aa (sr (mI (mI ?_))));refine mJ rfl rfl Dr ?_;refine mI ?_;refine fM rfl rfl Dr ?_;refine mI ?_
 refine dZ (s := 32) (m := 4294967296) rfl rfl Dr Dr Dr ?_;refine fM rfl rfl Dr ?_;refine aI (aa (sr (mI (mI ?_))));refine mJ rfl rfl Dr ?_;refine aI (aa (al ?_));refine vW ?_;obtain ⟨bd, bt, bw, hhi⟩ := Lib.mul64_hi x y hx hy;have ba := Lib.half_mul_le (a := x / 4294967296) (b := y / 4294967296) Dq Dq;have bb := Lib.half_mul_le (a := x / 4294967296) (b := y % 4294967296) Dq Dq;have bc := Lib.half_mul_le (a := x % 4294967296) (b := y / 4294967296) Dq Dq;have em : ∀ z : Nat, z &&& 4294967295 = z % 4294967296 := fun z => Nat.and_two_pow_sub_one_eq_mod z 32;simp only [em];have hb : x * y / 18446744073709551616 < 18446744073709551616 := by
  rw [Nat.div_lt_iff_lt_mul Dq];exact Nat.mul_lt_mul'' hx hy
 refine ⟨?_, Below.refl _ _⟩;congr 5;rw [Nat.mod_eq_of_lt bd, Nat.mod_eq_of_lt (show x / 4294967296 * (y % 4294967296) < 18446744073709551616 by omega), Nat.mod_eq_of_lt bt, Nat.mod_eq_of_lt (show x % 4294967296 * (y / 4294967296) < 18446744073709551616 by omega), Nat.mod_eq_of_lt bw, Nat.mod_eq_of_lt (show x / 4294967296 * (y / 4294967296) < 18446744073709551616 by omega)];have key : ∀ A T V : Nat, A + T + V < 18446744073709551616 → ((A + T) % 18446744073709551616 + V) % 18446744073709551616 = A + T + V := by intro A T V h; omega
 rw [← hhi] at hb ⊢;exact congrArg Nat.cast (key _ _ _ hb)
theorem fx {x k m : Nat} (hm : 2 ^ k = m) (h : m ≤ x) : bz x = k + bz (x / m) := by
 subst hm;have h0 : x / 2 ^ k ≠ 0 := by
  have := (Nat.div_pos_iff (a := x) (b := 2 ^ k)).2 ⟨Nat.pow_pos Dq, h⟩;omega
 have h1 := db (x / 2 ^ k);have h2 := vz h0;have h3 := lF h0;have h4 := Nat.div_add_mod x (2 ^ k);have h5 := Nat.mod_lt x (Nat.pow_pos (n := k) (show 0 < 2 by omega));apply u0
 ·rw [Nat.pow_add];have : 2 ^ k * (x / 2 ^ k + 1) ≤ 2 ^ k * 2 ^ bz (x / 2 ^ k) := Nat.mul_le_mul_left _ h1;rw [Nat.mul_succ] at this;omega
 ·have e : k + bz (x / 2 ^ k) - 1 = k + (bz (x / 2 ^ k) - 1) := Dq;rw [e, Nat.pow_add];have : 2 ^ k * 2 ^ (bz (x / 2 ^ k) - 1) ≤ 2 ^ k * (x / 2 ^ k) := Nat.mul_le_mul_left _ h2;omega
theorem iw {T : ByteArray} (hT : T.data.toList = (List.range 256).map fun n => UInt8.ofNat (bz n)) {n : Nat} (h : n < 256) : ∃ c : UInt8, T.data.toList[n]? = some c ∧ c.toNat = bz n ∧ bz n ≤ 8 := by
 have hb : bz n ≤ 8 := dm Dq;refine ⟨UInt8.ofNat (bz n), ?_, ?_, hb⟩
 ·rw [hT, List.getElem?_map, List.getElem?_range h]; rfl
 ·rw [UInt8.toNat_ofNat']; omega
theorem tx (x : Nat) (w : World) (hx : x < 18446744073709551616) :
  Calls Tryz.prog 271 #[.int .u64 (x : Int)] w fun e w' => e = .returned (.int .i64 (bz x)) ∧ Below w.heap.size w w' := by
 refine aj (N := 25) (l := [.int .u64 (x : Int)]) Tryz.func271 rfl rfl (by simp) ?_;by_cases h32 : 4294967296 ≤ x
 ·have := fx (x := x) (k := 32) (m := 4294967296) rfl h32;refine sr (aI (aa (ah (sr (mI ?_)))));refine dE (aa (cT (sr (mI ?_))));refine dZ (s := 32) (m := 4294967296) rfl rfl Dr Dr Dr ?_;refine aI (aa (ar (aI (aa (ah (sr (mI ?_)))))));by_cases h16 : 65536 ≤ (x / 4294967296)
  ·have := fx (x := (x / 4294967296)) (k := 16) (m := 65536) rfl h16;refine dE (aa (cT (sr (mI ?_))));refine dZ (s := 16) (m := 65536) rfl rfl Dr Dr Dr ?_;refine aI (aa (ar (mI ?_)));refine bO (aI (aa (ah (sr (mI ?_)))));by_cases h8 : 256 ≤ ((x / 4294967296) / 65536)
   ·have := fx (x := ((x / 4294967296) / 65536)) (k := 8) (m := 256) rfl h8;refine dE (aa (cT (sr (mI ?_))));refine dZ (s := 8) (m := 256) rfl rfl Dr Dr Dr ?_;refine aI (aa (ar (mI ?_)));refine bO (aI (aa (sr (mI (mI ?_)))));first | refine di aF.out aF.out rfl (by first | assumption | omega) Dr ?_ | refine eY aF.out aF.out rfl Dr ?_
    obtain ⟨cc, hcc, hcv, hcb⟩ := iw (T := _) Dt (n := (((x / 4294967296) / 65536) / 256)) Dq;refine bu (c := cc) aF.out rfl rfl Dq hcc Dr ?_;skip;refine cV aF.out aF.out rfl Dq Dq Dr ?_;refine bO (aI (aa (al ?_)));refine cA ?_;refine ⟨?_, Below.refl _ _⟩;congr 2;rw [hcv];omega
   ·refine dE (aa (cF (ak (ai (sr (mI (mI ?_)))))));first | refine di aF.out aF.out rfl (by first | assumption | omega) Dr ?_ | refine eY aF.out aF.out rfl Dr ?_
    obtain ⟨cc, hcc, hcv, hcb⟩ := iw (T := _) Dt (n := (((x / 4294967296) / 65536))) Dq;refine bu (c := cc) aF.out rfl rfl Dq hcc Dr ?_;skip;refine cV aF.out aF.out rfl Dq Dq Dr ?_;refine bO (aI (aa (al ?_)));refine cA ?_;refine ⟨?_, Below.refl _ _⟩;congr 2;rw [hcv];omega
  ·refine dE (aa (cF (ak (ai (ah (sr (mI ?_)))))));by_cases h8 : 256 ≤ ((x / 4294967296))
   ·have := fx (x := ((x / 4294967296))) (k := 8) (m := 256) rfl h8;refine dE (aa (cT (sr (mI ?_))));refine dZ (s := 8) (m := 256) rfl rfl Dr Dr Dr ?_;refine aI (aa (ar (mI ?_)));refine bO (aI (aa (sr (mI (mI ?_)))));first | refine di aF.out aF.out rfl (by first | assumption | omega) Dr ?_ | refine eY aF.out aF.out rfl Dr ?_
    obtain ⟨cc, hcc, hcv, hcb⟩ := iw (T := _) Dt (n := (((x / 4294967296)) / 256)) Dq;refine bu (c := cc) aF.out rfl rfl Dq hcc Dr ?_;skip;refine cV aF.out aF.out rfl Dq Dq Dr ?_;refine bO (aI (aa (al ?_)));refine cA ?_;refine ⟨?_, Below.refl _ _⟩;congr 2;rw [hcv];omega
   ·refine dE (aa (cF (ak (ai (sr (mI (mI ?_)))))));first | refine di aF.out aF.out rfl (by first | assumption | omega) Dr ?_ | refine eY aF.out aF.out rfl Dr ?_
    obtain ⟨cc, hcc, hcv, hcb⟩ := iw (T := _) Dt (n := (((x / 4294967296)))) Dq;refine bu (c := cc) aF.out rfl rfl Dq hcc Dr ?_;skip;refine cV aF.out aF.out rfl Dq Dq Dr ?_;refine bO (aI (aa (al ?_)));refine cA ?_;refine ⟨?_, Below.refl _ _⟩;congr 2;rw [hcv];omega
 ·refine sr (aI (aa (ah (sr (mI ?_)))));refine dE (aa (cF (ak (ai (ah (sr (mI ?_)))))));by_cases h16 : 65536 ≤ (x)
  ·have := fx (x := (x)) (k := 16) (m := 65536) rfl h16;refine dE (aa (cT (sr (mI ?_))));refine dZ (s := 16) (m := 65536) rfl rfl Dr Dr Dr ?_;refine aI (aa (ar (mI ?_)));refine bO (aI (aa (ah (sr (mI ?_)))));by_cases h8 : 256 ≤ ((x) / 65536)
   ·have := fx (x := ((x) / 65536)) (k := 8) (m := 256) rfl h8;refine dE (aa (cT (sr (mI ?_))));refine dZ (s := 8) (m := 256) rfl rfl Dr Dr Dr ?_;refine aI (aa (ar (mI ?_)));refine bO (aI (aa (sr (mI (mI ?_)))));first | refine di aF.out aF.out rfl (by first | assumption | omega) Dr ?_ | refine eY aF.out aF.out rfl Dr ?_
    obtain ⟨cc, hcc, hcv, hcb⟩ := iw (T := _) Dt (n := (((x) / 65536) / 256)) Dq;refine bu (c := cc) aF.out rfl rfl Dq hcc Dr ?_;skip;refine cV aF.out aF.out rfl Dq Dq Dr ?_;refine bO (aI (aa (al ?_)));refine cA ?_;refine ⟨?_, Below.refl _ _⟩;congr 2;rw [hcv];omega
   ·refine dE (aa (cF (ak (ai (sr (mI (mI ?_)))))));first | refine di aF.out aF.out rfl (by first | assumption | omega) Dr ?_ | refine eY aF.out aF.out rfl Dr ?_
    obtain ⟨cc, hcc, hcv, hcb⟩ := iw (T := _) Dt (n := (((x) / 65536))) Dq;refine bu (c := cc) aF.out rfl rfl Dq hcc Dr ?_;skip;refine cV aF.out aF.out rfl Dq Dq Dr ?_;refine bO (aI (aa (al ?_)));refine cA ?_;refine ⟨?_, Below.refl _ _⟩;congr 2;rw [hcv];omega
  ·refine dE (aa (cF (ak (ai (ah (sr (mI ?_)))))));by_cases h8 : 256 ≤ ((x))
   ·have := fx (x := ((x))) (k := 8) (m := 256) rfl h8;refine dE (aa (cT (sr (mI ?_))));refine dZ (s := 8) (m := 256) rfl rfl Dr Dr Dr ?_;refine aI (aa (ar (mI ?_)));refine bO (aI (aa (sr (mI (mI ?_)))));first | refine di aF.out aF.out rfl (by first | assumption | omega) Dr ?_ | refine eY aF.out aF.out rfl Dr ?_
    obtain ⟨cc, hcc, hcv, hcb⟩ := iw (T := _) Dt (n := (((x)) / 256)) Dq;refine bu (c := cc) aF.out rfl rfl Dq hcc Dr ?_;skip;refine cV aF.out aF.out rfl Dq Dq Dr ?_;refine bO (aI (aa (al ?_)));refine cA ?_;refine ⟨?_, Below.refl _ _⟩;congr 2;rw [hcv];omega
   ·refine dE (aa (cF (ak (ai (sr (mI (mI ?_)))))));first | refine di aF.out aF.out rfl (by first | assumption | omega) Dr ?_ | refine eY aF.out aF.out rfl Dr ?_
    obtain ⟨cc, hcc, hcv, hcb⟩ := iw (T := _) Dt (n := (((x)))) Dq;refine bu (c := cc) aF.out rfl rfl Dq hcc Dr ?_;skip;refine cV aF.out aF.out rfl Dq Dq Dr ?_;refine bO (aI (aa (al ?_)));refine cA ?_;refine ⟨?_, Below.refl _ _⟩;congr 2;rw [hcv];omega
theorem ux (x : Nat) (w : World) (hx : x < 18446744073709551616) :
  Calls Tryz.prog 260 #[.int .u64 (x : Int)] w fun e w' => e = .returned (.int .i64 (64 - (bz x : Int))) ∧ Below w.heap.size w w' := by
 have hh := Hp.start w;have hb : bz x ≤ 64 := dm (by simpa using hx);refine aj (N := 6) (l := [.int .u64 (x : Int)]) Tryz.func260 rfl rfl (by simp) ?_;refine sr (aI (aa (sr (mI ?_))));refine bB hh (tx _ _ hx) rfl ?_;intro w4 hh;refine ek (aI (aa (al ?_)));refine cA ?_;exact ⟨rfl, hh.below⟩
def tz (n : Nat) : Nat := Int.trailingZeros (n : Int)
theorem vG (k m : Nat) : tz (2 ^ k * (2 * m + 1)) = k := by
 have h := Int.trailingZeros_shiftLeft (x := 2 * (m : Int) + 1) Dq k;rw [Int.trailingZeros_two_mul_add_one, Int.shiftLeft_eq] at h;unfold tz;have e : ((2 ^ k * (2 * m + 1) : Nat) : Int) = (2 * (m : Int) + 1) * 2 ^ k := by
  rw [Int.natCast_mul, Int.natCast_pow, Int.mul_comm]; rfl
 rw [e];have e2 : (((2 ^ k : Nat)) : Int) = 2 ^ k := by simp
 rw [← e2] at h ⊢;simpa using h
theorem nM {n : Nat} (h : n ≠ 0) : ∃ m, n = 2 ^ tz n * (2 * m + 1) := by
 have : ∀ b n : Nat, n ≤ b → n ≠ 0 → ∃ k m, n = 2 ^ k * (2 * m + 1) := by
  intro b
  induction b with
  | zero => intro n h1 h2; omega
  | succ b ih =>
   intro n h1 h2
   rcases Nat.mod_two_eq_zero_or_one n with h | h
   ·obtain ⟨k, m, hk⟩ := ih (n / 2) Dq Dq;exact ⟨k + 1, m, by rw [Nat.pow_succ, Nat.mul_comm (2 ^ k), Nat.mul_assoc, ← hk]; omega⟩
   ·exact ⟨0, n / 2, Dq⟩
 obtain ⟨k, m, hk⟩ := this n n (Nat.le_refl _) h;exact ⟨m, by rw [hk, vG]⟩
theorem qf {n k : Nat} (h : n ≠ 0) (hn : n < 2 ^ k) : tz n < k := by
 obtain ⟨m, hm⟩ := nM h
 rcases Nat.lt_or_ge (tz n) k with h1 | h1
 ·exact h1
 ·have h2 : 2 ^ k ≤ 2 ^ tz n := Nat.pow_le_pow_right Dq h1;have h3 : 2 ^ tz n * 1 ≤ 2 ^ tz n * (2 * m + 1) := Nat.mul_le_mul_left _ Dq;omega
theorem ta (m m' j : Nat) (h : m + m' + 1 = 2 ^ j) : (2 * m + 1) &&& (2 * m' + 1) = 1 := by
 apply Nat.eq_of_testBit_eq;intro i;rw [Nat.testBit_and]
 cases i with
 | zero => simp
 | succ i =>
  rw [Nat.testBit_succ, Nat.testBit_succ, Nat.testBit_succ];have e1 : (2 * m + 1) / 2 = m := Dq;have e2 : (2 * m' + 1) / 2 = m' := Dq;have e3 : m' = 2 ^ j - (m + 1) := Dq;rw [e1, e2, e3, Nat.testBit_two_pow_sub_succ Dq]
  cases hi : m.testBit i <;> simp
theorem zl {x k m : Nat} (hx : x = 2 ^ k * (2 * m + 1)) (hlt : x < 18446744073709551616) : x &&& (18446744073709551616 - x) % 18446744073709551616 = 2 ^ k := by
 have hW : (18446744073709551616 : Nat) = 2 ^ 64 := by decide
 have hk : k < 64 := by
  have := qf (n := x) (k := 64) (by rw [hx]; exact Nat.mul_ne_zero (Nat.pos_iff_ne_zero.1 (Nat.pow_pos Dq)) Dq) (by rw [← hW]; exact hlt);rwa [hx, vG] at this
 have hp : (18446744073709551616 : Nat) = 2 ^ k * (2 * 2 ^ (63 - k)) := by rw [hW, ← Nat.pow_succ', ← Nat.pow_add]; congr 1; omega
 have hm : m < 2 ^ (63 - k) := by
  rw [hx, hp] at hlt;have := Nat.lt_of_mul_lt_mul_left hlt;omega
 have e : (18446744073709551616 - x) % 18446744073709551616 = 2 ^ k * (2 * (2 ^ (63 - k) - (m + 1)) + 1) := by
  have h1 : 2 * (2 ^ (63 - k) - (m + 1)) + 1 = 2 * 2 ^ (63 - k) - (2 * m + 1) := Dq;rw [h1, Nat.mul_sub, ← hp, ← hx, Nat.mod_eq_of_lt];have : 0 < 2 ^ k * (2 * m + 1) := Nat.mul_pos (Nat.pow_pos Dq) Dq;omega
 rw [e, hx];have h2 := ta m (2 ^ (63 - k) - (m + 1)) (63 - k) Dq;have h3 := congrArg (· <<< k) h2;rw [Nat.shiftLeft_and_distrib] at h3;simp only [Nat.shiftLeft_eq, Nat.one_mul] at h3;rw [Nat.mul_comm (2 ^ k), Nat.mul_comm (2 ^ k)];exact h3
def uO : List Nat := [0, 1, 56, 2, 57, 49, 28, 3, 61, 58, 42, 50, 38, 29, 17, 4, 62, 47, 59, 36, 45, 43, 51, 22, 53, 39, 33, 30, 24, 18, 12, 5, 63, 55, 48, 27, 60, 41, 37, 16, 46, 35, 44, 21, 52, 32, 23, 11, 54, 26, 40, 15, 34, 20, 31, 10, 25, 14, 19, 9, 13, 8, 7, 6]
def gK (w : World) : Prop := Rd w ⟨0, 0, none⟩ (fo uO)
theorem gK.hp {w w' : World} {H : List HE} (h : gK w) (hh : Hp w H w') : gK w' := Rd.ext h hh.below
theorem BF : ∀ k : Fin 64, uO[2 ^ k.val * 285870213051353865 % 18446744073709551616 / 288230376151711744]? = some k.val ∧ 2 ^ k.val * 285870213051353865 % 18446744073709551616 / 288230376151711744 < 64 := by decide +kernel
theorem tQ (x : Nat) (w : World) (hx : x < 18446744073709551616) (h0 : x ≠ 0) (hT : gK w) :
  Calls Tryz.prog 225 #[.int .u64 (x : Int)] w fun e w' => e = .returned (.int .i64 (tz x)) ∧ Below w.heap.size w w' := by
 have hh := Hp.start w;obtain ⟨m, hm⟩ := nM h0;have hk : tz x < 64 := qf h0 (by simpa using hx);have ha := zl hm hx;obtain ⟨t1, t2⟩ := BF ⟨tz x, hk⟩;simp only at t1 t2;have hc := (show Rd w _ _ from hT).nT (mg t1);refine aj (N := 14) (l := [.int .u64 (x : Int)]) Tryz.func225 rfl rfl (by simp) ?_;refine sr (aI (aa (ah (sr (mI ?_)))));refine cu (aa (cF (ak (ai (sr (mI (mI ?_)))))));refine xu rfl (by first | assumption | omega) Dr ?_;refine jJ rfl rfl hx (Nat.mod_lt _ Dr) Dr ?_;rw [ha];skip;refine mJ (b := 285870213051353865) rfl rfl Dr ?_;refine dZ (s := 58) (m := 288230376151711744) rfl rfl Dr Dr Dr ?_;refine ud aF.out aC.size rfl rfl rfl Dq Dr ?_;refine bp aC.out rfl (hc) Dr ?_;refine cV aF.out aF.out rfl Dq Dq Dr ?_;refine aI (aa (al ?_));refine cA ?_;exact ⟨rfl, hh.below⟩
end Go.Proofs.YteeckcbbnegmcaaGreatDoor
