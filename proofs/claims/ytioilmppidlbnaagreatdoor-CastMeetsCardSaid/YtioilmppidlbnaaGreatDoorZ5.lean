/- Lemmas for castMeets, part 5. -/
import Derived.RangeFuncFrom
import Derived.RangeFuncCalls
import Derived.RangeFuncLeaves
import Derived.Shelf.Abstract
import Derived.Test.YtioilmppidlbnaaGreatDoorZ4
/- A range over a function, for one loop variable. Plain lemmas, no program in sight. -/
namespace Go.Proofs.YtioilmppidlbnaaGreatDoor
open Go.RowKit
abbrev kr (D : Nat) : Deferred := { target := .collected D, args := #[] }
abbrev kW (M : List Nat) : List HE := M.map fun D => .ob D (.deferred (some []))
theorem xa {N : Nat} {D : List Deferred} {a b : Act} {ρ : Rf} (h : dW N D a ρ) (k : dW N D b ρ) : a = b := by
 obtain ⟨t, d⟩ := a
 obtain ⟨t', d'⟩ := b
 obtain ⟨h1, h2, h3⟩ := h
 obtain ⟨k1, k2, k3⟩ := k
 obtain rfl : d = d' := h1.trans k1.symm
 congr 1
 refine Array.ext (h2.trans k2.symm) fun i hi hi' => ?_
 have e1 := h3 i
 have e2 := k3 i
 rw [Array.getD_eq_getD_getElem?, Array.getElem?_eq_getElem hi] at e1
 rw [Array.getD_eq_getD_getElem?, Array.getElem?_eq_getElem hi'] at e2
 exact e1.trans e2.symm
abbrev Kd := Exit → List Nat → Rf → World → Prop
structure WD (P : Program) (N : Nat) (c : Code) (Q : Kd) (ρ : Rf) (w : World) : Prop where
 out : ∀ (M : List Nat) a, dW N (M.map kr) a ρ → ∀ n, c.wpIn Fence.wide n P (fun e a' w' => ∃ M' ρ', dW N ((M' ++ M).map kr) a' ρ' ∧ Q e M' ρ' w') a w
def qv (next : List Nat → Rf → World → Prop) (Q : Kd) : Kd
 | .normal, M, ρ, w => next M ρ w
 | e, M, ρ, w => Q e M ρ w
def nh (M : List Nat) (Q : Kd) : Kd := fun e M2 ρ w => Q e (M2 ++ M) ρ w
def wi (id : Nat) (Q : Kd) : Kd
 | .exit id', M, ρ, w => if id' = id then Q .normal M ρ w else Q (.exit id') M ρ w
 | e, M, ρ, w => Q e M ρ w
def vx (Q : Kd) : Kq := fun e ρ w => Q e [] ρ w
section
variable {P : Program} {N : Nat} {Q : Kd} {ρ : Rf} {w : World}
theorem qT {c : Code} (h : ∀ D, WC ⟨none, D, true⟩ P N c (vx Q) ρ w) : WD P N c Q ρ w :=
 ⟨fun M a hf n => wpIn_mono ((h (M.map kr)).gP a hf n) fun e a' w' ⟨ρ', hf', hq⟩ => ⟨[], ρ', hf', hq⟩⟩
theorem nf {x y : Code} (h : WD P N x (qv (fun M ρ w => WD P N y (nh M Q) ρ w) Q) ρ w) : WD P N (.seq x y) Q ρ w :=
 ⟨fun M a hf n => wpIn_seq (wpIn_mono (h.out M a hf n) fun e a' w' ⟨M', ρ', hf', hq⟩ => by
  cases e with
  | normal =>
   refine wpIn_mono ((hq : WD P N y (nh M' Q) ρ' w').out (M' ++ M) a' hf' n) fun e a2 w2 ⟨M2, ρ2, hf2, hq2⟩ => ?_
   exact ⟨M2 ++ M', ρ2, by rw [List.append_assoc]; exact hf2, hq2⟩
  | _ => exact ⟨M', ρ', hf', hq⟩)⟩
theorem eR {x y : Code} (h : ∀ D, WC ⟨none, D, true⟩ P N x (ck (fun ρ w => WD P N y Q ρ w) (vx Q)) ρ w) : WD P N (.seq x y) Q ρ w :=
 nf (qT fun D => (h D).mono fun e ρ w hq => by
  cases e with
  | normal =>
   show WD P N y (nh [] Q) ρ w
   have e0 : nh [] Q = Q := by funext e M ρ w; unfold nh; rw [List.append_nil]
   rw [e0]
   exact hq
  | _ => exact hq)
theorem lF {id : Nat} {c : Code} (h : WD P N c (wi id Q) ρ w) : WD P N (.block id c) Q ρ w :=
 ⟨fun M a hf n => wpIn_block (wpIn_mono (h.out M a hf n) fun e a' w' ⟨M', ρ', hf', hq⟩ => by
  cases e with
  | exit id' =>
   by_cases hid : id' = id
   ·simp only [wi, hid, if_true] at hq
    simp only [Exit.inBlock, hid, if_true]
    exact ⟨M', ρ', hf', hq⟩
   ·simp only [wi, hid, if_false] at hq
    simp only [Exit.inBlock, hid, if_false]
    exact ⟨M', ρ', hf', hq⟩
  | _ => exact ⟨M', ρ', hf', hq⟩)⟩
theorem xG {c : Code} (I : List Nat → Rf → World → Prop) (μ : Rf → World → Nat) (h0 : I [] ρ w)
  (round : ∀ M ρ w, I M ρ w → WD P N c (fun e M2 ρ' w' => qv (fun M2 ρ' w' => I M2 ρ' w' ∧ μ ρ' w' < μ ρ w) Q e (M2 ++ M) ρ' w') ρ w) : WD P N (.loop c) Q ρ w := by
 refine ⟨fun M0 a hf n => ?_⟩
 refine wpIn_loop (fun a w => ∃ M ρ, dW N ((M ++ M0).map kr) a ρ ∧ I M ρ w) (fun a w => μ (fun i => a.tmps.getD i undef) w) ⟨[], ρ, hf, h0⟩ ?_
 rintro a w ⟨M, ρ, hf, hi⟩
 refine wpIn_mono ((round M ρ w hi).out (M ++ M0) a hf n) ?_
 rintro e a' w' ⟨M', ρ', hf', hq⟩
 rw [← List.append_assoc] at hf'
 have e1 : (fun i => a.tmps.getD i undef) = ρ := funext hf.at_
 have e2 : (fun i => a'.tmps.getD i undef) = ρ' := funext hf'.at_
 cases e with
 | normal => exact ⟨⟨_, ρ', hf', hq.1⟩, by rw [e1, e2]; exact hq.2⟩
 | _ => exact ⟨_, ρ', hf', hq⟩
def yN {α : Type} (Kp : World → World → Prop) (I : List α → World → Prop) (pre : List α) (x : α) (W : World) : Kq
 | .normal, _, W' => KeepsOthers W W' ∧ Kp W W' ∧ I (pre ++ [x]) W'
 | _, _, _ => False
def lv : Kq := fun _ _ _ => False
theorem oW {ps : Tmp} {v : Value} {a : Array Value} : ((#[ps] : Array Tmp).zip #[v]).foldl (fun t (p, v) => t.setIfInBounds p v) a = a.setIfInBounds ps v := by simp
theorem vF {α : Type} {g : Operand} {p : Tmp} {assign body : Code} {gf : Nat} {lb : Array Value} (hp : p < N) (hg : ev ρ g = .func (.func gf) #[] lb) (eg : ∀ args w, (callFunc gf args).run P w = .ok (.enter gf args) w)
  {enc : α → Value} {Kp : World → World → Prop} {S : List α → Prop} {Nn : Nat} (hseq : ∀ n, SeqStopsK Fence.wide n P gf lb (fun x => #[enc x]) Kp S (fun _ => True) Nn w)
  (hKt : ∀ {A B C : World}, Kp A B → Kp B C → Kp A C) (hKb : ∀ (W : World) (l : Nat) (o o' : Obj), w.heap.size ≤ l → W.heap[l]? = some o → o.isCells = false → o.isWalk = false → Kp W (W.putObj l o'))
  (I : List α → World → Prop) (hI : OwnFrom w.heap.size I) (h0 : I [] w) (ρ1 : α → Rf) (hρ : ∀ x i, N ≤ i → ρ1 x i = ρ i)
  (hassign : ∀ l x W, WC ⟨some l, [], true⟩ P N assign (ck (fun ρ' W' => ρ' = ρ1 x ∧ W' = W) lv) (cn ρ p (enc x)) W)
  (hbody : ∀ l pre x W, I pre W → pre.length < Nn → WC ⟨some l, [], true⟩ P N body (yN Kp I pre x W) (ρ1 x) W)
  (hdone : ∀ (D : Nat) (xs : List α) (W : World), w.heap.size ≤ D → S xs → I xs W → W.heap[D]? = some (.deferred (some [])) → Q .normal [D] ρ W) : WD P N (.rangeFunc g #[p] assign body) Q ρ w := by
 refine ⟨fun M a hf n => ?_⟩
 have hfit : ∀ x, dW N [] { tmps := Array.ofFn fun i : Fin N => ρ1 x i, defers := [] } (ρ1 x) := fun x => by
  refine ⟨rfl, by simp, fun i => ?_⟩
  rw [Array.getD_eq_getD_getElem?]
  by_cases hi : i < N
  ·rw [Array.getElem?_eq_getElem (by simpa using hi)]
   simp
  ·rw [Array.getElem?_eq_none (by simp; omega), hρ x i (by omega), ← hf.at_ i, Array.getD_eq_getD_getElem?, Array.getElem?_eq_none (by rw [hf.sz]; omega)]
 have main : (Code.rangeFunc g #[p] assign body).wpIn Fence.wide (n + 1) P (fun e a' w' => ∃ M' ρ', dW N ((M' ++ M).map kr) a' ρ' ∧ Q e M' ρ' w') a w := by
  refine wpIn_rangeFunc_ownF (F := Fence.wide) (n := n + 1) rfl (by omega) (gf := gf) (lb := lb) (by rw [hf.eval]; exact hg) trivial eg (hseq _) hKt hKb (Below.refl _ _) (fun _ => rfl) I (fun _ _ _ => False) hI
   (fun _ _ _ _ _ hs _ _ => hs) h0 (fun x => { tmps := Array.ofFn fun i : Fin N => ρ1 x i, defers := [] }) (fun l x W K hK => ?_) (fun l pre x W hi hl => ?_) (fun D xs W hD hS hi hW => ?_) (fun _ _ _ _ _ _ h _ => h.elim)
  ·refine wpIn_mono ((hassign l x W).gP _ ⟨rfl, ?_, fun i => ?_⟩ _) fun e a' w' ⟨ρ', hf', hq⟩ => ?_
   ·rw [oW]
    simp [hf.sz]
   ·rw [oW, ← (hf.put hp (enc x)).at_ i]
    rfl
   ·cases e with
    | normal =>
     obtain ⟨rfl, rfl⟩ := hq
     rw [xa hf' (hfit x)]
     exact hK
    | _ => exact hq.elim
  ·refine wpIn_mono ((hbody l pre x W hi hl).gP _ (hfit x) _) fun e a' w' ⟨ρ', hf', hq⟩ => ?_
   cases e with
   | normal => exact hq
   | _ => exact hq.elim
  ·exact ⟨[D], ρ, ⟨by rw [hf.nd]; rfl, hf.sz, hf.at_⟩, hdone D xs W hD hS hi hW⟩
 intro b k cs hro hb _
 exact main b k cs hro hb (room_wide _)
end
def Ar (P : Program) (fn : Func) (R : Ending → World → Prop) : Kd := fun e M ρ w =>
 (e = .normal ∨ e = .ret) ∧ ∀ tmps : Array Value, (∀ i, tmps.getD i undef = ρ i) → ∀ n, LeavesInM Fence.wide n P fn tmps R (M.map kr) .returning w
theorem jL {P : Program} {f : FuncId} {fn : Func} {c : Code} {N : Nat} {l : List Value} {w : World} {R : Ending → World → Prop}
  (hf : P.funcs[f]? = some fn) (hb : fn.body = some c) (hn : fn.ntmps = N) (ha : l.length ≤ N)
  (h : WD P N c (Ar P fn R) (oY l) w) : Calls P f l.toArray w R := by
 refine (callsIn_wide (n := 0)).1 (callsIn_of_wp_marks hf hb trivial ?_ rfl)
 refine wpIn_mono (h.out [] _ ⟨rfl, by simp [hn]; omega, fun i => ?_⟩ 0) ?_
 ·simp only [oY]
  rcases Nat.lt_or_ge i l.length with hi | hi
  ·rw [Array.getD_eq_getD_getElem?, Array.getElem?_append_left (by simpa using hi)]
   simp [List.getD_eq_getElem?_getD]
  ·rw [Array.getD_eq_getD_getElem?, Array.getElem?_append_right (by simpa using hi)]
   simp only [List.getD_eq_getElem?_getD, List.getElem?_eq_none hi, Option.getD_none, Array.getElem?_replicate]
   split <;> rfl
 ·rintro e a w' ⟨M, ρ', hf', he, hl⟩
  rw [List.append_nil] at hf'
  rcases he with rfl | rfl
  ·show LeavesInM _ _ _ _ a.tmps _ a.defers _ _
   rw [hf'.nd]
   exact hl _ hf'.at_ 0
  ·show LeavesInM _ _ _ _ a.tmps _ a.defers _ _
   rw [hf'.nd]
   exact hl _ hf'.at_ 0
theorem s7 {P : Program} {f : FuncId} {fn : Func} {c : Code} {N : Nat} {l : List Value} {w : World} {R : Ending → World → Prop}
  (hf : P.funcs[f]? = some fn) (hb : fn.body = some c) (hn : fn.ntmps = N) (ha : l.length ≤ N)
  (h : WC ⟨none, [], true⟩ P N c (jw P fn R) (oY l) w) : Calls P f l.toArray w R := by
 refine (callsIn_wide (n := 0)).1 (callsIn_of_wp hf hb trivial ?_ rfl)
 refine wpIn_mono (h.gP _ ⟨rfl, by simp [hn]; omega, fun i => ?_⟩ 0) ?_
 ·simp only [oY]
  rcases Nat.lt_or_ge i l.length with hi | hi
  ·rw [Array.getD_eq_getD_getElem?, Array.getElem?_append_left (by simpa using hi)]
   simp [List.getD_eq_getElem?_getD]
  ·rw [Array.getD_eq_getD_getElem?, Array.getElem?_append_right (by simpa using hi)]
   simp only [List.getD_eq_getElem?_getD, List.getElem?_eq_none hi, Option.getD_none, Array.getElem?_replicate]
   split <;> rfl
 ·rintro e a w' ⟨ρ', hf', he, v, hr, hR⟩
  rcases he with rfl | rfl
  ·exact ⟨hf'.nd, v, hr _ hf'.at_, hR⟩
  ·exact ⟨hf'.nd, v, hr _ hf'.at_, hR⟩
def HE.xr : HE → Bool
 | .ob _ _ => false
 | _ => true
theorem jB {base : Nat} {w : World} {x : HE} {b : Nat} (h : x.holds base w) (hc : x.xr = true) (hid : x.id = some b) : ∃ o, w.heap[b]? = some o ∧ o.isCells = true := by
 cases x with
 | blk b' t cs fz =>
  obtain rfl : b' = b := Option.some.inj hid
  exact ⟨_, h.2.1, rfl⟩
 | row A n c t sz xs =>
  rcases h.2 with ⟨h1, _⟩ | ⟨g, cap, cur, h1, _, h3, _⟩
  ·injection h1 with e1
   subst e1
   cases hid
  ·injection h1 with e1
   subst e1
   obtain rfl : g = b := Option.some.inj hid
   exact ⟨_, h3, rfl⟩
 | ob _ _ => cases hc
theorem Hp.wg {w0 w w' : World} {H : List HE} (h : Hp w0 H w) (hc : ∀ x ∈ H, x.xr = true) {row : Option Nat} (hg : w.grownBy w' row) (hr : ∀ r, row = some r → w0.heap.size ≤ r ∧ ∃ o : Obj, w.heap[r]? = some o ∧ o.isCells = false) : Hp w0 H w' := by
 refine ⟨⟨hg.os.trans h.below.os, hg.tape.trans h.below.tape, hg.output.trans h.below.output, Nat.le_trans h.size hg.size, fun k hk => ?_⟩, fun x hx => ?_, h.nd⟩
 ·refine (hg.block k (Nat.lt_of_lt_of_le hk h.size) fun e => ?_).trans (h.below.block k hk)
  have := (hr k e.symm).1
  omega
 ·refine kg (h.own x hx) fun b hid => hg.block b (dk (h.own x hx) hid).2 fun e => ?_
  obtain ⟨o, h1, h2⟩ := jB (h.own x hx) (hc x hx) hid
  obtain ⟨_, o', h3, h4⟩ := hr b e.symm
  rw [h1] at h3
  cases h3
  rw [h2] at h4
  cases h4
theorem Hp.An {w0 w : World} {H : List HE} (h : Hp w0 H w) (hc : ∀ x ∈ H, x.xr = true) {D : Nat} {o : Obj} (hD : w0.heap.size ≤ D) (h1 : w.heap[D]? = some o) (ho : o.isCells = false) : Hp w0 (.ob D o :: H) w := by
 refine ⟨h.below, fun x hx => ?_, ?_⟩
 ·rcases List.mem_cons.1 hx with rfl | hx
  ·exact ⟨hD, h1⟩
  ·exact h.own x hx
 ·rw [List.filterMap_cons]
  show (D :: H.filterMap HE.id).Nodup
  refine List.nodup_cons.2 ⟨fun hm => ?_, h.nd⟩
  obtain ⟨y, hy, hyb⟩ := List.mem_filterMap.1 hm
  obtain ⟨o', h2, h3⟩ := jB (h.own y hy) (hc y hy) hyb
  rw [h1] at h2
  cases h2
  rw [ho] at h3
  cases h3
def vS (base : Nat) (ids : List Nat) (w : World) (k : Nat) : Option HE := if base ≤ k ∧ ids.contains k = false then (w.heap[k]?).map fun o => .ob k o else none
def ot (base : Nat) (ids : List Nat) (w : World) : List HE := (List.range w.heap.size).filterMap (vS base ids w)
theorem mD {base : Nat} {ids : List Nat} {w : World} {k : Nat} {x : HE} (h : vS base ids w k = some x) : ∃ o, x = .ob k o ∧ base ≤ k ∧ k ∉ ids ∧ w.heap[k]? = some o := by
 unfold vS at h
 split at h
 ·rename_i h1
  obtain ⟨o, h2, h3⟩ := Option.map_eq_some_iff.1 h
  exact ⟨o, h3.symm, h1.1, by simpa using h1.2, h2⟩
 ·cases h
theorem Hp.uA {w0 w : World} {H : List HE} (h : Hp w0 H w) : Hp w0 (H ++ ot w0.heap.size (H.filterMap HE.id) w) w := by
 refine ⟨h.below, fun x hx => ?_, ?_⟩
 ·rcases List.mem_append.1 hx with hx | hx
  ·exact h.own x hx
  ·obtain ⟨k, _, hk⟩ := List.mem_filterMap.1 hx
   obtain ⟨o, rfl, h1, _, h3⟩ := mD hk
   exact ⟨h1, h3⟩
 ·rw [List.filterMap_append]
  refine List.nodup_append.2 ⟨h.nd, ?_, fun a ha b hb e => ?_⟩
  ·unfold ot
   rw [List.filterMap_filterMap]
   refine List.Pairwise.filterMap _ (fun a a' hne b hb b' hb' e => ?_) List.nodup_range
   obtain ⟨x, hx, hx2⟩ := Option.bind_eq_some_iff.1 hb
   obtain ⟨y, hy, hy2⟩ := Option.bind_eq_some_iff.1 hb'
   obtain ⟨o, rfl, _⟩ := mD hx
   obtain ⟨o', rfl, _⟩ := mD hy
   obtain rfl : a = b := Option.some.inj hx2
   obtain rfl : a' = b' := Option.some.inj hy2
   exact hne e
  ·obtain ⟨x, hx, hx2⟩ := List.mem_filterMap.1 hb
   obtain ⟨k, _, hk⟩ := List.mem_filterMap.1 hx
   obtain ⟨o, rfl, _, h2, _⟩ := mD hk
   obtain rfl : k = b := Option.some.inj hx2
   exact h2 (e ▸ ha)
theorem Hp.keeps {w0 w w' : World} {H H' : List HE} (hs : Hp w0 H w) (hc : ∀ x ∈ H, x.xr = true) (he : Hp w0 (H' ++ ot w0.heap.size (H.filterMap HE.id) w) w') (hid : H'.filterMap HE.id = H.filterMap HE.id) : KeepsOthers w w' := by
 have key : ∀ k, k < w.heap.size → k < w'.heap.size ∧ ∀ o, w.heap[k]? = some o → o.isCells = false → w'.heap[k]? = some o := fun k hk => by
  by_cases h0 : k < w0.heap.size
  ·exact ⟨Nat.lt_of_lt_of_le h0 he.size, fun o h1 _ => (he.below.block k h0).trans ((hs.below.block k h0).symm.trans h1)⟩
  ·by_cases hm : k ∈ H.filterMap HE.id
   ·obtain ⟨y, hy, hyb⟩ := List.mem_filterMap.1 (hid ▸ hm)
    refine ⟨(dk (he.own y (List.mem_append_left _ hy)) hyb).2, fun o h1 h2 => ?_⟩
    obtain ⟨z, hz, hzb⟩ := List.mem_filterMap.1 hm
    obtain ⟨o', h3, h4⟩ := jB (hs.own z hz) (hc z hz) hzb
    rw [h1] at h3
    cases h3
    rw [h2] at h4
    cases h4
   ·have hx : HE.ob k w.heap[k] ∈ ot w0.heap.size (H.filterMap HE.id) w := List.mem_filterMap.2 ⟨k, List.mem_range.2 hk, by
     unfold vS
     rw [if_pos ⟨by omega, by simpa using hm⟩, Array.getElem?_eq_getElem hk]
     rfl⟩
    have h1 := he.own _ (List.mem_append_right _ hx)
    refine ⟨(dk h1 rfl).2, fun o h2 _ => ?_⟩
    rw [Array.getElem?_eq_getElem hk] at h2
    cases h2
    exact h1.2
 refine ⟨?_, fun k o h1 h2 => (key k (Array.getElem?_eq_some_iff.1 h1).1).2 o h1 h2⟩
 rcases Nat.eq_zero_or_pos w.heap.size with h | h
 ·omega
 ·have := (key (w.heap.size - 1) (by omega)).1
  omega
theorem lp {P : Program} {fn : Func} {tmps : Array Value} {R : Ending → World → Prop} {n : Nat} {w0 : World} {H : List HE} : ∀ (M : List Nat) (w : World), Hp w0 (kW M ++ H) w → (∀ w2, Hp w0 H w2 → ∃ v, (results fn tmps).run P w2 = .ok v w2 ∧ R (.returned v) w2) →
  LeavesInM Fence.wide n P fn tmps R (M.map kr) .returning w
 | [], w, hh, h => h w hh
 | D :: M, w, hh, h => by
  have hD : w.heap[D]? = some (.deferred (some [])) := (hh.own _ List.mem_cons_self).2
  refine ⟨by simp, .inl ⟨D, w.putObj D (.deferred none), rfl, run_takeDeferred hD, lp M _ ?_ h⟩⟩
  have hb := (hh.own _ List.mem_cons_self).1
  have h2 := hh.yc (i := 0) (x := .ob D (.deferred (some []))) (y := .ob D (.deferred none)) (w' := w.putObj D (.deferred none)) rfl (fun b e => .inl e) ?_ (fun b hlt hne => World.putObj_heap_other (fun e => hne (by rw [e]; rfl))) ⟨hb, ?_⟩
  ·exact h2.sub (List.sublist_cons_self _ _)
  ·have hg := grownBy_putObj' w D (.deferred none)
   refine ⟨hg.os.trans hh.below.os, hg.tape.trans hh.below.tape, hg.output.trans hh.below.output, Nat.le_trans hh.size hg.size, fun k hk => (hg.block k (Nat.lt_of_lt_of_le hk hh.size) fun e => ?_).trans (hh.below.block k hk)⟩
   cases e
   omega
  ·exact World.putObj_heap_same (Array.getElem?_eq_some_iff.1 hD).1
theorem jU {P : Program} {fn : Func} {R : Ending → World → Prop} {ρ : Rf} {w w0 : World} {e : Exit} {M : List Nat} {H : List HE} {rs : List ResultVar} {vs : List Value} (hh : Hp w0 (kW M ++ H) w) (he : e = .normal ∨ e = .ret) (hr : fn.results = rs.toArray)
  (h : ∀ w2, Hp w0 H w2 → fj P ρ w2 rs vs ∧ R (.returned (oR vs)) w2) : Ar P fn R e M ρ w := by
 refine ⟨he, fun tmps ht n => lp M w hh fun w2 hh2 => ?_⟩
 obtain ⟨h1, h2⟩ := h w2 hh2
 obtain ⟨_, v, h3, h4⟩ := ib (e := e) he hr h1 h2
 exact ⟨v, h3 tmps ht, h4⟩
theorem xR {P : Program} {w : World} {ρ : Rf} {d : Option Nat} {ty : TypeId} {pos : String} {af : Array Edge} {g : Option (Nat × Bool)} {x : Operand} {args : Array Operand} {ts : Array TypeId} {vs : List Value} {l : Nat} {fn : FuncId} {tmps : Array Value} {assign body : Code}
  (hx : ev ρ x = .func (.yield l) #[] #[]) (ha : oN ρ args.toList = vs) (hy : (Instr.yield l vs.toArray).run P w = .ok (.round l fn tmps assign body) w) : (execOp (ev ρ) ⟨d, .call ⟨.value x, args, ts⟩, ty, pos, af, g⟩).run P w = .ok (.round l fn tmps assign body) w := by
 have h2 : args.map (ev ρ) = vs.toArray := jX args ha
 simp [execOp, resolve, Deferred.ofValue, hx, h2, invoke, callFunc, program, Sem.run, hy]
theorem vM {P : Program} {N : Nat} {ops : Array Oper} {Q : Kq} {ρ : Rf} {w : World} {rest : List Oper} {d : Nat} {ty : TypeId} {pos : String} {af : Array Edge} {x : Operand} {args : Array Operand} {ts : Array TypeId} {vs : List Value} {l m : Nat} {R : Ending → World → Prop}
  (hx : ev ρ x = .func (.yield l) #[] #[]) (ha : oN ρ args.toList = vs) (hy : YieldAt Fence.wide m P l vs.toArray w R) (hN : d < N) (kk : ∀ e w', R e w' → ∃ v, e = .returned v ∧ WL ⟨none, [], true⟩ P N ops Q rest (cn ρ d v) w') :
  WL ⟨none, [], true⟩ P N ops Q (⟨some d, .call ⟨.value x, args, ts⟩, ty, pos, af, none⟩ :: rest) ρ w := by
 obtain ⟨fn, tmps, as_, bd, h1, h2⟩ := hy
 refine ⟨fun h => (by cases h), fun a hf n => wpListIn_plain rfl fun K hK => ⟨fun _ _ => trivial, ?_⟩⟩
 rw [hf.eval, iA _ (xR hx ha h1) (fun _ h => by cases h)]
 refine ⟨fun h => (by cases h), ?_⟩
 refine ⟨trivial, fun c cs _ => ?_⟩
 obtain ⟨e, w', hR, hs⟩ := h2.2 c cs (room_wide _)
 refine ⟨e, w', ?_, hs⟩
 obtain ⟨v, rfl, hk⟩ := kk e w' hR
 exact hK _ _ (hk.gP _ (hf.put hN v) n)
end Go.Proofs.YtioilmppidlbnaaGreatDoor
/- slices.Chunk of a slice of numbers, and what it yields. -/
namespace Go.Proofs.YtioilmppidlbnaaGreatDoor
open Go.RowKit
theorem wO {P : Program} {ρ : Rf} {w : World} {d : Option Nat} {ty : TypeId} {pos : String} {af : Array Edge} {g : Option (Nat × Bool)} {t e : TypeId} {x lo hi mx : Operand} {ad : Addr} {n c l h q sz : Nat} {k1 k2 k3 : IntKind} {m1 m2 m3 : Int}
  (ht : P.underlying t = some (.slice e)) (hsz : (P.info? e).map (·.size) = some sz) (hx : ev ρ x = .slice (some ad) n c) (hlo : ev ρ lo = .int k1 m1) (hhi : ev ρ hi = .int k2 m2) (hmx : ev ρ mx = .int k3 m3) (e1 : m1 = (l : Int)) (e2 : m2 = (h : Int)) (e3 : m3 = (q : Int))
  (h1 : l ≤ h) (h2 : h ≤ q) (h3 : q ≤ c) (h4 : l < q) : (execOp (ev ρ) ⟨d, .slice t x (some lo) (some hi) (some mx), ty, pos, af, g⟩).run P w = .ok (.value (.slice (some (ad.add (l * sz))) (h - l) (q - l))) w := by
 obtain ⟨i, hi1, hi2⟩ := Option.map_eq_some_iff.1 hsz
 subst e1 e2 e3 hi2
 have a1 : (l : Int) ≤ h := by omega
 have a2 : (h : Int) ≤ q := by omega
 have a3 : (q : Int) ≤ c := by omega
 have a4 : ¬ q = l := by omega
 have a5 : ¬ q - l = 0 := by omega
 simp [execOp, hx, Instr.sliceAt, Instr.slice, run_underlying ht, Instr.sliceBounds, Instr.sliceBound, asIntOf, hlo, hhi, hmx, h1, h2, h3, a4, a5, sizeOf, typeInfo, hi1]
theorem mq (A : Option Addr) (n c K : Nat) (w : World) (hK : 1 ≤ K) :
  Calls Tryz.prog 70 #[.slice A n c, .int .i64 K] w fun r w' => ∃ b2 b3, r = .returned (.func (.func 122) #[] #[.pointer (some ⟨b2, 0, none⟩), .pointer (some ⟨b3, 0, none⟩)]) ∧ Hp w [.blk b3 3 [.int .i64 K] (0, 0), .blk b2 26 [.slice A n c] (0, 0)] w' := by
 have hh := Hp.start w
 refine aj (N := 9) (l := [.slice A n c, .int .i64 K]) Tryz.func70 rfl rfl (by simp) ?_
 refine sr ?_
 refine cW hh [_] ?_
 intro b2 w2 hh
 refine cW hh [_] ?_
 intro b3 w3 hh
 refine gi (by first | exact fD rfl | exact fM rfl) (by decide) ?_
 refine aa (ah (sr ?_))
 refine bI hh 0 ?_
 refine aQ (aa (cF (al (ai (sr ?_)))))
 refine iV rfl (aE (lZ rfl) (aE (lZ rfl) bz)) (by decide) ?_
 refine gi (by first | exact fD rfl | exact fM rfl) (by decide) ?_
 refine aa (aq ?_)
 refine cC ?_
 exact ⟨_, _, rfl, hh⟩
def qP (b2 b3 : Nat) (W W' : World) : Prop := W'.cell? ⟨b2, 0, none⟩ = W.cell? ⟨b2, 0, none⟩ ∧ W'.cell? ⟨b3, 0, none⟩ = W.cell? ⟨b3, 0, none⟩
theorem nc {W W' : World} (h : Below W.heap.size W W') : W.grownBy W' none := ⟨h.os, h.tape, h.output, h.size, fun k hk _ => h.block k hk⟩
theorem ug {b2 b3 : Nat} {A B C : World} (h : qP b2 b3 A B) (k : qP b2 b3 B C) : qP b2 b3 A C := ⟨k.1.trans h.1, k.2.trans h.2⟩
theorem tS {b2 b3 : Nat} {w : World} (h2 : b2 < w.heap.size) (h3 : b3 < w.heap.size) (W : World) (l : Nat) (o o' : Obj) (hl : w.heap.size ≤ l) : qP b2 b3 W (W.putObj l o') :=
 ⟨World.cell?_of_block (World.putObj_heap_other (fun e => by simp at e; omega)), World.cell?_of_block (World.putObj_heap_other (fun e => by simp at e; omega))⟩
theorem pg (b2 b3 : Nat) (ad : Addr) (n c K m : Nat) (w : World) (h2 : w.cell? ⟨b2, 0, none⟩ = some (.slice (some ad) n c)) (h3 : w.cell? ⟨b3, 0, none⟩ = some (.int .i64 K)) (hn : n = m * K) (hK : 0 < K) (hc : n ≤ c) (hb : n ≤ 1000000) (hKb : K ≤ 1000000) :
  ∀ N1, SeqStopsK Fence.wide N1 Tryz.prog 122 #[.pointer (some ⟨b2, 0, none⟩), .pointer (some ⟨b3, 0, none⟩)] (fun j : Fin m => #[.slice (some (ad.add (j.val * K * 3))) K K]) (qP b2 b3) (fun xs => xs = List.finRange m) (fun _ => True) m w := by
 intro N1 l J Jx W hW hAb hAbx hY h0
 refine callsIn_wide.2 ?_
 show Calls _ _ #[.func (.yield l) #[] #[], .pointer (some ⟨b2, 0, none⟩), .pointer (some ⟨b3, 0, none⟩)] W _
 have hAbd : ∀ xs W1 W2, J xs W1 → Below W1.heap.size W1 W2 → J xs W2 := fun xs W1 W2 h hb => hAb xs W1 W2 none h (nc hb) (fun r e => nomatch e)
 have c2 := eM hW h2
 have c3 := eM hW h3
 refine s7 (N := 31) (l := [.func (.yield l) #[] #[], .pointer (some ⟨b2, 0, none⟩), .pointer (some ⟨b3, 0, none⟩)]) Tryz.func122 rfl rfl (by simp) ?_
 refine sr (aI (aa (ao ?_)))
 refine bD [4, 5, 6, 7, 8, 9, 10, 11, 12, 13, 14, 15, 16, 17, 18, 19, 20, 21, 22, 23, 24, 25, 26, 27, 28, 29, 30] 4
  (fun v w' => ∃ j : Nat, j ≤ m ∧ v = .int .i64 ((j * K : Nat) : Int) ∧ J ((List.finRange m).take j) w' ∧ w'.cell? ⟨b2, 0, none⟩ = some (.slice (some ad) n c) ∧ w'.cell? ⟨b3, 0, none⟩ = some (.int .i64 K))
  (fun v _ => n + 1 - (intOf v).toNat) ?_ ?_
 ·exact ⟨0, Nat.zero_le _, by rw [Nat.zero_mul]; rfl, h0, c2, c3⟩
 ·clear c2 c3 h0
  rintro ρ' v w' ⟨j, hj, rfl, hJj, c2, c3⟩
  have hh := Hp.start w'
  by_cases hlt : j < m
  ·have h5 : (j + 1) * K ≤ m * K := Nat.mul_le_mul_right _ hlt
   have h6 : (j + 1) * K = j * K + K := Nat.succ_mul j K
   refine ah (sr (mI ?_))
   refine bh aC.out rfl (c2) (by decide) ?_
   refine a6 ?_
   refine aQ (aa (cT (al (ai (ah (ao (ah ?_)))))))
   refine wX ?_
   refine aN 5 [[(2, none)], [(1, none)], [(4, none)], [(14, some 1), (15, some 2)], [(16, some 3)]] [(4, 17), (3, 16), (2, 15), (1, 14), (0, 13)] hh mixed (by kernel_rfl) ?_
   refine mU (fun _ hj => eM hj.bl c3) ?_
   refine mU (fun _ hj => eM hj.bl c2) ?_
   refine ee ?_
   refine bk (i := 3) (fun ρ1 w1 hj hR => kI (l := (j * K)) aG.out aC.size (show ρ1 14 = Value.slice _ _ _ from hR.1) (show ρ1 15 = Value.int _ _ from hR.2.1) (by omega) (by omega) (by omega)) ?_
   refine wL ?_
   refine bj ?_
   intro f W hJ hV
   have hb_3 := hJ.bl
   obtain ⟨v17, v16, v15, v14, v13, _⟩ := hV
   replace hh := hJ.hp
   refine aY (bm (ae v17 (ae v16 (ae v15 (ae v14 (ae v13 aX)))))) ?_
   dsimp only [ct]
   clear hJ
   have hmin : (if ((n - j * K : Nat) : Int) < (K : Int) then ((n - j * K : Nat) : Int) else (K : Int)) = (K : Int) := if_neg (by omega)
   refine tL rfl rfl (by decide) ?_
   rw [hmin]
   have c2' := eM hh.below c2
   have c3' := eM hh.below c3
   have hJ2 := hAbd _ _ _ hJj hh.below
   have hfr : (List.finRange m)[j]? = some ⟨j, hlt⟩ := by rw [List.getElem?_eq_getElem (by rw [List.length_finRange]; exact hlt), List.getElem_finRange]; rfl
   have hy := hY ((List.finRange m).take j) ⟨j, hlt⟩ _ hJ2 (by rw [List.length_take, List.length_finRange]; omega)
   refine aI (aa (sr ?_))
   refine gA (by first | exact fD rfl | exact fM rfl) (by decide) ?_
   refine bh aC.out rfl (c2') (by decide) ?_
   refine mI (mI (mI ?_))
   refine bC (mI (mI ?_))
   refine bC ?_
   refine aW rfl rfl (by decide) (wO aG.out aC.size (tG rfl) rfl rfl rfl (l := j * K) (h := j * K + K) (q := j * K + K) rfl (by omega) (by omega) (by omega) (by omega) (by omega) (by omega)) ?_
   have e28 : j * K + K - j * K = K := by omega
   rw [e28]
   refine vM rfl (aE (tG rfl) bz) hy (by decide) ?_
   rintro e_ w29 (⟨rfl, hJ3, hk⟩ | ⟨rfl, hJx⟩)
   ·refine ⟨_, rfl, ?_⟩
    have c2'' := hk.1.trans c2'
    have c3'' := hk.2.trans c3'
    refine pU ?_
    refine aa (cF (al (aV (ai (ak (mI ?_))))))
    refine bh aC.out rfl (c3'') (by decide) ?_
    refine bC (aI (aD (ai ?_)))
    refine ⟨⟨j + 1, hlt, ?_, by rw [bo hfr]; exact hJ3, c2'', c3''⟩, ?_, ?_⟩
    ·show Value.int _ (((j * K : Nat) : Int) + (K : Int)) = _
     rw [h6]
     rfl
    ·show n + 1 - (((j * K : Nat) : Int) + (K : Int)).toNat < n + 1 - ((j * K : Nat) : Int).toNat
     omega
    ·(repeat (first | exact ay _ _ _ | refine az rfl ?_ | refine av rfl ?_))
   ·refine ⟨_, rfl, ?_⟩
    refine pU ?_
    refine aa (cT (aq (cS (a8 (a8 (cS ?_))))))
    refine xj (by first | exact .inr rfl | exact .inl rfl) rfl ?_
    exact ⟨⟨_, rfl⟩, .inr ⟨_, trivial, hJx⟩⟩
  ·obtain rfl : j = m := by omega
   refine ah (sr (mI ?_))
   refine bh aC.out rfl (c2) (by decide) ?_
   refine a6 ?_
   refine aQ (aa (cF ?_))
   refine a0 ?_
   refine aA (aA (bu ?_))
   refine xj (by first | exact .inr rfl | exact .inl rfl) rfl ?_
   rw [List.take_of_length_le (by rw [List.length_finRange]; omega)] at hJj
   exact ⟨⟨_, rfl⟩, .inl ⟨_, rfl, hJj⟩⟩
end Go.Proofs.YtioilmppidlbnaaGreatDoor
/- Plain laws: a line of numbers, parted. No program in sight. -/
namespace Go.Proofs.YtioilmppidlbnaaGreatDoor
def ir (d : Nat) (a b : Dyadic) (i k : Nat) : Dyadic := if k < i then 0 else nD (bin (d - i) (k - i)) * a ^ i * b ^ (k - i)
theorem zN (d : Nat) (s : Dyadic) : ir d s (1 - s) = j4 d s := rfl
def dz (xs : List Dyadic) (i : Nat) : Dyadic := (xs[i]?).getD 0
def dA (d : Nat) (M : Nat → Nat → Dyadic) (xs : List Dyadic) : List Dyadic := (List.range (d + 1)).map fun k => sm (List.range (d + 1)) fun i => dz xs i * M i k
def hH (d : Nat) (a b : Dyadic) (xs : List Dyadic) (i j : Nat) : List Dyadic := (List.range (d + 1)).map fun k => sm (List.range i) (fun m => dz xs m * ir d a b m k) + if i ≤ k ∧ k < i + j then dz xs i * ir d a b i k else 0
theorem jy (d : Nat) (a b : Dyadic) (xs : List Dyadic) (i j : Nat) : (hH d a b xs i j).length = d + 1 := by simp [hH]
theorem so (d : Nat) (a b : Dyadic) (xs : List Dyadic) : hH d a b xs 0 0 = List.replicate (d + 1) 0 := by
 unfold hH
 refine List.eq_replicate_iff.2 ⟨by simp, fun x hx => ?_⟩
 obtain ⟨k, _, rfl⟩ := List.mem_map.1 hx
 rw [if_neg (by omega), Dyadic.add_zero]
 rfl
theorem qb {d i j k : Nat} {a b : Dyadic} {xs : List Dyadic} (h : k ≤ d) : (hH d a b xs i j)[k]? = some (sm (List.range i) (fun m => dz xs m * ir d a b m k) + if i ≤ k ∧ k < i + j then dz xs i * ir d a b i k else 0) := by
 unfold hH
 rw [List.getElem?_map, List.getElem?_range (by omega)]
 rfl
theorem wI {d i j : Nat} {a b : Dyadic} {xs : List Dyadic} {o : Dyadic} (h : i + j ≤ d) (ho : (hH d a b xs i j)[i + j]? = some o) : (hH d a b xs i j).set (i + j) (o + dz xs i * ir d a b i (i + j)) = hH d a b xs i (j + 1) := by
 rw [qb h, if_neg (by omega), Dyadic.add_zero] at ho
 have ho := Option.some.inj ho
 subst ho
 refine List.ext_getElem? fun k => ?_
 rw [List.getElem?_set, jy]
 by_cases hk : k ≤ d
 ·rw [qb hk, qb hk]
  by_cases e : i + j = k
  ·subst e
   rw [if_pos rfl, if_pos (by omega), if_pos (by omega)]
  ·rw [if_neg e]
   by_cases h2 : i ≤ k ∧ k < i + j
   ·rw [if_pos h2, if_pos (by omega)]
   ·rw [if_neg h2, if_neg (by omega)]
 ·rw [if_neg (by omega), List.getElem?_eq_none (by rw [jy]; omega), List.getElem?_eq_none (by rw [jy]; omega)]
theorem uN {d i : Nat} {a b : Dyadic} {xs : List Dyadic} (h : i ≤ d) : hH d a b xs i (d - i + 1) = hH d a b xs (i + 1) 0 := by
 unfold hH
 refine List.map_congr_left fun k hk => ?_
 have hk := List.mem_range.1 hk
 rw [if_neg (show ¬ (i + 1 ≤ k ∧ k < i + 1 + 0) by omega), Dyadic.add_zero, List.range_succ, ij]
 by_cases h2 : i ≤ k
 ·rw [if_pos (by omega)]
 ·rw [if_neg (by omega)]
  unfold ir
  rw [if_pos (show k < i by omega), Dyadic.mul_zero]
theorem lV (d : Nat) (a b : Dyadic) (xs : List Dyadic) : hH d a b xs (d + 1) 0 = dA d (ir d a b) xs := by
 unfold hH dA
 refine List.map_congr_left fun k _ => ?_
 rw [if_neg (by omega), Dyadic.add_zero]
theorem Sz.rC {q : Nat} {a : Dyadic} (h : Sz q a) {i d : Nat} (hi : i ≤ d) : Sz (1 + q * d) (a ^ i) := (Sz.pow h i).mono (by have := Nat.mul_le_mul_left q hi; omega)
theorem yl {d i k q : Nat} {a b : Dyadic} (ha : Sz q a) (hb : Sz q b) (hd : d ≤ 127) (hk : k ≤ d) : Sz (130 + 2 * (q * d)) (ir d a b i k) := by
 unfold ir
 split
 ·exact Sz.zero _
 ·refine (((m9 (d - i) (k - i) (by omega)).mul (ha.rC (show i ≤ d by omega))).mul (hb.rC (show k - i ≤ d by omega))).mono (by omega)
theorem kj {xs : List Dyadic} {k : Nat} (h : ∀ x ∈ xs, Sz k x) (i : Nat) : Sz k (dz xs i) := by
 unfold dz
 cases hx : xs[i]? with
 | none => exact Sz.zero _
 | some x => exact h x (List.mem_of_getElem? hx)
theorem qo {d i j q K : Nat} {a b : Dyadic} {xs : List Dyadic} (hx : ∀ x ∈ xs, Sz K x) (ha : Sz q a) (hb : Sz q b) (hd : d ≤ 127) (hi : i ≤ d + 1) : ∀ x ∈ hH d a b xs i j, Sz (K + 130 + 2 * (q * d) + 130) x := fun x hx2 => by
 obtain ⟨k, hk, rfl⟩ := List.mem_map.1 hx2
 have hk := List.mem_range.1 hk
 have h1 : ∀ m, Sz (K + (130 + 2 * (q * d))) (dz xs m * ir d a b m k) := fun m => (kj hx m).mul (yl ha hb hd (by omega))
 have h2 := y6 (l := List.range i) (f := fun m => dz xs m * ir d a b m k) (k := K + (130 + 2 * (q * d))) fun m _ => h1 m
 rw [List.length_range] at h2
 refine (h2.add (y := if i ≤ k ∧ k < i + j then dz xs i * ir d a b i k else 0) ?_).mono (by omega)
 split
 ·exact (h1 i).mono (by omega)
 ·exact Sz.zero _
theorem gK (d : Nat) (M : Nat → Nat → Dyadic) (xs : List Dyadic) : (dA d M xs).length = d + 1 := by simp [dA]
theorem lz {d k : Nat} {M : Nat → Nat → Dyadic} {xs : List Dyadic} (h : k ≤ d) : (dA d M xs)[k]? = some (sm (List.range (d + 1)) fun i => dz xs i * M i k) := by
 unfold dA
 rw [List.getElem?_map, List.getElem?_range (by omega)]
 rfl
theorem q9 {d : Nat} {s : Dyadic} {xs : List Dyadic} (hl : xs.length = d + 1) : (dA d (ir d (1 - s) s) xs.reverse).reverse = dA d (j5 d s) xs := by
 refine List.ext_getElem? fun k => ?_
 by_cases hk : k ≤ d
 ·rw [List.getElem?_reverse (by rw [gK]; omega), gK, show d + 1 - 1 - k = d - k by omega, lz (by omega), lz hk]
  congr 1
  rw [wK]
  refine bR fun i hi => ?_
  have hi := List.mem_range.1 hi
  have e1 : dz xs.reverse (d - i) = dz xs i := by
   unfold dz
   rw [List.getElem?_reverse (by omega), hl, show d + 1 - 1 - (d - i) = i by omega]
  rw [e1]
  congr 1
  unfold ir j5
  by_cases h : i < k
  ·rw [if_pos (by omega), if_pos h]
  ·rw [if_neg (by omega), if_neg h, show d - (d - i) = i by omega, show d - k - (d - i) = i - k by omega]
   generalize nD (bin i (i - k)) = x
   generalize (1 - s) ^ (d - i) = y
   generalize s ^ (i - k) = z
   grind
 ·rw [List.getElem?_eq_none (by rw [List.length_reverse, gK]; omega), List.getElem?_eq_none (by rw [gK]; omega)]
end Go.Proofs.YtioilmppidlbnaaGreatDoor
/- Plain laws: the lines of a form along an axis, changed one by one, block by block. No program in sight. -/
namespace Go.Proofs.YtioilmppidlbnaaGreatDoor
section
variable (A : List Nat) (d : Nat) (φ : List Dyadic → List Dyadic)
def qE (X : List Dyadic) (q f i : Nat) : List Dyadic := (List.range X.length).map fun p =>
 if p / aw A / (d + 1) = q ∧ (p % aw A < f ∨ p % aw A = f ∧ p / aw A % (d + 1) < i) then dz (φ (dH A d X (p % aw A) q)) (p / aw A % (d + 1)) else dz X p
def vG (X : List Dyadic) (q : Nat) : List Dyadic := qE A d φ X q (aw A) 0
end
section
variable {A : List Nat} {d : Nat} {φ : List Dyadic → List Dyadic} {X : List Dyadic}
theorem gG (q f i : Nat) : (qE A d φ X q f i).length = X.length := by simp [qE]
theorem kh {q f i p : Nat} (h : p < X.length) : (qE A d φ X q f i)[p]? = some (if p / aw A / (d + 1) = q ∧ (p % aw A < f ∨ p % aw A = f ∧ p / aw A % (d + 1) < i) then dz (φ (dH A d X (p % aw A) q)) (p / aw A % (d + 1)) else dz X p) := by
 unfold qE
 rw [List.getElem?_map, List.getElem?_range h]
 rfl
theorem lg {f k q : Nat} (hf : f < aw A) (hk : k ≤ d) : cu A d f k q % aw A = f ∧ cu A d f k q / aw A % (d + 1) = k ∧ cu A d f k q / aw A / (d + 1) = q := by
 unfold cu
 have hA := dE A
 rw [Nat.add_mul_mod_self_left, Nat.mod_eq_of_lt hf, Nat.add_mul_div_left _ _ hA, Nat.div_eq_of_lt hf, Nat.zero_add, Nat.add_mul_mod_self_left, Nat.mod_eq_of_lt (by omega), Nat.add_mul_div_left _ _ (by omega), Nat.div_eq_of_lt (by omega), Nat.zero_add]
 exact ⟨rfl, rfl, rfl⟩
theorem yu (p : Nat) : cu A d (p % aw A) (p / aw A % (d + 1)) (p / aw A / (d + 1)) = p := by
 unfold cu
 rw [Nat.mod_add_div, Nat.mod_add_div]
theorem kV {l : List Dyadic} {k : Nat} (h : k < l.length) : l[k]? = some (dz l k) := by
 unfold dz
 rw [List.getElem?_eq_getElem h]
 rfl
theorem vY (q : Nat) : qE A d φ X q 0 0 = X := by
 refine List.ext_getElem? fun p => ?_
 by_cases h : p < X.length
 ·rw [kh h, if_neg (by omega), kV h]
 ·rw [List.getElem?_eq_none (by rw [gG]; omega), List.getElem?_eq_none (by omega)]
theorem xi (q f : Nat) : qE A d φ X q f (d + 1) = qE A d φ X q (f + 1) 0 := by
 refine List.ext_getElem? fun p => ?_
 by_cases h : p < X.length
 ·rw [kh h, kh h]
  have := Nat.mod_lt (p / aw A) (show 0 < d + 1 by omega)
  congr 1
  by_cases h1 : p / aw A / (d + 1) = q ∧ p % aw A < f + 1
  ·rw [if_pos (by omega), if_pos (by omega)]
  ·rw [if_neg (by omega), if_neg (by omega)]
 ·rw [List.getElem?_eq_none (by rw [gG]; omega), List.getElem?_eq_none (by rw [gG]; omega)]
theorem wT {q f i : Nat} (hf : f < aw A) (hi : i ≤ d) (hp : cu A d f i q < X.length) : (qE A d φ X q f 0)[cu A d f i q]? = some (dz (dH A d X f q) i) := by
 obtain ⟨h1, h2, h3⟩ := lg (q := q) hf hi
 rw [kh hp, h1, h2, h3, if_neg (by omega)]
 congr 1
 unfold dH
 have : dz ((List.range (d + 1)).map fun i => (X[cu A d f i q]?).getD 0) i = (X[cu A d f i q]?).getD 0 := by
  unfold dz
  rw [List.getElem?_map, List.getElem?_range (by omega)]
  rfl
 rw [this]
 rfl
theorem xX {q f i : Nat} (hf : f < aw A) (hi : i ≤ d) (hp : cu A d f i q < X.length) : (qE A d φ X q f i).set (cu A d f i q) (dz (φ (dH A d X f q)) i) = qE A d φ X q f (i + 1) := by
 obtain ⟨h1, h2, h3⟩ := lg (q := q) hf hi
 refine List.ext_getElem? fun p => ?_
 rw [List.getElem?_set, gG]
 by_cases h : p < X.length
 ·rw [kh h, kh h]
  by_cases e : cu A d f i q = p
  ·subst e
   rw [if_pos rfl, if_pos h, h1, h2, h3, if_pos (by omega)]
  ·rw [if_neg e]
   congr 1
   by_cases h4 : p / aw A / (d + 1) = q ∧ (p % aw A < f ∨ p % aw A = f ∧ p / aw A % (d + 1) < i)
   ·rw [if_pos h4, if_pos (by omega)]
   ·rw [if_neg h4, if_neg]
    intro h5
    have h6 : p / aw A / (d + 1) = q ∧ p % aw A = f ∧ p / aw A % (d + 1) = i := by omega
    have := yu (A := A) (d := d) p
    rw [h6.1, h6.2.1, h6.2.2] at this
    exact e this
 ·rw [if_neg (by omega), List.getElem?_eq_none (by rw [gG]; omega), List.getElem?_eq_none (by rw [gG]; omega)]
theorem zk {q f i k G : Nat} (hX : ∀ x ∈ X, Sz k x) (hφ : ∀ l : List Dyadic, l.length = d + 1 → (∀ x ∈ l, Sz k x) → ∀ x ∈ φ l, Sz (k + G) x) : ∀ x ∈ qE A d φ X q f i, Sz (k + G) x := fun x hx => by
 obtain ⟨p, hp, rfl⟩ := List.mem_map.1 hx
 split
 ·refine kj (hφ _ (by simp [dH]) fun y hy => ?_) _
  obtain ⟨j, _, rfl⟩ := List.mem_map.1 hy
  exact kj hX _
 ·exact (kj hX p).mono (by omega)
def vq (A : List Nat) (d : Nat) (B : List Nat) (M : Nat → Nat → Dyadic) (xs : List Dyadic) (j : Nat) : List Dyadic := (List.range xs.length).map fun p => if p / aw A / (d + 1) < j then dz (dh (A ++ d :: B) A.length M xs) p else dz xs p
theorem lj (B : List Nat) (M : Nat → Nat → Dyadic) (xs : List Dyadic) (j : Nat) : (vq A d B M xs j).length = xs.length := by simp [vq]
theorem nW {B : List Nat} {M : Nat → Nat → Dyadic} {xs : List Dyadic} {j p : Nat} (h : p < xs.length) : (vq A d B M xs j)[p]? = some (if p / aw A / (d + 1) < j then dz (dh (A ++ d :: B) A.length M xs) p else dz xs p) := by
 unfold vq
 rw [List.getElem?_map, List.getElem?_range h]
 rfl
theorem vH (B : List Nat) (M : Nat → Nat → Dyadic) (xs : List Dyadic) : vq A d B M xs 0 = xs := by
 refine List.ext_getElem? fun p => ?_
 by_cases h : p < xs.length
 ·rw [nW h, if_neg (Nat.not_lt_zero _), kV h]
 ·rw [List.getElem?_eq_none (by rw [lj]; omega), List.getElem?_eq_none (by omega)]
theorem vI {B : List Nat} {M : Nat → Nat → Dyadic} {xs : List Dyadic} (hl : xs.length = aw (A ++ d :: B)) : vq A d B M xs (aw B) = dh (A ++ d :: B) A.length M xs := by
 refine List.ext_getElem? fun p => ?_
 by_cases h : p < xs.length
 ·obtain ⟨f, k, q, hf, hk, hq, rfl⟩ := kE (A := A) (d := d) (B := B) (p := p) (by omega)
  rw [nW h, (lg hf hk).2.2, if_pos hq, kV (by rw [iS]; omega)]
 ·rw [List.getElem?_eq_none (by rw [lj]; omega), List.getElem?_eq_none (by rw [iS]; omega)]
theorem vL {B : List Nat} {M : Nat → Nat → Dyadic} {xs : List Dyadic} {j : Nat} (hl : xs.length = aw (A ++ d :: B)) : vG A d (dA d M) (vq A d B M xs j) j = vq A d B M xs (j + 1) := by
 refine List.ext_getElem? fun p => ?_
 by_cases h : p < xs.length
 ·obtain ⟨f, k, q, hf, hk, hq, rfl⟩ := kE (A := A) (d := d) (B := B) (p := p) (by omega)
  obtain ⟨h1, h2, h3⟩ := lg (q := q) hf hk
  unfold vG
  rw [kh (by rw [lj]; exact h), nW h, h1, h2, h3]
  congr 1
  by_cases e : q = j
  ·subst e
   rw [if_pos ⟨rfl, .inl hf⟩, if_pos (by omega)]
   have e1 : dH A d (vq A d B M xs q) f q = dH A d xs f q := by
    unfold dH
    refine List.map_congr_left fun i hi => ?_
    have hi := List.mem_range.1 hi
    have hp2 : cu A d f i q < xs.length := by rw [hl]; exact k7 hf (by omega) hq
    rw [nW hp2, (lg hf (show i ≤ d by omega)).2.2, if_neg (by omega), kV hp2]
   rw [e1]
   have e2 : dz (dA d M (dH A d xs f q)) k = sm (List.range (d + 1)) fun i => dz (dH A d xs f q) i * M i k := by
    show ((dA d M _)[k]?).getD 0 = _
    rw [lz hk]
    rfl
   have e3 : dz (dh (A ++ d :: B) A.length M xs) (cu A d f k q) = sm (List.range (d + 1)) fun i => (xs[cu A d f i q]?).getD 0 * M i k := by
    show ((dh _ _ M xs)[_]?).getD 0 = _
    rw [iw M xs hf hk hq]
    rfl
   rw [e2, e3]
   refine bR fun i hi => ?_
   have hi := List.mem_range.1 hi
   congr 1
   show ((dH A d xs f q)[i]?).getD 0 = _
   unfold dH
   rw [List.getElem?_map, List.getElem?_range hi]
   rfl
  ·rw [if_neg (by omega)]
   have e1 : dz (vq A d B M xs j) (cu A d f k q) = if q < j then dz (dh (A ++ d :: B) A.length M xs) (cu A d f k q) else dz xs (cu A d f k q) := by
    show ((vq A d B M xs j)[_]?).getD 0 = _
    rw [nW h, h3]
    rfl
   rw [e1]
   by_cases h4 : q < j
   ·rw [if_pos h4, if_pos (by omega)]
   ·rw [if_neg h4, if_neg (by omega)]
 ·rw [List.getElem?_eq_none (by unfold vG; rw [gG, lj]; omega), List.getElem?_eq_none (by rw [lj]; omega)]
end
end Go.Proofs.YtioilmppidlbnaaGreatDoor
/- The walks through knife.lower, slices.Reverse and knife.upper. -/
namespace Go.Proofs.YtioilmppidlbnaaGreatDoor
open Go.RowKit
theorem uU (N : Nat) : gj N [.bool false, .string (ByteArray.mk #[]), .int .i64 0] = a9 NR.cells ((List.replicate N (0 : Dyadic)).map nR) := by
 rw [wJ, qQ]
theorem Sz.br {k : Nat} {x : Dyadic} (h : Sz k x) : (nR x).br.size ≤ k + 1 := by have := h.nr.1; omega
theorem yd (m : Nat) : vE [m] = (je m).map fun n => nR (nD n) := by
 have h : sw [m] = je m := by
  have h1 := rl [] m
  have h2 : sw [] = [1] := by decide
  rw [List.nil_append, h2] at h1
  rw [h1]
  simp
 unfold vE
 rw [h]
structure ke (q : Nat) (s : NR) (x : Dyadic) : Prop where
 ok : s.ok
 br : s.br.size ≤ 2001
 d : s.d = x
 sz : Sz q x
theorem ke.of {q : Nat} {x : Dyadic} (h : Sz q x) (hq : q ≤ 2000) : ke q (nR x) x := ⟨h.ok (by omega), by have := h.br; omega, dw x, h⟩
theorem l9 (sa sb : NR) (a b : Dyadic) (L : Option Addr) (n c d : Nat) (xs : List Dyadic) (k q : Nat) (w : World) (hT : eN w) (hS : Sl w L n 3 (a9 NR.cells (xs.map nR))) (hn : n = d + 1) (hd : d ≤ 127) (hx : ∀ x ∈ xs, Sz k x) (va : ke q sa a) (vb : ke q sb b) (hk : k ≤ 300000) (hq : q ≤ 2000) :
  Calls Tryz.prog 87 #[.agg #[.bool sa.neg, .string sa.br, .int .i64 sa.e, .bool sb.neg, .string sb.br, .int .i64 sb.e], .slice L n c] w fun r w' => ∃ A c', r = .returned (.slice A n c') ∧ w'.ownsRow w.heap.size 39 3 (.slice A n c') n (a9 NR.cells ((dA d (ir d a b) xs).map nR)) ∧ Below w.heap.size w w' := by
 have hh := Hp.start w
 have hln : xs.length = n := by have := hS.eb NR.len (by decide); simpa using this
 have hqd : q * d ≤ 2000 * 127 := Nat.mul_le_mul hq hd
 have ha := va.sz
 have hb := vb.sz
 have hpw : ∀ (sz : NR) (z : Dyadic), ke q sz z → ∀ (i : Nat), i ≤ d → ∀ w1, eN w1 → Calls Tryz.prog 121 #[.agg #[.bool sz.neg, .string sz.br, .int .i64 sz.e], .int .i64 (i : Int)] w1 fun r w' => r = .returned (.agg #[.bool (nR (z ^ i)).neg, .string (nR (z ^ i)).br, .int .i64 (nR (z ^ i)).e]) ∧ Below w1.heap.size w1 w' := fun sz z hz i hi w1 hT1 => by
  have h1 := hz.br
  have h2 : i * sz.br.size ≤ 127 * 2001 := Nat.mul_le_mul (by omega) (by omega)
  have := nz sz i w1 hT1 hz.ok (by rw [Int.toNat_natCast]; omega) (by omega)
  rwa [hz.d, Int.toNat_natCast] at this
 obtain ⟨ad, rfl, hr⟩ := hS.at_ (by omega)
 refine aj (N := 66) (l := [.agg #[.bool sa.neg, .string sa.br, .int .i64 sa.e, .bool sb.neg, .string sb.br, .int .i64 sb.e], .slice (some ad) n c]) Tryz.func87 rfl rfl (by simp) ?_
 refine sr ?_
 refine cW hh [_,_,_,_,_,_] ?_
 intro b2 w2 hh
 refine aL (aa (sr (mL (a6 ?_))))
 refine eu (aI (aa (sr (mI ?_))))
 refine bC ?_
 refine fY (n := n) hh rfl rfl (by omega) (by omega) aG.out aC.out rfl (by omega) (by omega) (by decide) ?_
 intro b16 w16 hh
 refine aL (aa (ah (sr (mL (a6 (mI (aa (ao ?_))))))))
 rw [uU, hn, ← so d a b xs, ← hn] at hh
 refine bD [7, 8, 9, 10, 19, 20, 21, 22, 23, 24, 25, 26, 27, 28, 29, 30, 31, 32, 33, 34, 35, 36, 37, 38, 39, 40, 41, 42, 43, 44, 45, 46, 47, 48, 49, 50, 51, 52, 53, 54, 55, 56, 57, 58, 59, 60, 61, 62, 63, 64] 19
  (fun v w' => ∃ i : Nat, i ≤ n ∧ v = .int .i64 i ∧ Hp w [.row (some ⟨b16, 0, none⟩) n n 39 3 (a9 NR.cells ((hH d a b xs i 0).map nR)), .blk b2 117 [.bool sa.neg, .string sa.br, .int .i64 sa.e, .bool sb.neg, .string sb.br, .int .i64 sb.e] (0, 0)] w')
  (fun v _ => n - (intOf v).toNat) ?_ ?_
 ·exact ⟨0, Nat.zero_le _, rfl, hh⟩
 ·clear hh
  rintro ρ' v w' ⟨i, hi, rfl, hh⟩
  by_cases hlt : i < n
  ·obtain ⟨x, hxi⟩ := aU (l := xs) (k := i) (by omega)
   have hxn : (xs.map nR)[i]? = some (nR x) := by rw [List.getElem?_map, hxi]; rfl
   have hat : dz xs i = x := by unfold dz; rw [hxi]; rfl
   have zx := hx x (List.mem_of_getElem? hxi)
   have hpa := hpw sa a va i (by omega)
   have zp := ha.rC (show i ≤ d by omega)
   have zc := zx.mul zp
   have hmul := fun A cc w1 hT1 hS1 => fR A 2 cc [nR x, nR (a ^ i)] w1 hT1 hS1 (by simpa using ⟨zx.ok (by omega), zp.ok (by omega)⟩) 600000 (by simpa [dw] using ⟨zx.mono (by omega), zp.mono (by omega)⟩) (by omega) (by omega)
   rw [show gB ([nR x, nR (a ^ i)].map NR.d) = x * a ^ i by simp only [List.map_cons, List.map_nil, dw]; show 1 * x * a ^ i = _; rw [Dyadic.one_mul]] at hmul
   refine sr ?_
   refine aQ (aa (ah (cT (al (ai (ah (ao (sr (mI ?_)))))))))
   refine aT (k := i) aG.out aC.size rfl rfl (by omega) (by omega) (by decide) ?_
   refine dM (vs := [_, _, _]) aC.out rfl ((hr.ext hh.below).recAt NR.len hxn) rfl (by decide) ?_
   refine bY hh ?_
   intro b8 w8 hh
   refine aI ?_
   refine bK hh 0 [_,_,_] ?_
   intro ws hh
   replace hh : Hp _ (.blk _ _ [_, _, _] _ :: _) _ := hh
   refine aa (ah ?_)
   refine aN 5 [[(8, none)], [(2, none)], [(25, some 1)], [(7, none)], [(26, some 2), (27, some 3)]] [(4, 28), (3, 27), (2, 26), (1, 25), (0, 24)] hh mixed (by kernel_rfl) ?_
   refine fB 0 [_,_,_] ?_
   refine eZ ?_
   refine fB 2 [_,_,_] ?_
   refine ee ?_
   refine dC (fun _ hj => hpa _ (hT.hp hj.hp)) ?_
   refine bj ?_
   intro f W hJ hV
   have hb_6 := hJ.bl
   obtain ⟨v28, v27, v26, v25, v24, _⟩ := hV
   replace hh := hJ.hp
   refine aY (bm (ae v28 (ae v27 (ae v26 (ae v25 (ae v24 aX)))))) ?_
   dsimp only [ct]
   clear hJ
   refine aZ hh (cs := [_, _, _, _, _, _]) aG.out aC.out (aK (cH rfl) (aK (cH rfl) bL)) rfl rfl (by decide) (by decide) (by decide) rfl (by decide) ?_
   intro b29 w29 hh
   refine bF hh (hmul _ _ _ (hT.hp hh) (hh.aR (i := 0) rfl)) rfl ?_
   intro w30 hh
   refine bK hh 1 [_,_,_] ?_
   intro ws hh
   replace hh : Hp _ (_ :: .blk _ _ [_, _, _] _ :: _) _ := hh
   refine aa (sr (mI (mI ?_)))
   refine eu ?_
   refine aZ hh (cs := [_]) aG.out aC.out (aK (bO rfl) bL) rfl rfl (by decide) (by decide) (by decide) rfl (by decide) ?_
   intro b34 w34 hh
   have e33 : (n : Int) - 1 - (i : Int) = ((d - i : Nat) : Int) := by omega
   rw [e33] at hh
   have hcw : aw [d - i] = d - i + 1 := by simp [aw]
   have hwt := fun w1 hT1 hS1 => nH (some ⟨b34, 0, none⟩) 1 1 [d - i] w1 hT1 hS1 (by simp) (by simp; omega) (by rw [hcw]; omega)
   rw [hcw, yd] at hwt
   refine aJ (hwt _ (hT.hp hh) (hh.aR (i := 0) rfl)) ar.out rfl (by decide) ?_
   rintro e_ w35 ⟨A35, c35, rfl, hown_, hb_⟩
   refine ⟨_, rfl, ?_⟩
   replace hh := hh.bg (x := .row _ _ _ _ _ _) hb_ hown_
   refine a6 (mI (aa (ao ?_)))
   replace hh := hh.sub (List.Sublist.cons_cons _ (List.Sublist.cons _ (List.Sublist.cons _ (List.Sublist.cons_cons _ (List.Sublist.cons_cons _ (List.Sublist.cons_cons _ List.Sublist.slnil))))))
   refine bD [9, 10, 37, 38, 39, 40, 41, 42, 43, 44, 45, 46, 47, 48, 49, 50, 51, 52, 53, 54, 55, 56, 57, 58, 59, 60, 61, 62, 63] 37
    (fun v w' => ∃ j : Nat, j ≤ d - i + 1 ∧ v = .int .i64 j ∧ Hp w [.row A35 (d - i + 1) c35 39 3 (a9 NR.cells ((je (d - i)).map fun n => nR (nD n))), .blk b8 39 [.bool (nR (x * a ^ i)).neg, .string (nR (x * a ^ i)).br, .int .i64 (nR (x * a ^ i)).e] (0, 0), .row (some ⟨b16, 0, none⟩) n n 39 3 (a9 NR.cells ((hH d a b xs i j).map nR)), .blk b2 117 [.bool sa.neg, .string sa.br, .int .i64 sa.e, .bool sb.neg, .string sb.br, .int .i64 sb.e] (0, 0)] w')
    (fun v _ => d - i + 1 - (intOf v).toNat) ?_ ?_
   ·exact ⟨0, Nat.zero_le _, rfl, hh⟩
   ·clear hh
    rintro ρ2 v w2 ⟨j, hj, rfl, hh⟩
    by_cases hjn : j < d - i + 1
    ·have hbl : (je (d - i))[j]? = some (bin (d - i) j) := my (by omega)
     have hbn : ((je (d - i)).map fun n => nR (nD n))[j]? = some (nR (nD (bin (d - i) j))) := by rw [List.getElem?_map, hbl]; rfl
     have zb := m9 (d - i) j (by omega)
     have hpb := hpw sb b vb j (by omega)
     have zq := hb.rC (show j ≤ d by omega)
     obtain ⟨o, ho⟩ := aU (l := hH d a b xs i j) (k := i + j) (by rw [jy]; omega)
     have hon : ((hH d a b xs i j).map nR)[i + j]? = some (nR o) := by rw [List.getElem?_map, ho]; rfl
     have zo := qo (j := j) hx ha hb hd (show i ≤ d + 1 by omega) o (List.mem_of_getElem? ho)
     have zy := (zc.mul zb).mul zq
     have hm3 := fun A cc w1 hT1 hS1 => fR A 3 cc [nR (x * a ^ i), nR (nD (bin (d - i) j)), nR (b ^ j)] w1 hT1 hS1 (by simpa using ⟨zc.ok (by omega), zb.ok (by omega), zq.ok (by omega)⟩) 600000 (by simpa [dw] using ⟨zc.mono (by omega), zb.mono (by omega), zq.mono (by omega)⟩) (by omega) (by omega)
     rw [show gB ([nR (x * a ^ i), nR (nD (bin (d - i) j)), nR (b ^ j)].map NR.d) = x * a ^ i * nD (bin (d - i) j) * b ^ j by simp only [List.map_cons, List.map_nil, dw]; show 1 * (x * a ^ i) * _ * _ = _; rw [Dyadic.one_mul]] at hm3
     have hset := wI (show i + j ≤ d by omega) ho
     have hval : dz xs i * ir d a b i (i + j) = x * a ^ i * nD (bin (d - i) j) * b ^ j := by
      unfold ir
      rw [hat, if_neg (by omega), show i + j - i = j by omega]
      generalize nD (bin (d - i) j) = u
      generalize a ^ i = v
      generalize b ^ j = z
      grind
     rw [hval] at hset
     generalize x * a ^ i * nD (bin (d - i) j) * b ^ j = y at *
     have hsum := fun A cc w1 hT1 hS1 => gR A 2 cc [nR o, nR y] w1 hT1 hS1 (by simpa using ⟨zo.ok (by omega), zy.ok (by omega)⟩) 2000000 (by simpa [dw] using ⟨zo.mono (by omega), zy.mono (by omega)⟩) (by omega)
     rw [show j3 ([nR o, nR y].map NR.d) = o + y by simp only [List.map_cons, List.map_nil, dw, jE]] at hsum
     have hll : ((hH d a b xs i j).map nR).length = n := by rw [List.length_map, jy]; omega
     generalize hH d a b xs i j = S at *
     have hrl := fL NR.len (S.map nR)
     obtain ⟨gw, rfl⟩ := hh.dn (i := 0) rfl (by omega)
     refine sr ?_
     refine aQ (aa (ah (cT (al (ai (ah (ao (sr (mI ?_)))))))))
     refine bB (k := j) aG.out aC.size rfl rfl (by omega) (by omega) (by decide) ?_
     refine dM (vs := [_, _, _]) aC.out rfl (hh.iq (f := NR.cells) (x := nR (nD (bin (d - i) j))) (l := (je (d - i)).map fun n => nR (nD n)) (i := 0) rfl NR.len (by decide) hbn) rfl (by decide) ?_
     refine bY hh ?_
     intro b10 w10 hh
     refine aI ?_
     refine bK hh 0 [_,_,_] ?_
     intro ws hh
     replace hh : Hp _ (.blk _ _ [_, _, _] _ :: _) _ := hh
     refine aa ?_
     refine aN 20 [[(6, none)], [(7, none)], [(9, none)], [(43, some 1), (44, some 2)], [(6, none)], [(7, none)], [(9, none)], [(47, some 5), (48, some 6)], [(46, some 4), (49, some 7)], [(50, some 8)], [(8, none)], [(10, none)], [(2, none)], [(54, some 12)], [(9, none)], [(55, some 13), (56, some 14)], [(52, some 10), (53, some 11), (57, some 15)], [(58, some 16)], [(51, some 9), (59, some 17)], [(60, some 18)]] [(19, 61), (18, 60), (17, 59), (16, 58), (15, 57), (14, 56), (13, 55), (12, 54), (11, 53), (10, 52), (9, 51), (8, 50), (7, 49), (6, 48), (5, 47), (4, 46), (3, 45), (2, 44), (1, 43), (0, 42)] hh mixed (by kernel_rfl) ?_
     refine iY ?_
     refine ee ?_
     refine ee ?_
     refine qJ ?_
     refine iY ?_
     refine ee ?_
     refine ee ?_
     refine qJ ?_
     refine xv ((i + j)) ?_
     refine yf [_,_,_] (fun _ hj => hj.hp.iq (f := NR.cells) (x := nR o) (l := S.map nR) (i := 3) rfl NR.len (by decide) hon) ?_
     refine fB 2 [_,_,_] ?_
     refine fB 0 [_,_,_] ?_
     refine eZ ?_
     refine fB 4 [_,_,_] ?_
     refine ee ?_
     refine dC (fun _ hj => hpb _ (hT.hp hj.hp)) ?_
     refine uM [_,_,_,_,_,_,_,_,_] ?_
     refine bJ (i := 17) (Is (.agg #[.bool (nR y).neg, .string (nR y).br, .int .i64 (nR y).e])) Is.ext ?_ ?_
     ·intro ρ1 w1 hj hR
      obtain ⟨A58, c58, h58, s58⟩ := hR.1
      exact bQ rfl (bE ar.out (aE h58 bz)) (hm3 A58 c58 _ (hT.hp hj.hp) s58) (fun _ _ hq => ⟨_, hq.1, hq.2, rfl⟩)
     refine uM [_,_,_,_,_,_] ?_
     refine bJ (i := 19) (Is (.agg #[.bool (nR (o + y)).neg, .string (nR (o + y)).br, .int .i64 (nR (o + y)).e])) Is.ext ?_ ?_
     ·intro ρ1 w1 hj hR
      obtain ⟨A60, c60, h60, s60⟩ := hR.1
      exact bQ rfl (bE ar.out (aE h60 bz)) (hsum A60 c60 _ (hT.hp hj.hp) s60) (fun _ _ hq => ⟨_, hq.1, hq.2, rfl⟩)
     refine bj ?_
     intro f W hJ hV
     have hb_10 := hJ.bl
     obtain ⟨v61, v60, v59, v58, v57, v56, v55, v54, v53, v52, v51, v50, v49, v48, v47, v46, v45, v44, v43, v42, _⟩ := hV
     obtain ⟨A58, c58, e58, f58⟩ : Rows _ _ _ (f 16) W := v58
     obtain ⟨A60, c60, e60, f60⟩ : Rows _ _ _ (f 18) W := v60
     replace hh := hJ.hp
     refine aY (bm (ae v61 (ae e60 (ae v59 (ae e58 (ae v57 (ae v56 (ae v55 (ae v54 (ae v53 (ae v52 (ae v51 (ae v50 (ae v49 (ae v48 (ae v47 (ae v46 (ae v45 (ae v44 (ae v43 (ae v42 aX))))))))))))))))))))) ?_
     dsimp only [ct]
     clear e58 e60 hJ
     refine bB (k := (i + j)) aG.out aC.size rfl rfl (by omega) (by omega) (by decide) ?_
     refine bq hh (i := 3) (vs := [_, _, _]) rfl rfl (cH rfl) rfl aC.out rfl (by omega) rfl ?_
     intro ws hh
     simp only [List.set_cons_zero, List.set_cons_succ] at hh
     rw [show cj (a9 NR.cells (S.map nR)) ((i + j) * 3) [.bool (nR (o + y)).neg, .string (nR (o + y)).br, .int .i64 (nR (o + y)).e] = a9 NR.cells ((S.map nR).set (i + j) (nR (o + y))) from eF NR.len (by omega), ← List.map_set, hset] at hh
     refine aD (aV (ai (ak ?_)))
     refine bC (mI (aD (ai ?_)))
     replace hh := hh.sub (List.Sublist.cons _ (List.Sublist.cons_cons _ (List.Sublist.cons_cons _ (List.Sublist.cons_cons _ (List.Sublist.cons_cons _ List.Sublist.slnil)))))
     refine ⟨⟨j + 1, by omega, rfl, hh⟩, by show d - i + 1 - (j + 1) < d - i + 1 - j; omega, ?_⟩
     (repeat (first | exact ay _ _ _ | refine az rfl ?_ | refine av rfl ?_))
    ·obtain rfl : j = d - i + 1 := by omega
     rw [uN (by omega)] at hh
     refine sr ?_
     refine aQ (aa (ah (cF ?_)))
     refine a0 ?_
     refine aA (aA (bu (aV (ai (ak ?_)))))
     refine bC (mI (aD (ai ?_)))
     replace hh := hh.sub (List.Sublist.cons _ (List.Sublist.cons _ (List.Sublist.cons_cons _ (List.Sublist.cons_cons _ List.Sublist.slnil))))
     refine ⟨⟨i + 1, by omega, rfl, hh⟩, by show n - (i + 1) < n - i; omega, ?_⟩
     (repeat (first | exact ay _ _ _ | refine az rfl ?_ | refine av rfl ?_))
  ·obtain rfl : i = n := by omega
   rw [show hH d a b xs i 0 = dA d (ir d a b) xs by rw [hn, lV]] at hh
   refine sr ?_
   refine aQ (aa (ah (cF ?_)))
   refine a0 ?_
   refine aA (aA (bu (ai (sr (mL (aL (aa (aq ?_))))))))
   refine cC ?_
   exact ⟨_, _, rfl, hh.at_ (i := 0) rfl, hh.below⟩
def lX (l : List Dyadic) (i : Nat) : List Dyadic := (List.range l.length).map fun k => if k < i ∨ l.length ≤ k + i then dz l (l.length - 1 - k) else dz l k
theorem jQ {l : List Dyadic} {i k : Nat} (h : k < l.length) : (lX l i)[k]? = some (if k < i ∨ l.length ≤ k + i then dz l (l.length - 1 - k) else dz l k) := by
 unfold lX
 rw [List.getElem?_map, List.getElem?_range h]
 rfl
theorem mO {l : List Dyadic} {k : Nat} (h : k < l.length) : l[k]? = some (dz l k) := by
 unfold dz
 rw [List.getElem?_eq_getElem h]
 rfl
theorem iF (l : List Dyadic) (i : Nat) : (lX l i).length = l.length := by simp [lX]
theorem uT (l : List Dyadic) : lX l 0 = l := by
 refine List.ext_getElem? fun k => ?_
 by_cases h : k < l.length
 ·rw [jQ h, if_neg (by omega), mO h]
 ·rw [List.getElem?_eq_none (by rw [iF]; omega), List.getElem?_eq_none (by omega)]
theorem vc {l : List Dyadic} {i : Nat} (h : l.length ≤ 2 * i + 1) : lX l i = l.reverse := by
 refine List.ext_getElem? fun k => ?_
 by_cases hk : k < l.length
 ·rw [jQ hk, List.getElem?_reverse hk, mO (show l.length - 1 - k < l.length by omega)]
  split
  ·rfl
  ·rw [show l.length - 1 - k = k by omega]
 ·rw [List.getElem?_eq_none (by rw [iF]; omega), List.getElem?_eq_none (by rw [List.length_reverse]; omega)]
theorem uG {l : List Dyadic} {i : Nat} (h : 2 * i + 1 < l.length) : ((lX l i).set i (dz l (l.length - 1 - i))).set (l.length - 1 - i) (dz l i) = lX l (i + 1) := by
 refine List.ext_getElem? fun k => ?_
 by_cases hk : k < l.length
 ·rw [List.getElem?_set, List.getElem?_set, List.length_set, iF, jQ hk, jQ hk]
  by_cases h1 : l.length - 1 - i = k
  ·rw [if_pos h1, if_pos (by omega), if_pos (by omega), show l.length - 1 - k = i by omega]
  ·rw [if_neg h1]
   by_cases h2 : i = k
   ·subst h2
    rw [if_pos rfl, if_pos hk, if_pos (by omega)]
   ·rw [if_neg h2]
    by_cases h3 : k < i ∨ l.length ≤ k + i
    ·rw [if_pos h3, if_pos (by omega)]
    ·rw [if_neg h3, if_neg (by omega)]
 ·rw [List.getElem?_eq_none (by rw [List.length_set, List.length_set, iF]; omega), List.getElem?_eq_none (by rw [iF]; omega)]
theorem n9 {w0 : World} {Hr : List HE} (g n c : Nat) (l : List Dyadic) (w : World) (hh : Hp w0 (.row (some ⟨g, 0, none⟩) n c 39 3 (a9 NR.cells (l.map nR)) :: Hr) w) (hl : l.length = n) (hn : n ≤ 1000000) :
  Calls Tryz.prog 140 #[.slice (some ⟨g, 0, none⟩) n c] w fun r w' => r = .returned (.tuple #[]) ∧ Hp w0 (.row (some ⟨g, 0, none⟩) n c 39 3 (a9 NR.cells (l.reverse.map nR)) :: Hr) w' := by
 refine aj (N := 28) (l := [.slice (some ⟨g, 0, none⟩) n c]) Tryz.func140 rfl rfl (by simp) ?_
 refine sr (mL (a6 ?_))
 refine eu (aI (aI (aa (ao ?_))))
 refine cw [2, 3, 7, 8, 9, 10, 11, 12, 13, 14, 15, 16, 17, 18, 19, 20, 21, 22, 23, 24, 25, 26, 27] 2 3
  (fun v2 v w' => ∃ i : Nat, 2 * i ≤ n + 1 ∧ v2 = .int .i64 i ∧ v = .int .i64 ((n : Int) - 1 - i) ∧ Hp w0 (.row (some ⟨g, 0, none⟩) n c 39 3 (a9 NR.cells ((lX l i).map nR)) :: Hr) w')
  (fun v _ _ => n - (intOf v).toNat) ?_ ?_
 ·exact ⟨0, by omega, rfl, by show Value.int _ _ = Value.int _ _; rw [show (n : Int) - 1 - ((0 : Nat) : Int) = (n : Int) - 1 by omega], by rw [uT]; exact hh⟩
 ·clear hh
  rintro ρ' v2 v w' ⟨i, hi, rfl, rfl, hh⟩
  by_cases hlt : (i : Int) < (n : Int) - 1 - i
  ·have h1 : ((lX l i).map nR)[n - 1 - i]? = some (nR (dz l (n - 1 - i))) := by
    rw [List.getElem?_map, jQ (by omega), if_neg (by omega)]
    rfl
   have h2 : ((lX l i).map nR)[i]? = some (nR (dz l i)) := by
    rw [List.getElem?_map, jQ (by omega), if_neg (by omega)]
    rfl
   have hst := uG (l := l) (i := i) (by omega)
   rw [hl] at hst
   have hll : ((lX l i).map nR).length = n := by rw [List.length_map, iF, hl]
   generalize lX l i = S at *
   have hrl := fL NR.len (S.map nR)
   generalize dz l (n - 1 - i) = x at *
   generalize dz l i = y at *
   refine ah (sr (mI (mI ?_)))
   refine aQ (aa (cT (al (ai (ah (ao ?_))))))
   refine jN [] [2, 3] [0, 0, 0, 0, 0, 0, 48, 112, 0, 0, 768, 1792, 4083, 8179, 16383, 32767] 12 [[(0, none)], [(2, none)], [(0, none)], [(3, none)], [(0, none)], [(3, none)], [(18, some 4), (19, some 5)], [(20, some 6)], [(0, none)], [(2, none)], [(22, some 8), (23, some 9)], [(24, some 10)]] [(11, 25), (10, 24), (9, 23), (8, 22), (7, 21), (6, 20), (5, 19), (4, 18), (3, 17), (2, 16), (1, 15), (0, 14)] hh mixed (by kernel_rfl) kZ rfl (by repeat (first | exact im | refine gg ?_ | refine iu ?_)) ?_
   refine iY ?_
   refine ee ?_
   refine iY ?_
   refine ee ?_
   refine iY ?_
   refine ee ?_
   refine xv ((n - 1 - i)) ?_
   refine yf [_,_,_] (fun _ hj => hj.hp.iq (f := NR.cells) (x := nR x) (l := S.map nR) (i := 0) rfl NR.len (by decide) h1) ?_
   refine iY ?_
   refine ee ?_
   refine xv (i) ?_
   refine yf [_,_,_] (fun _ hj => hj.hp.iq (f := NR.cells) (x := nR y) (l := S.map nR) (i := 0) rfl NR.len (by decide) h2) ?_
   refine bj ?_
   intro f W hJ hV _
   have hb_3 := hJ.bl
   obtain ⟨v25, v24, v23, v22, v21, v20, v19, v18, v17, v16, v15, v14, _⟩ := hV
   replace hh := hJ.hp
   refine aY (bm (ae v25 (ae v24 (ae v23 (ae v22 (ae v21 (ae v20 (ae v19 (ae v18 (ae v17 (ae v16 (ae v15 (ae v14 aX))))))))))))) ?_
   dsimp only [ct]
   clear hJ
   refine bB (k := i) aG.out aC.size rfl rfl (by omega) (by omega) (by decide) ?_
   refine bq hh (i := 0) (vs := [_, _, _]) rfl rfl (cH rfl) rfl aC.out rfl (by omega) rfl ?_
   intro ws hh
   simp only [List.set_cons_zero] at hh
   rw [show cj (a9 NR.cells (S.map nR)) (i * 3) [.bool (nR x).neg, .string (nR x).br, .int .i64 (nR x).e] = a9 NR.cells ((S.map nR).set i (nR x)) from eF NR.len (by omega)] at hh
   have hrl2 := fL NR.len ((S.map nR).set i (nR x))
   rw [List.length_set] at hrl2
   refine bB (k := (n - 1 - i)) aG.out aC.size rfl rfl (by omega) (by omega) (by decide) ?_
   refine bq hh (i := 0) (vs := [_, _, _]) rfl rfl (cH rfl) rfl aC.out rfl (by omega) rfl ?_
   intro ws hh
   simp only [List.set_cons_zero] at hh
   rw [show cj (a9 NR.cells ((S.map nR).set i (nR x))) ((n - 1 - i) * 3) [.bool (nR y).neg, .string (nR y).br, .int .i64 (nR y).e] = a9 NR.cells (((S.map nR).set i (nR x)).set (n - 1 - i) (nR y)) from eF NR.len (by rw [List.length_set]; omega), ← List.map_set, ← List.map_set, hst] at hh
   refine aD (aV (ai (ak (mI ?_))))
   refine bC (mI ?_)
   refine eu (aI (aI (aD (ai ?_))))
   refine ⟨⟨i + 1, by omega, rfl, ?_, hh⟩, by show n - (i + 1) < n - i; omega, ?_⟩
   ·show Value.int _ _ = Value.int _ _
    rw [show (n : Int) - 1 - ((i + 1 : Nat) : Int) = (n : Int) - 1 - (i : Int) - 1 by omega]
   ·(repeat (first | exact ay _ _ _ | refine az rfl ?_ | refine av rfl ?_))
  ·rw [vc (by omega)] at hh
   refine ah (sr (mI (mI ?_)))
   refine aQ (aa (cF ?_))
   refine a0 ?_
   refine aA (aA (bu ?_))
   refine xj (by first | exact .inr rfl | exact .inl rfl) rfl ?_
   exact ⟨rfl, hh⟩
theorem qS (sa sb : NR) (a b : Dyadic) (L : Option Addr) (n c d : Nat) (xs : List Dyadic) (k q : Nat) (w : World) (hT : eN w) (hS : Sl w L n 3 (a9 NR.cells (xs.map nR))) (hn : n = d + 1) (hd : d ≤ 127) (hx : ∀ x ∈ xs, Sz k x) (va : ke q sa a) (vb : ke q sb b) (hk : k ≤ 300000) (hq : q ≤ 2000) :
  Calls Tryz.prog 88 #[.agg #[.bool sa.neg, .string sa.br, .int .i64 sa.e, .bool sb.neg, .string sb.br, .int .i64 sb.e], .slice L n c] w fun r w' => ∃ A c', r = .returned (.slice A n c') ∧ w'.ownsRow w.heap.size 39 3 (.slice A n c') n (a9 NR.cells ((dA d (ir d b a) xs.reverse).reverse.map nR)) ∧ Below w.heap.size w w' := by
 have hh := Hp.start w
 have hln : xs.length = n := by have := hS.eb NR.len (by decide); simpa using this
 refine aj (N := 21) (l := [.agg #[.bool sa.neg, .string sa.br, .int .i64 sa.e, .bool sb.neg, .string sb.br, .int .i64 sb.e], .slice L n c]) Tryz.func88 rfl rfl (by simp) ?_
 refine sr ?_
 refine cW hh [_,_,_,_,_,_] ?_
 intro b2 w2 hh
 refine aL (aa (sr (mL ?_)))
 refine aJ (iX L n c (xs.map nR) _ (hS.ext hh.below) (by omega)) ar.out rfl (by decide) ?_
 rintro e_ w8 ⟨A8, c8, rfl, hown_, hb_⟩
 refine ⟨_, rfl, ?_⟩
 replace hh := hh.bg (x := .row _ _ _ _ _ _) hb_ hown_
 obtain ⟨g8, rfl⟩ := hh.dn (i := 0) rfl (by omega)
 refine aL (aa (sr (mL ?_)))
 refine aJ (n9 g8 n c8 xs _ hh hln (by omega)) ar.out rfl (by decide) ?_
 rintro e_ w10 ⟨rfl, hh2⟩
 refine ⟨_, rfl, ?_⟩
 replace hh := hh2
 clear hh2
 have hlo := fun w1 hT1 hS1 => l9 sb sa b a (some ⟨g8, 0, none⟩) n c8 d xs.reverse k q w1 hT1 hS1 hn hd (fun x hx2 => hx x (List.mem_reverse.1 hx2)) vb va hk hq
 refine aa (sr (bG ?_))
 refine cD hh 1 [_,_,_] (bG ?_)
 refine cD hh 1 [_,_,_] ?_
 refine fS [_,_,_,_,_,_] (mL ?_)
 refine aJ (hlo _ (hT.hp hh) (hh.aR (i := 0) rfl)) ar.out rfl (by decide) ?_
 rintro e_ w17 ⟨A17, c17, rfl, hown_, hb_⟩
 refine ⟨_, rfl, ?_⟩
 replace hh := hh.bg (x := .row _ _ _ _ _ _) hb_ hown_
 obtain ⟨g17, rfl⟩ := hh.dn (i := 0) rfl (by omega)
 refine aL (aa (sr (mL ?_)))
 refine aJ (n9 g17 n c17 (dA d (ir d b a) xs.reverse) _ hh (by rw [gK]; omega) (by omega)) ar.out rfl (by decide) ?_
 rintro e_ w19 ⟨rfl, hh2⟩
 refine ⟨_, rfl, ?_⟩
 replace hh := hh2
 clear hh2
 refine aa (sr (mL (aL (aa (aq ?_)))))
 refine cC ?_
 exact ⟨_, _, rfl, hh.at_ (i := 0) rfl, hh.below⟩
end Go.Proofs.YtioilmppidlbnaaGreatDoor
/- The walk through lift.Raise. -/
namespace Go.Proofs.YtioilmppidlbnaaGreatDoor
open Go.RowKit
def Bi (p : Int × Int) : Bool := decide (p.2 < p.1 ∨ 127 < p.2)
def BV (ds es : List Int) : Int := if es.length ≠ ds.length then 1 else if (ds.zip es).any Bi = true then 1 else if 4096 < aw (es.map Int.toNat) then 3 else 0
def z7 (a b : List Nat) : List Nat := List.zipWith (· - ·) a b
def zB (ns ts : List Nat) (xs : List Dyadic) : List Dyadic := Ah ns (z7 ts ns) xs ((sw (z7 ts ns)).map nD)
def Cl (es ds : List Int) : List Int := List.zipWith (· - ·) es ds
theorem pA (ts : List Nat) : (cm ts).map Int.toNat = ts := by
 unfold cm
 rw [List.map_map]
 exact List.map_id' ts
def A5 (e : Int) : Ending := .returned (.tuple #[.agg #[.slice none 0 0, .slice none 0 0], .int .i64 e])
end Go.Proofs.YtioilmppidlbnaaGreatDoor
/- The walk through lift.raised. -/
namespace Go.Proofs.YtioilmppidlbnaaGreatDoor
open Go.RowKit
def FX.gp (f : FX) : HE := .row f.B f.m f.b 39 3 (a9 NR.cells f.cs)
def FX.fQ (f : FX) : HE := .row f.A f.n f.a 3 1 (bP f.ds)
def Aa : List FX → List HE
 | [] => []
 | f :: fs => f.gp :: f.fQ :: Aa fs
theorem Hp.dz {w0 w : World} {H : List HE} (h : Hp w0 H w) {f : FX} (h1 : f.gp ∈ H) (h2 : f.fQ ∈ H) : f.at_ w := ⟨mC (h.own _ h2), mC (h.own _ h1)⟩
def Ae (a b : List Nat) : List Nat := List.zipWith max a b
def maxD (fs : List FX) : List Nat := fs.foldl (fun a f => Ae a (f.ds.map Int.toNat)) ((fs.map fun f => f.ds.map Int.toNat).headD [])
def AU (fs : List FX) : Int := if uc fs ≠ 0 then uc fs else if 4096 < aw (maxD fs) then 3 else 0
end Go.Proofs.YtioilmppidlbnaaGreatDoor
/- The walk through lift.raised. -/
namespace Go.Proofs.YtioilmppidlbnaaGreatDoor
open Go.RowKit
def FX.ns (f : FX) : List Nat := f.ds.map Int.toNat
theorem FX.fv {f : FX} (h : f.e = 0) : f.ds = cm f.ns ∧ f.cs = (f.cs.map NR.d).map nR ∧ f.ns.length ≤ 12 ∧ (∀ d ∈ f.ns, d ≤ 127) ∧ f.cs.length = aw f.ns ∧ aw f.ns ≤ 4096 := by
 obtain ⟨ns, xs, hv, hxs⟩ := Ag h
 obtain ⟨h1, h2, h3, h4, h5, h6⟩ := hv
 have e : f.ns = ns := by unfold FX.ns; rw [h1]; exact pA ns
 subst hxs
 rw [e]
 exact ⟨h1, h2, h3, h4, by simpa using h5, h6⟩
structure Cd (D : List Nat) (ys : List Dyadic) (g : FX) : Prop where
 ds : g.ds = cm D
 cs : g.cs = ys.map nR
 n : g.n = D.length
 m : g.m = aw D
def Ca (D : List Nat) (f : FX) : List Dyadic := zB f.ns D (f.cs.map NR.d)
def BK (a b : List Nat) (j : Nat) : List Nat := (Ae a b).take j ++ a.drop j
end Go.Proofs.YtioilmppidlbnaaGreatDoor
/- The walks through lift.Both and lift.Add. -/
namespace Go.Proofs.YtioilmppidlbnaaGreatDoor
open Go.RowKit
end Go.Proofs.YtioilmppidlbnaaGreatDoor
/- The walk through lift.Add. -/
namespace Go.Proofs.YtioilmppidlbnaaGreatDoor
open Go.RowKit
def AQ (a b : List Dyadic) : List Dyadic := List.zipWith (· + ·) a b
def B9 : List (List Dyadic) → List Dyadic
 | [] => []
 | x :: l => l.foldl AQ x
def BU (a b : List Dyadic) (j : Nat) : List Dyadic := (AQ a b).take j ++ a.drop j
theorem Hp.g9 {w0 w : World} {H : List HE} (h : Hp w0 H w) {i n c sz : Nat} {A : Option Addr} {t : TypeId} {xs : List Value} (hi : H[i]? = some (.row A n c t sz xs)) : n ≤ c := by
 have h1 : w.ownsRow w0.heap.size t sz (.slice A n c) n xs := h.at_ hi
 rcases h1.2 with ⟨_, h3⟩ | ⟨g, cap, cur, h2, _, _, h5, _⟩
 ·omega
 ·injection h2 with _ _ e3
  omega
end Go.Proofs.YtioilmppidlbnaaGreatDoor
/- The walks through lift.Mul and lift.Scale. -/
namespace Go.Proofs.YtioilmppidlbnaaGreatDoor
open Go.RowKit
def BH (f g : FX) : Int := if uc [f, g] ≠ 0 then uc [f, g] else if Bq (zY f.ns g.ns) = true then 3 else 0
def BX (a b : List Nat) (j : Nat) : List Nat := (zY a b).take j ++ a.drop j
end Go.Proofs.YtioilmppidlbnaaGreatDoor
/- The walks through the program's package of products of powers (mono), and through the document's answer's. -/
namespace Go.Proofs.YtioilmppidlbnaaGreatDoor
open Go.RowKit
end Go.Proofs.YtioilmppidlbnaaGreatDoor
/- The walks through the document's answer's products of powers. -/
namespace Go.Proofs.YtioilmppidlbnaaGreatDoor
open Go.RowKit
theorem oy (A B : Option Addr) (n m c c' : Nat) (xs ys : List Int) (w : World) (hx : Sl w A n 1 (bP xs)) (hy : Sl w B m 1 (bP ys)) (hn : n ≤ 100000) (hm : m ≤ 100000) :
  Calls Tryz.prog 44 #[.slice A n c, .slice B m c'] w fun e w' => e = .returned (.bool (decide (xs = ys))) ∧ Below w.heap.size w w' := by
 have hxl : xs.length = n := by have := hx.1; rw [gv] at this; omega
 have hyl : ys.length = m := by have := hy.1; rw [gv] at this; omega
 have hh := Hp.start w
 by_cases hnm : n = m
 ·subst hnm
  refine aj (N := 26) (l := [.slice A n c, .slice B n c']) Tryz.func44 rfl rfl (by simp) ?_
  refine sr (aB (aa (ah (sr (mL (a6 (mL (a6 ?_))))))))
  refine dR (aa (cF (al (ai (ah (sr (aI (aa (ao ?_)))))))))
  refine bD [4, 5, 11, 12, 13, 14, 15, 16, 17, 18, 19, 20, 21, 22, 23, 24, 25] 5
   (fun i w' => ∃ k : Nat, k ≤ n ∧ i = .int .i64 k ∧ xs.take k = ys.take k ∧ Hp w [] w')
   (fun i _ => n - (intOf i).toNat) ?_ ?_
  ·exact ⟨0, Nat.zero_le _, rfl, rfl, hh⟩
  ·clear hh
   rintro ρ' i w' ⟨k, hk, rfl, he, hh⟩
   replace hx := hx.ext hh.below
   replace hy := hy.ext hh.below
   by_cases hlt : k < n
   ·obtain ⟨x, hxk⟩ := aU (l := xs) (k := k) (by omega)
    obtain ⟨y, hyk⟩ := aU (l := ys) (k := k) (by omega)
    obtain ⟨ad, rfl, hr⟩ := hx.at_ (by omega)
    obtain ⟨bd, rfl, hs⟩ := hy.at_ (by omega)
    by_cases hxy : x = y
    ·subst hxy
     refine ah (sr (mI (mL (a6 ?_))))
     refine aQ (aa (cT (al (ai (ah (ao (ah ?_)))))))
     refine aN 8 [[(0, none)], [(5, none)], [(17, some 0), (18, some 1)], [(19, some 2)], [(1, none)], [(5, none)], [(21, some 4), (22, some 5)], [(23, some 6)]] [(7, 24), (6, 23), (5, 22), (4, 21), (3, 20), (2, 19), (1, 18), (0, 17)] hh mixed (by kernel_rfl) ?_
     refine iY ?_
     refine ee ?_
     refine bk (i := 2) (fun ρ1 w1 hj hR => ef aG.out aC.size (show ρ1 17 = Value.slice _ _ _ from hR.1) (show ρ1 18 = Value.int _ _ from hR.2.1) (by omega) (by omega)) ?_
     refine mU (fun _ hj => kJ (hr.ext hj.bl) (ep hxk) rfl) ?_
     refine iY ?_
     refine ee ?_
     refine bk (i := 6) (fun ρ1 w1 hj hR => ef aG.out aC.size (show ρ1 21 = Value.slice _ _ _ from hR.1) (show ρ1 22 = Value.int _ _ from hR.2.1) (by omega) (by omega)) ?_
     refine mU (fun _ hj => kJ (hs.ext hj.bl) (ep hyk) rfl) ?_
     refine bj ?_
     intro f W hJ hV
     have hb_6 := hJ.bl
     obtain ⟨v24, v23, v22, v21, v20, v19, v18, v17, _⟩ := hV
     replace hh := hJ.hp
     refine aY (bm (ae v24 (ae v23 (ae v22 (ae v21 (ae v20 (ae v19 (ae v18 (ae v17 aX))))))))) ?_
     dsimp only [ct]
     clear hJ
     refine dR (aa (cF (al (aV (ai (ak (mI ?_)))))))
     refine bC (aI (aD (ai ?_)))
     refine ⟨⟨k + 1, by omega, rfl, by rw [bo hxk, bo hyk, he], hh⟩, by show n - (k + 1) < n - k; omega, ?_⟩
     (repeat (first | exact ay _ _ _ | refine az rfl ?_ | refine av rfl ?_))
    ·refine ah (sr (mI (mL (a6 ?_))))
     refine aQ (aa (cT (al (ai (ah (ao (ah ?_)))))))
     refine aN 8 [[(0, none)], [(5, none)], [(17, some 0), (18, some 1)], [(19, some 2)], [(1, none)], [(5, none)], [(21, some 4), (22, some 5)], [(23, some 6)]] [(7, 24), (6, 23), (5, 22), (4, 21), (3, 20), (2, 19), (1, 18), (0, 17)] hh mixed (by kernel_rfl) ?_
     refine iY ?_
     refine ee ?_
     refine bk (i := 2) (fun ρ1 w1 hj hR => ef aG.out aC.size (show ρ1 17 = Value.slice _ _ _ from hR.1) (show ρ1 18 = Value.int _ _ from hR.2.1) (by omega) (by omega)) ?_
     refine mU (fun _ hj => kJ (hr.ext hj.bl) (ep hxk) rfl) ?_
     refine iY ?_
     refine ee ?_
     refine bk (i := 6) (fun ρ1 w1 hj hR => ef aG.out aC.size (show ρ1 21 = Value.slice _ _ _ from hR.1) (show ρ1 22 = Value.int _ _ from hR.2.1) (by omega) (by omega)) ?_
     refine mU (fun _ hj => kJ (hs.ext hj.bl) (ep hyk) rfl) ?_
     refine bj ?_
     intro f W hJ hV
     have hb_6 := hJ.bl
     obtain ⟨v24, v23, v22, v21, v20, v19, v18, v17, _⟩ := hV
     replace hh := hJ.hp
     refine aY (bm (ae v24 (ae v23 (ae v22 (ae v21 (ae v20 (ae v19 (ae v18 (ae v17 aX))))))))) ?_
     dsimp only [ct]
     clear hJ
     refine dR (aa (cT (sr (aB (aa (aq (cS (a8 (a8 (cS (a8 ?_)))))))))))
     refine cC ?_
     have : ¬ xs = ys := fun h => hxy (by rw [h, hyk] at hxk; exact (Option.some.inj hxk).symm)
     simp only [this, decide_false]
     first | exact ⟨rfl, hh.below⟩ | exact ⟨trivial, hh.below⟩
   ·refine ah (sr (mI (mL (a6 ?_))))
    refine aQ (aa (cF ?_))
    refine a0 ?_
    refine aA (aA (bu (ai (sr (aB (aa (aq ?_)))))))
    refine cC ?_
    rw [List.take_of_length_le (by omega), List.take_of_length_le (by omega)] at he
    simp only [he, decide_true]
    first | exact ⟨rfl, hh.below⟩ | exact ⟨trivial, hh.below⟩
 ·refine aj (N := 26) (l := [.slice A n c, .slice B m c']) Tryz.func44 rfl rfl (by simp) ?_
  refine sr (aB (aa (ah (sr (mL (a6 (mL (a6 ?_))))))))
  refine dR (aa (cT (sr (aB (aa (aq (a8 ?_)))))))
  refine cC ?_
  have : ¬ xs = ys := fun h => hnm (by rw [← hxl, ← hyl, h])
  simp only [this, decide_false]
  first | exact ⟨rfl, hh.below⟩ | exact ⟨trivial, hh.below⟩
end Go.Proofs.YtioilmppidlbnaaGreatDoor
/- The walks through count and All. -/
namespace Go.Proofs.YtioilmppidlbnaaGreatDoor
open Go.RowKit
end Go.Proofs.YtioilmppidlbnaaGreatDoor
/- The walk through the document's answer's All. -/
namespace Go.Proofs.YtioilmppidlbnaaGreatDoor
open Go.RowKit
end Go.Proofs.YtioilmppidlbnaaGreatDoor
/- The walks through ogeeref12: forms by definition: what is wrong, ways to choose, places. -/
namespace Go.Proofs.YtioilmppidlbnaaGreatDoor
open Go.RowKit
end Go.Proofs.YtioilmppidlbnaaGreatDoor
/- The walks through ogeeref12, second part: ways to choose, rows, places, equal forms, a form of one's own. -/
namespace Go.Proofs.YtioilmppidlbnaaGreatDoor
open Go.RowKit
def Cj (n : Nat) (k : Int) : Dyadic := if k < 0 ∨ (n : Int) < k then 0 else nD (bin n k.toNat)
def BB (ns : List Nat) : List ByteArray := (zS (cm ns)).map fX
theorem ra (L : Option Addr) (n c : Nat) (b : List NR) (M : Option Addr) (c2 : Nat) (w : World) (hS : Sl w L n 3 (a9 NR.cells b)) (hS2 : Sl w M n 3 (a9 NR.cells b)) (hn : n ≤ 1000000) :
  Calls Tryz.prog 56 #[.slice L n c, .slice M n c2] w fun r w' => r = .returned (.bool true) ∧ Below w.heap.size w w' := by
 have hh := Hp.start w
 have hln := hS.eb NR.len (by decide)
 refine aj (N := 26) (l := [.slice L n c, .slice M n c2]) Tryz.func56 rfl rfl (by simp) ?_
 refine sr (aB (aa (ah (sr (mL (a6 (mL (a6 ?_))))))))
 refine dR (aa (cF (al (ai (ah (sr (aI (aa (ao ?_)))))))))
 refine bD [4, 5, 11, 12, 13, 14, 15, 16, 17, 18, 19, 20, 21, 22, 23, 24, 25] 5
  (fun v w' => ∃ i : Nat, i ≤ n ∧ v = .int .i64 i ∧ Hp w [] w')
  (fun v _ => n - (intOf v).toNat) ?_ ?_
 ·exact ⟨0, Nat.zero_le _, rfl, hh⟩
 ·clear hh
  rintro ρ' v w' ⟨i, hi, rfl, hh⟩
  by_cases hlt : i < n
  ·obtain ⟨s, hs⟩ := aU (l := b) (k := i) (by omega)
   obtain ⟨ad, rfl, hr⟩ := hS.at_ (by omega)
   obtain ⟨ad2, rfl, hr2⟩ := hS2.at_ (by omega)
   refine ah (sr (mI (mL (a6 ?_))))
   refine aQ (aa (cT (al (ai (ah (ao (ah ?_)))))))
   refine aN 8 [[(0, none)], [(5, none)], [(17, some 0), (18, some 1)], [(19, some 2)], [(1, none)], [(5, none)], [(21, some 4), (22, some 5)], [(23, some 6)]] [(7, 24), (6, 23), (5, 22), (4, 21), (3, 20), (2, 19), (1, 18), (0, 17)] hh mixed (by kernel_rfl) ?_
   refine iY ?_
   refine ee ?_
   refine r8 (i) ?_
   refine yf [_,_,_] (fun _ hj => (hr.ext hj.hp.below).recAt NR.len hs) ?_
   refine iY ?_
   refine ee ?_
   refine r8 (i) ?_
   refine yf [_,_,_] (fun _ hj => (hr2.ext hj.hp.below).recAt NR.len hs) ?_
   refine bj ?_
   intro f W hJ hV
   have hb_6 := hJ.bl
   obtain ⟨v24, v23, v22, v21, v20, v19, v18, v17, _⟩ := hV
   replace hh := hJ.hp
   refine aY (bm (ae v24 (ae v23 (ae v22 (ae v21 (ae v20 (ae v19 (ae v18 (ae v17 aX))))))))) ?_
   dsimp only [ct]
   clear hJ
   first | refine pP rfl rfl (by first | assumption | rfl) (by decide) ?_ | refine qh rfl rfl (by assumption) (by decide) ?_
   refine aa (cF (al (aV (ai (ak (mI ?_))))))
   refine bC (aI (aD (ai ?_)))
   refine ⟨⟨i + 1, by omega, rfl, hh⟩, by show n - (i + 1) < n - i; omega, ?_⟩
   (repeat (first | exact ay _ _ _ | refine az rfl ?_ | refine av rfl ?_))
  ·refine ah (sr (mI (mL (a6 ?_))))
   refine aQ (aa (cF ?_))
   refine a0 ?_
   refine aA (aA (bu (ai (sr (aB (aa (aq ?_)))))))
   refine cC ?_
   exact ⟨rfl, hh.below⟩
theorem pW (A B : Option Addr) (n c m c2 : Nat) (A' B' : Option Addr) (c' c2' : Nat) (ds : List Int) (cs : List NR) (w : World) (hS : Sl w A n 1 (bP ds)) (hS2 : Sl w B m 3 (a9 NR.cells cs)) (hS3 : Sl w A' n 1 (bP ds)) (hS4 : Sl w B' m 3 (a9 NR.cells cs)) (hn : n ≤ 100000) (hm : m ≤ 1000000) :
  Calls Tryz.prog 17 #[.agg #[.slice A n c, .slice B m c2], .agg #[.slice A' n c', .slice B' m c2']] w fun r w' => r = .returned (.bool true) ∧ Below w.heap.size w w' := by
 have hh := Hp.start w
 have hnum := fun w1 h1 h2 => oy A A' n n c c' ds ds w1 h1 h2 hn hn
 simp only [decide_true] at hnum
 refine aj (N := 17) (l := [.agg #[.slice A n c, .slice B m c2], .agg #[.slice A' n c', .slice B' m c2']]) Tryz.func17 rfl rfl (by simp) ?_
 refine sr ?_
 refine cW hh [_,_] ?_
 intro b2 w2 hh
 refine cW hh [_,_] ?_
 intro b3 w3 hh
 refine aB (aa (sr (bG ?_)))
 refine bI hh 1 ?_
 refine bG ?_
 refine bI hh 0 ?_
 refine bF hh (hnum _ (hS.ext hh.below) (hS3.ext hh.below)) rfl ?_
 intro w9 hh
 refine mB ?_
 first | refine gS ?_ | (refine gT ?_; refine bG ?_) | refine gV ?_
 first | refine gS ?_ | (refine gT ?_; refine bI hh 1 ?_) | refine gV ?_
 first | refine gS ?_ | (refine gT ?_; refine bG ?_) | refine gV ?_
 first | refine gS ?_ | (refine gT ?_; refine bI hh 0 ?_) | refine gV ?_
 refine a7 rfl rfl ?_
 refine bF hh (ra B m c2 cs B' c2' _ (hS2.ext hh.below) (hS4.ext hh.below) hm) rfl ?_
 intro w15 hh
 first | refine dq ?_ | refine dr ?_
 refine aB (aa (aq ?_))
 refine cC ?_
 exact ⟨rfl, hh.below⟩
end Go.Proofs.YtioilmppidlbnaaGreatDoor
/- The walks through ogeeref14: Big, Times. -/
namespace Go.Proofs.YtioilmppidlbnaaGreatDoor
open Go.RowKit
end Go.Proofs.YtioilmppidlbnaaGreatDoor
/- The walk through ogeeref14.Times. -/
namespace Go.Proofs.YtioilmppidlbnaaGreatDoor
open Go.RowKit
def BO (ds es : List Nat) (xs ys : List Dyadic) (i m : Nat) : List (Nat × Dyadic) := (List.range m).map fun k => (lr (tg ds es) (tg (dK ds i) (dK es k)), (xs[i]?).getD 0 * (ys[k]?).getD 0)
def Ch (ds es : List Nat) (xs ys : List Dyadic) (i : Nat) : List (Nat × Dyadic) := (List.range i).flatMap fun i => BO ds es xs ys i (aw es)
def bS (rs : List Nat) : List UInt8 := (cm rs).map AV
end Go.Proofs.YtioilmppidlbnaaGreatDoor
/- Plain laws: a form, raised degree by degree. -/
namespace Go.Proofs.YtioilmppidlbnaaGreatDoor
def yC (ns : List Nat) (a : Nat) : List Nat := ns.set a (ns.getD a 0 + 1)
def Cf (ns : List Nat) (a : Nat) (xs : List Dyadic) : List Dyadic :=
 (List.range (aw (yC ns a))).map fun p => co ns.reverse xs (dK (yC ns a).reverse p) + if 0 < (dK (yC ns a).reverse p).getD (ns.length - 1 - a) 0 then co ns.reverse xs (Bn (dK (yC ns a).reverse p) (ns.length - 1 - a)) else 0
def BZ (ns : List Nat) (xs : List Dyadic) (cs : List Nat) (zs : List Dyadic) : Prop := zs.length = aw cs ∧ cs.length = ns.length ∧ (∀ (i n c : Nat), ns[i]? = some n → cs[i]? = some c → n ≤ c) ∧ ∀ row : List Nat, row.length = ns.length → co cs.reverse zs row = Bu (z7 cs ns).reverse (co ns.reverse xs) row
end Go.Proofs.YtioilmppidlbnaaGreatDoor
/- The walk through ogeeref14.up. -/
namespace Go.Proofs.YtioilmppidlbnaaGreatDoor
open Go.RowKit
end Go.Proofs.YtioilmppidlbnaaGreatDoor
/- The walk through ogeeref14.Raise. -/
namespace Go.Proofs.YtioilmppidlbnaaGreatDoor
open Go.RowKit
def BA (w : World) (b i : Nat) : Int := match w.cell? ⟨b, 0, none⟩ with
 | some (.slice (some a) _ _) => match w.cell? (a.add (i * 1)) with
  | some (.int _ z) => z
  | _ => 0
 | _ => 0
structure RS (ns ts : List Nat) (xs : List Dyadic) (k n : Nat) (F FC : Option Addr) (c1 c2 i T : Nat) (cur : List Nat) (zs : List Dyadic) (A B : Option Addr) (ca cb : Nat) (R : List HE) (w : World) : Prop where
 Ci : BZ ns xs cur zs
 le : ∀ (j c t : Nat), cur[j]? = some c → ts[j]? = some t → c ≤ t
 eq : ∀ (j c t : Nat), j < i → cur[j]? = some c → ts[j]? = some t → c = t
 sz : ∀ x ∈ zs, Sz (k + T) x
 src : (A = F ∧ ca = c1 ∧ B = FC ∧ cb = c2 ∧ cur = ns ∧ zs = xs) ∨ R = [.row B (aw cur) cb 39 3 (a9 NR.cells (zs.map nR)), .row A n ca 3 1 (bP (cm cur))]
 rd : ∀ (H : List HE) (w' : World), Hp w (H ++ R) w' → Sl w' A n 1 (bP (cm cur)) ∧ Sl w' B (aw cur) 3 (a9 NR.cells (zs.map nR))
end Go.Proofs.YtioilmppidlbnaaGreatDoor
/- The walks through ogeeref14.Like and ogeeref14.All. -/
namespace Go.Proofs.YtioilmppidlbnaaGreatDoor
open Go.RowKit
theorem FX.at_.ln {g : FX} {w : World} (h : g.at_ w) : g.ds.length = g.n ∧ g.cs.length = g.m := ⟨by have := h.dg.1; rw [gv] at this; omega, h.nm.eb NR.len (by decide)⟩
def Kept (fs : List FX) (R : List HE) (g : FX) : Prop := g ∈ fs ∨ (g.gp ∈ R ∧ g.fQ ∈ R)
end Go.Proofs.YtioilmppidlbnaaGreatDoor
/- The contracts of package lift once more, each with one ending: a form that one owns, empty where there is an error. -/
namespace Go.Proofs.YtioilmppidlbnaaGreatDoor
open Go.RowKit
def AJ (E : Int) (D : List Nat) : List Int := if E = 0 then cm D else []
def zv (E : Int) (ys : List Dyadic) : List NR := if E = 0 then ys.map nR else []
structure Out (E : Int) (D : List Nat) (ys : List Dyadic) (g : FX) : Prop where
 ds : g.ds = AJ E D
 cs : g.cs = zv E ys
 n : g.n ≤ 100000
 m : g.m ≤ 1000000
def FX.nil : FX := ⟨none, 0, 0, none, 0, 0, [], []⟩
theorem Hp.wU {w0 w : World} {H : List HE} (h : Hp w0 H w) : Hp w0 (FX.nil.gp :: FX.nil.fQ :: H) w := (h.ew 3 1).ew 39 3
theorem Out.err {E : Int} {D : List Nat} {ys : List Dyadic} (h : E ≠ 0) : Out E D ys FX.nil := ⟨by unfold AJ; rw [if_neg h]; rfl, by unfold zv; rw [if_neg h]; rfl, Nat.zero_le _, Nat.zero_le _⟩
theorem dy (g h : FX) (w : World) (hg : g.at_ w) (hh : h.at_ w) (e : g.ds = h.ds ∧ g.cs = h.cs) (hn : g.n ≤ 100000) (hm : g.m ≤ 1000000) :
  Calls Tryz.prog 17 #[.agg #[.slice g.A g.n g.a, .slice g.B g.m g.b], .agg #[.slice h.A h.n h.a, .slice h.B h.m h.b]] w fun r w' => r = .returned (.bool true) ∧ Below w.heap.size w w' := by
 have l1 := hg.ln
 have l2 := hh.ln
 obtain ⟨hg1, hg2⟩ := hg
 obtain ⟨hh1, hh2⟩ := hh
 have e1 : h.n = g.n := by rw [← l1.1, ← l2.1, e.1]
 have e2 : h.m = g.m := by rw [← l1.2, ← l2.2, e.2]
 rw [← e.1, e1] at hh1
 rw [← e.2, e2] at hh2
 rw [e1, e2]
 exact pW g.A g.B g.n g.a g.m g.b h.A h.B h.a h.b g.ds g.cs w hg1 hg2 hh1 hh2 hn hm
def Bc (f : FX) (es : List Int) : Int := if f.e ≠ 0 then f.e else BV f.ds es
def FX.key (f : FX) : List Int × List NR × Nat := (f.ds, f.cs, f.n)
end Go.Proofs.YtioilmppidlbnaaGreatDoor
/- Forms that a call in a drawn region hands back, with a new variable beside them. -/
namespace Go.Proofs.YtioilmppidlbnaaGreatDoor
open Go.RowKit
def BC (base : Nat) (E : Int) (D : List Nat) (ys : List Dyadic) : VP := fun v W => ∃ (g : FX) (w1 : World), v = .agg #[.slice g.A g.n g.a, .slice g.B g.m g.b] ∧ Out E D ys g ∧ base ≤ w1.heap.size ∧ Hp w1 [g.gp, g.fQ] W
def BP (base : Nat) (E : Int) (D : List Nat) (ys : List Dyadic) : VP := fun v W => ∃ (g : FX) (w1 : World), v = .tuple #[.agg #[.slice g.A g.n g.a, .slice g.B g.m g.b], .int .i64 E] ∧ Out E D ys g ∧ base ≤ w1.heap.size ∧ Hp w1 [g.gp, g.fQ] W
end Go.Proofs.YtioilmppidlbnaaGreatDoor
/- The walk through cast.along: every line of a form along an axis, changed by a function. -/
namespace Go.Proofs.YtioilmppidlbnaaGreatDoor
open Go.RowKit
instance : aC Tryz.prog 115 1 false 8 [.nilFunc] := ⟨by kernel_rfl⟩
theorem oB {m : Nat} {bs : List (Fin m)} {q : Fin m} (h : bs ++ [q] = (List.finRange m).take (bs ++ [q]).length) (hb : bs.length < m) : bs = (List.finRange m).take bs.length ∧ q.val = bs.length := by
 have hl : (bs ++ [q]).length = bs.length + 1 := by simp
 rw [hl] at h
 have h1 := congrArg (List.take bs.length) h
 rw [List.take_left' rfl, List.take_take, Nat.min_eq_left (by omega)] at h1
 have h2 : (bs ++ [q])[bs.length]? = ((List.finRange m).take (bs.length + 1))[bs.length]? := by rw [← h]
 rw [List.getElem?_append_right (Nat.le_refl _), Nat.sub_self, List.getElem?_take, if_pos (by omega), show (List.finRange m)[bs.length]? = some ⟨bs.length, hb⟩ by rw [List.getElem?_eq_getElem (by rw [List.length_finRange]; exact hb), List.getElem_finRange]; rfl] at h2
 exact ⟨h1, congrArg Fin.val (Option.some.inj h2)⟩
theorem oJ {P : Program} {N : Nat} {Q : Kd} {ρ : Rf} {w : World} {α : Type} {g : Operand} {p : Tmp} {assign body : Code} {gf : Nat} {lb : Array Value} (q : Nat) (hq : q < N) (hp : p < N) (hg : ev ρ g = .func (.func gf) #[] lb) (eg : ∀ args w, (callFunc gf args).run P w = .ok (.enter gf args) w)
  {enc : α → Value} {Kp : World → World → Prop} {S : List α → Prop} {Nn : Nat} (hseq : ∀ n, SeqStopsK Fence.wide n P gf lb (fun x => #[enc x]) Kp S (fun _ => True) Nn w)
  (hKt : ∀ {A B C : World}, Kp A B → Kp B C → Kp A C) (hKb : ∀ (W : World) (l : Nat) (o o' : Obj), w.heap.size ≤ l → W.heap[l]? = some o → o.isCells = false → o.isWalk = false → Kp W (W.putObj l o'))
  (I : List α → World → Prop) (hI : OwnFrom w.heap.size I) (h0 : I [] w)
  (hassign : ∀ l x W, WC ⟨some l, [], true⟩ P N assign (ck (fun ρ' W' => ρ' = cn (cn ρ p (enc x)) q (enc x) ∧ W' = W) lv) (cn ρ p (enc x)) W)
  (hbody : ∀ l pre x W, I pre W → pre.length < Nn → WC ⟨some l, [], true⟩ P N body (yN Kp I pre x W) (cn (cn ρ p (enc x)) q (enc x)) W)
  (hdone : ∀ (D : Nat) (xs : List α) (W : World), w.heap.size ≤ D → S xs → I xs W → W.heap[D]? = some (.deferred (some [])) → Q .normal [D] ρ W) : WD P N (.rangeFunc g #[p] assign body) Q ρ w :=
 vF hp hg eg hseq hKt hKb I hI h0 (fun x => cn (cn ρ p (enc x)) q (enc x)) (fun x i hi => by rw [bf _ (fun h => absurd hq (by rw [← h]; exact Nat.not_lt.2 hi)), bf _ (fun h => absurd hp (by rw [← h]; exact Nat.not_lt.2 hi))]) hassign hbody hdone
theorem lB (DA NA : Option Addr) (n c m e : Nat) (pre suf : List Nat) (dd : Nat) (M : Nat → Nat → Dyadic) (xs : List Dyadic) (fid : FuncId) (fst cap : List Value) (k G : Nat) (w : World) [ar Tryz.prog fid] (hT : eN w)
  (hD : Sl w DA n 1 (bP (cm (pre ++ dd :: suf)))) (hS : Sl w NA m 3 (a9 NR.cells (xs.map nR))) (hcap : n ≤ c) (hn : n ≤ 1000) (hlow : ∀ x ∈ pre ++ dd :: suf, x ≤ 127) (hm : xs.length = aw (suf.reverse ++ dd :: pre.reverse)) (hm4 : m ≤ 4096)
  (hx : ∀ x ∈ xs, Sz k x) (hk : k + aw pre * G ≤ 300000)
  (hdo : ∀ (L : Option Addr) (c2 : Nat) (ls : List Dyadic) (q : Nat) (w1 : World), Below w.heap.size w w1 → eN w1 → Sl w1 L (dd + 1) 3 (a9 NR.cells (ls.map nR)) → (∀ x ∈ ls, Sz q x) → q ≤ 300000 →
   Calls Tryz.prog fid (fst ++ Value.slice L (dd + 1) c2 :: cap).toArray w1 fun r w' => ∃ A c', r = .returned (.slice A (dd + 1) c') ∧ w'.ownsRow w1.heap.size 39 3 (.slice A (dd + 1) c') (dd + 1) (a9 NR.cells ((dA dd M ls).map nR)) ∧ Below w1.heap.size w1 w')
  (hgr : ∀ (ls : List Dyadic) (q : Nat), ls.length = dd + 1 → (∀ x ∈ ls, Sz q x) → ∀ x ∈ dA dd M ls, Sz (q + G) x) :
  Calls Tryz.prog 86 #[.agg #[.slice DA n c, .slice NA m e], .int .i64 (pre.length : Nat), .func (.func fid) fst.toArray cap.toArray] w fun r w' => ∃ A a B b, r = .returned (.agg #[.slice A n a, .slice B m b]) ∧ Hp w [.row B m b 39 3 (a9 NR.cells ((dh (suf.reverse ++ dd :: pre.reverse) suf.length M xs).map nR)), .row A n a 3 1 (bP (cm (pre ++ dd :: suf)))] w' := by
 have hh := Hp.start w
 have hln : pre.length + (suf.length + 1) = n := by have := hD.1; rw [gv, jf, List.length_append, List.length_cons] at this; omega
 have hlm : xs.length = m := by have := hS.eb NR.len (by decide); rw [List.length_map] at this; exact this
 have hcA : aw suf.reverse = aw suf := eY suf
 have hcB : aw pre.reverse = aw pre := eY pre
 have hmK : m = aw pre * ((dd + 1) * aw suf) := by rw [← hlm, hm, cZ, aw, hcA, hcB]; rw [Nat.mul_comm (aw suf), Nat.mul_right_comm, Nat.mul_comm _ (aw pre)]
 have hA0 := dE suf
 have hB0 := dE pre
 have hAm : aw suf ≤ m := by rw [hmK]; exact Nat.le_trans (Nat.le_mul_of_pos_left _ (by omega)) (Nat.le_mul_of_pos_left _ hB0)
 have hKm : (dd + 1) * aw suf ≤ m := by rw [hmK]; exact Nat.le_mul_of_pos_left _ hB0
 have hdl : dd ≤ 127 := hlow dd (List.mem_append_right _ List.mem_cons_self)
 obtain ⟨ad, rfl, hr⟩ := hD.at_ (by omega)
 have hgd : (bP (cm (pre ++ dd :: suf)))[pre.length]? = some (.int .i64 (dd : Nat)) := ep (jJ (by rw [List.getElem?_append_right (Nat.le_refl _), Nat.sub_self]; rfl))
 refine jL (N := 93) (l := [.agg #[.slice (some ad) n c, .slice NA m e], .int .i64 (pre.length : Nat), .func (.func fid) fst.toArray cap.toArray]) Tryz.func86 rfl rfl (by simp) ?_
 refine eR fun D_ => ?_
 refine ak ?_
 refine cW hh [_,_] ?_
 intro b3 w3 hh
 refine cW hh [_] ?_
 intro b5 w5 hh
 refine bY hh ?_
 intro b6 w6 hh
 refine aa ?_
 refine eR fun D_ => ?_
 refine ak (bG ?_)
 refine bI hh 2 ?_
 refine mI ?_
 refine aT (k := pre.length) aG.out aC.size rfl rfl (by omega) (by omega) (by decide) ?_
 refine bh aC.out rfl ((hr.ext hh.below).gU hgd) (by decide) ?_
 refine bC ?_
 refine bY hh ?_
 intro b7 w7 hh
 refine bY hh ?_
 intro b8 w8 hh
 refine bK hh 1 [_] ?_
 intro ws hh
 replace hh : Hp _ (_ :: .blk _ _ [_] _ :: _) _ := hh
 refine bK hh 0 [_] ?_
 intro ws hh
 replace hh : Hp _ (.blk _ _ [_] _ :: _) _ := hh
 refine aa ?_
 refine eR fun D_ => ?_
 refine sr (bG ?_)
 refine bI hh 4 ?_
 refine mI ?_
 refine bC ?_
 refine aW rfl rfl (by decide) (kI aG.out aC.size rfl rfl (l := pre.length + 1) rfl (by omega) (by omega)) ?_
 have hbk := hD.back (l := pre.length + 1) (c := c) (by omega) hcap
 have hds : (bP (cm (pre ++ dd :: suf))).drop ((pre.length + 1) * 1) = bP (cm suf) := by
  rw [Nat.mul_one]
  unfold bP cm
  rw [← List.map_drop, ← List.map_drop, ← List.drop_drop, List.drop_left]
  rfl
 rw [hds] at hbk
 generalize (if c = pre.length + 1 then some ad else (some ad : Option Addr).map (·.add ((pre.length + 1) * 1))) = CA at hbk ⊢
 have en : n - (pre.length + 1) = suf.length := by omega
 rw [en] at hbk ⊢
 refine a6 (mI (aa (ao ?_)))
 have hcap' : ∀ i, aw (suf.take i) ≤ aw suf := fp suf
 refine bD [10, 30, 31, 32, 33, 34, 35, 36, 37, 38] 30
  (fun v w' => ∃ i : Nat, i ≤ suf.length ∧ v = .int .i64 i ∧ Hp w [.blk b8 3 [.int .i64 (aw (suf.take i) : Nat)] (0, 0), .blk b7 3 [.int .i64 ((dd : Nat) + 1)] (0, 0), .blk b6 28 [.slice none 0 0, .slice none 0 0] (0, 0), .blk b5 115 [.func (.func fid) fst.toArray cap.toArray] (0, 0), .blk b3 28 [.slice (some ad) n c, .slice NA m e] (0, 0)] w')
  (fun v _ => suf.length - (intOf v).toNat) ?_ ?_
 ·exact ⟨0, Nat.zero_le _, rfl, hh⟩
 ·clear hh
  rintro ρ' v w' ⟨i, hi, rfl, hh⟩
  by_cases hlt : i < suf.length
  ·obtain ⟨x, hxi⟩ := aU (l := suf) (k := i) hlt
   have hgi := ep (jJ hxi)
   have hx2 := hlow x (List.mem_append_right _ (List.mem_cons_of_mem _ (List.mem_of_getElem? hxi)))
   have hct := hcap' (i + 1)
   have hct2 := hcap' i
   have hstep : aw (suf.take (i + 1)) = aw (suf.take i) * (x + 1) := by rw [bo hxi, cZ]; simp [aw]
   have e1 : ((aw (suf.take i) : Nat) : Int) * ((x : Int) + 1) = ((aw (suf.take (i + 1)) : Nat) : Int) := by rw [hstep, Int.natCast_mul, Int.natCast_add]; rfl
   obtain ⟨ab, rfl, sb⟩ := hbk.at_ (by omega)
   refine sr ?_
   refine aQ (aa (ah (cT (al (ai (ah (ao (sr ?_))))))))
   refine aT (k := i) aG.out aC.size rfl rfl (by omega) (by omega) (by decide) ?_
   refine bh aC.out rfl ((sb.ext hh.below).gU hgi) (by decide) ?_
   refine aI (aa (ak ?_))
   refine bI hh 0 ?_
   refine mI ?_
   refine bC ?_
   refine mulC ?_
   refine bK hh 0 [_] ?_
   intro ws hh
   replace hh : Hp _ (.blk _ _ [_] _ :: _) _ := hh
   refine aD (aV (ai (ak ?_)))
   refine bC (mI (aD (ai ?_)))
   rw [e1] at hh
   refine ⟨⟨i + 1, by omega, rfl, hh⟩, by show suf.length - (i + 1) < suf.length - i; omega, ?_⟩
   (repeat (first | exact ay _ _ _ | refine az rfl ?_ | refine av rfl ?_))
  ·obtain rfl : i = suf.length := by omega
   rw [List.take_of_length_le (Nat.le_refl _), ← hcA] at hh
   rw [← hcA, ← hcB] at hmK
   rw [← hcA] at hA0 hKm
   rw [← hcB] at hB0 hk
   have hrA : suf.reverse.length = suf.length := List.length_reverse
   rw [← hrA]
   generalize suf.reverse = A at *
   generalize pre.reverse = B at *
   refine sr ?_
   refine aQ (aa (ah (cF ?_)))
   refine a0 ?_
   refine aA (aA (bu (ai ?_)))
   refine eR fun D_ => ?_
   refine wX ?_
   refine aN 8 [[(3, none)], [(39, some 0)], [(40, some 1)], [(3, none)], [(42, some 3)], [(43, some 4)], [(41, some 2), (44, some 5)], []] [(7, 11), (6, 45), (5, 44), (4, 43), (3, 42), (2, 41), (1, 40), (0, 39)] hh mixed (by kernel_rfl) ?_
   refine eZ ?_
   refine fZ 4 ?_
   refine bJ (i := 2) (mV hh.sz 3 n 1 (bP (cm (pre ++ dd :: suf)))) (mV.ext) ?_ ?_
   ·intro ρ1 w1 hj hR
    exact bQ rfl (bE ar.out (aE (show ρ1 40 = Value.slice _ _ _ from hR.1) bz)) (gI (some ad) n c _ w1 (hD.ext hj.hp.below) (by omega)) (fun _ _ ⟨A, c, hq, ho, hb⟩ => ⟨_, hq, hb, A, c, rfl, fk ho hj.bl.size⟩)
   refine eZ ?_
   refine fZ 4 ?_
   refine bJ (i := 5) (mV hh.sz 39 m 3 (a9 NR.cells (xs.map nR))) (mV.ext) ?_ ?_
   ·intro ρ1 w1 hj hR
    exact bQ rfl (bE ar.out (aE (show ρ1 43 = Value.slice _ _ _ from hR.1) bz)) (iX NA m e _ w1 (hS.ext hj.hp.below) (by omega)) (fun _ _ ⟨A, c, hq, ho, hb⟩ => ⟨_, hq, hb, A, c, rfl, fk ho hj.bl.size⟩)
   refine bJ (i := 6) (lA hh.sz 3 39 n 1 m 3 (bP (cm (pre ++ dd :: suf))) (a9 NR.cells (xs.map nR))) (lA.ext) ?_ ?_
   ·intro ρ1 w1 hj hR
    exact let ⟨A, c, e1, o1⟩ := hR.1; let ⟨B, k, e2, o2⟩ := hR.2.1; gy rfl (mP (cs := [_, _]) aC.out iH.out (aK e1 (aK e2 bL)) rfl) ⟨Below.refl _ _, A, c, B, k, rfl, o1, o2⟩
   refine bJ (i := 7) (cK _ 28 _) cK.ext (fun ρ1 w1 hj hR => gu aC.out hj.bl (fun v w2 h hb => ⟨hb, h⟩)) ?_
   refine bj ?_
   intro f W hJ hV
   have hb_7 := hJ.bl
   obtain ⟨v11, v45, v44, v43, v42, v41, v40, v39, _⟩ := hV
   obtain ⟨g41, u41, e41, -⟩ := v41
   obtain ⟨g44, u44, e44, -⟩ := v44
   obtain ⟨A45, c45, B45, k45, e45, o45, p45⟩ := v45
   obtain ⟨b11, e11, hl11, hc11⟩ : cK _ _ _ (f 7) W := v11
   replace hh := JJ.nw hJ hh hl11 hc11 o45 p45 (by decide) (by decide) (by decide)
   refine aY (bm (ae e11 (ae e45 (ae e44 (ae v43 (ae v42 (ae e41 (ae v40 (ae v39 aX))))))))) ?_
   dsimp only [ct]
   clear e41 e44 e45 e11 hJ
   have eK : ((dd : Nat) : Int) + 1 = ((dd + 1 : Nat) : Int) := by omega
   have eK2 : (((dd : Nat) : Int) + 1) * ((aw A : Nat) : Int) = (((dd + 1) * aw A : Nat) : Int) := by rw [eK, ← Int.natCast_mul]
   refine bK hh 0 [_,_] ?_
   intro ws hh
   replace hh : Hp _ (.blk _ _ [_, _] _ :: _) _ := hh
   refine aa ?_
   refine nf ?_
   refine eR fun D_ => ?_
   refine ak (bG ?_)
   refine bI hh 0 ?_
   refine bI hh 4 ?_
   refine bI hh 3 ?_
   refine mulC ?_
   rw [eK2]
   refine aJ (mq B45 m k45 ((dd + 1) * aw A) _ (Nat.le_trans hA0 (Nat.le_mul_of_pos_left _ (by omega)))) ar.out rfl (by decide) ?_
   rintro e_ w51 ⟨b2, b1, rfl, h2⟩
   refine ⟨_, rfl, ?_⟩
   replace hh := hh.join h2
   simp only [List.cons_append, List.nil_append] at hh
   clear h2
   refine aa ?_
   have hmk := hh.g9 (i := 4) rfl
   obtain ⟨g, rfl⟩ := hh.dn (i := 4) rfl (by omega)
   have hc2 := hh.cM (i := 1) (o := 0) rfl rfl
   have hc1 := hh.cM (i := 0) (o := 0) rfl rfl
   have hseq := pg b2 b1 ⟨g, 0, none⟩ m k45 ((dd + 1) * aw A) (aw B) _ hc2 hc1 hmK (Nat.lt_of_lt_of_le hA0 (Nat.le_mul_of_pos_left _ (by omega))) hmk (by omega) (by omega)
   refine lF (oJ (α := Fin (aw B)) (enc := fun j : Fin (aw B) => .slice (some ((⟨g, 0, none⟩ : Addr).add (j.val * ((dd + 1) * aw A) * 3))) ((dd + 1) * aw A) ((dd + 1) * aw A)) 12 (by decide) (by decide) rfl (enters_of Tryz.func122 (by kernel_rfl) rfl) hseq ug (fun W l o o' h _ _ _ => tS (k9 hc2) (k9 hc1) W l o o' h)
    (fun bs W => ∃ X : List Dyadic, X.length = m ∧ (∀ x ∈ X, Sz (k + bs.length * G) x) ∧ (bs = (List.finRange (aw B)).take bs.length → X = vq A dd B M xs bs.length) ∧ Hp w [.row (some ⟨g, 0, none⟩) m k45 39 3 (a9 NR.cells (X.map nR)), .row A45 n c45 3 1 (bP (cm (pre ++ dd :: suf))), .blk b1 3 [.int .i64 (((dd + 1) * aw A : Nat) : Int)] (0, 0), .blk b2 26 [.slice (some ⟨g, 0, none⟩) m k45] (0, 0), .blk b11 28 [.slice A45 n c45, .slice (some ⟨g, 0, none⟩) m k45] (0, 0), .blk b8 3 [.int .i64 (aw A : Nat)] (0, 0), .blk b7 3 [.int .i64 ((dd : Nat) + 1)] (0, 0), .blk b6 28 [.slice none 0 0, .slice none 0 0] (0, 0), .blk b5 115 [.func (.func fid) fst.toArray cap.toArray] (0, 0), .blk b3 28 [.slice (some ad) n c, .slice NA m e] (0, 0)] W)
    ?own ?zero ?asg ?body ?done)
   case own =>
    intro s W W' row ⟨X, h1, h2, h3, h4⟩ hg hr
    exact ⟨X, h1, h2, h3, h4.wg (by simp [HE.xr]) hg fun r e => ⟨Nat.le_trans hh.size (hr r e).1, (hr r e).2⟩⟩
   case zero =>
    refine ⟨xs, hlm, fun x h => (hx x h).mono (by omega), fun _ => (vH _ _ _).symm, ?_⟩
    replace hh := hh.perm (List.perm_middle (l₁ := [_, _, _]))
    simp only [List.cons_append, List.nil_append] at hh
    replace hh := hh.perm (List.perm_middle (l₁ := [_, _, _, _]))
    simp only [List.cons_append, List.nil_append] at hh
    exact hh
   case asg =>
    intro l x W
    refine ak (aL (aD ?_))
    exact ⟨rfl, rfl⟩
   case body =>
    rintro l bs q W ⟨X, hXl, hXz, hXe, hh0⟩ hbl
    have hqB := q.isLt
    have hkb : bs.length * G ≤ aw B * G := Nat.mul_le_mul_right _ (by omega)
    have hh := hh0.uA
    simp only [List.cons_append, List.nil_append] at hh
    generalize hO : ot _ _ _ = O at hh
    have hzl : ∀ f, ∀ x ∈ dH A dd X f q.val, Sz (k + bs.length * G) x := fun f x h => by
     obtain ⟨i, _, rfl⟩ := List.mem_map.1 h
     exact kj hXz _
    have hPl : ∀ f i, f < aw A → i ≤ dd → cu A dd f i q.val < X.length := fun f i h1 h2 => by rw [hXl, ← hlm, hm]; exact k7 h1 h2 hqB
    have eAd : ∀ f i, ((⟨g, 0, none⟩ : Addr).add (q.val * ((dd + 1) * aw A) * 3)).add ((f + i * aw A) * 3) = ⟨g, cu A dd f i q.val * 3, none⟩ := fun f i => by
     rw [dO, dO]
     congr 1
     unfold cu
     grind
    rw [← vY (A := A) (d := dd) (φ := dA dd M) (X := X) q.val] at hh
    refine ao (sr ?_)
    refine bI hh 5 ?_
    refine mI (aa (ao ?_))
    refine bD [13, 14, 15, 16, 17, 54, 55, 56, 57, 58, 59, 60, 61, 62, 63, 64, 65, 66, 67, 68, 69, 70, 71, 72, 73, 74, 75, 76, 77, 78, 79, 80, 81, 82, 83, 84, 85, 86, 87, 88, 89, 90, 91] 54
     (fun v w' => ∃ f : Nat, f ≤ aw A ∧ v = .int .i64 f ∧ Hp w (.row (some ⟨g, 0, none⟩) m k45 39 3 (a9 NR.cells ((qE A dd (dA dd M) X q.val f 0).map nR)) :: .row A45 n c45 3 1 (bP (cm (pre ++ dd :: suf))) :: .blk b1 3 [.int .i64 (((dd + 1) * aw A : Nat) : Int)] (0, 0) :: .blk b2 26 [.slice (some ⟨g, 0, none⟩) m k45] (0, 0) :: .blk b11 28 [.slice A45 n c45, .slice (some ⟨g, 0, none⟩) m k45] (0, 0) :: .blk b8 3 [.int .i64 (aw A : Nat)] (0, 0) :: .blk b7 3 [.int .i64 ((dd : Nat) + 1)] (0, 0) :: .blk b6 28 [.slice none 0 0, .slice none 0 0] (0, 0) :: .blk b5 115 [.func (.func fid) fst.toArray cap.toArray] (0, 0) :: .blk b3 28 [.slice (some ad) n c, .slice NA m e] (0, 0) :: O) w')
     (fun v _ => aw A - (intOf v).toNat) ?_ ?_
    ·exact ⟨0, Nat.zero_le _, rfl, hh⟩
    ·clear hh
     rintro ρ' v w' ⟨f, hf, rfl, hh⟩
     by_cases hlt : f < aw A
     ·refine sr ?_
      refine aQ (aa (ah (cT (al (ai (ah (ao (sr (mI (aI (aa ?_)))))))))))
      refine sr (aL (aa (ah (sr ?_))))
      refine bI hh 6 ?_
      refine mI (aa (ao ?_))
      replace hh := hh.ew 39 3
      refine cw [14, 15, 58, 59, 60, 61, 62, 63, 64, 65, 66, 67, 68, 69, 70, 71, 72] 14 58
       (fun v14 v w' => ∃ (i c14 : Nat) (A14 : Option Addr), i ≤ dd + 1 ∧ v14 = .slice A14 i c14 ∧ v = .int .i64 i ∧ Hp w (.row A14 i c14 39 3 (a9 NR.cells (((dH A dd X f q.val).take i).map nR)) :: .row (some ⟨g, 0, none⟩) m k45 39 3 (a9 NR.cells ((qE A dd (dA dd M) X q.val f 0).map nR)) :: .row A45 n c45 3 1 (bP (cm (pre ++ dd :: suf))) :: .blk b1 3 [.int .i64 (((dd + 1) * aw A : Nat) : Int)] (0, 0) :: .blk b2 26 [.slice (some ⟨g, 0, none⟩) m k45] (0, 0) :: .blk b11 28 [.slice A45 n c45, .slice (some ⟨g, 0, none⟩) m k45] (0, 0) :: .blk b8 3 [.int .i64 (aw A : Nat)] (0, 0) :: .blk b7 3 [.int .i64 ((dd : Nat) + 1)] (0, 0) :: .blk b6 28 [.slice none 0 0, .slice none 0 0] (0, 0) :: .blk b5 115 [.func (.func fid) fst.toArray cap.toArray] (0, 0) :: .blk b3 28 [.slice (some ad) n c, .slice NA m e] (0, 0) :: O) w')
       (fun _ v _ => dd + 1 - (intOf v).toNat) ?_ ?_
      ·exact ⟨0, 0, none, Nat.zero_le _, rfl, rfl, hh⟩
      ·clear hh
       rintro ρ2 v14 v w2 ⟨i, c14, A14, hi, rfl, rfl, hh⟩
       by_cases hin : i < dd + 1
       ·have hfi : f + i * aw A < (dd + 1) * aw A := by
         have := Nat.mul_le_mul_right (aw A) (show i ≤ dd by omega)
         rw [Nat.succ_mul]
         omega
        have hat := wT (φ := dA dd M) hlt (show i ≤ dd by omega) (hPl f i hlt (by omega))
        refine sr ?_
        refine aQ (aa (ah (cT (al (ai (ah (ao (sr (mI (aI (aa ?_)))))))))))
        refine ak (mL (mL (mI (mI ?_))))
        refine bI hh 6 ?_
        refine mulC ?_
        refine bC ?_
        refine aT (k := f + i * aw A) aG.out aC.size rfl rfl (by rw [Int.natCast_add, Int.natCast_mul]) hfi (by decide) ?_
        rw [eAd]
        refine dM (vs := [_, _, _]) aC.out rfl (hh.iq (f := NR.cells) (i := 1) rfl NR.len (by decide) (show ((qE A dd (dA dd M) X q.val f 0).map nR)[cu A dd f i q.val]? = some (nR (dz (dH A dd X f q.val) i)) by rw [List.getElem?_map, hat]; rfl)) rfl (by decide) ?_
        refine aZ hh (cs := [_, _, _]) aG.out aC.out (aK (cH rfl) bL) rfl rfl (by decide) (by decide) (by decide) rfl (by decide) ?_
        intro b70 w70 hh
        refine cI hh (i := 1) rfl rfl rfl (hh.aR (i := 0) rfl) aG.out aC.out rfl (by decide) (by first | rfl | exact cg _ | exact bV _ | exact bM _ | exact bT NR.one _) (by omega) (by omega) (by decide) ?_
        intro A71 c71 w71 hh
        simp only [List.set_cons_zero, List.set_cons_succ] at hh
        replace hh := hh.sub (List.sublist_cons_self _ _)
        refine aL (aD (aV (ai (ak ?_))))
        refine bC (mI (aD (ai ?_)))
        have htk : a9 NR.cells (((dH A dd X f q.val).take i).map nR) ++ [.bool (nR (dz (dH A dd X f q.val) i)).neg, .string (nR (dz (dH A dd X f q.val) i)).br, .int .i64 (nR (dz (dH A dd X f q.val) i)).e] = a9 NR.cells (((dH A dd X f q.val).take (i + 1)).map nR) := by
         rw [bo (mO (l := dH A dd X f q.val) (k := i) (by unfold dH; simp; omega)), List.map_append, dx]
         rfl
        rw [htk] at hh
        refine ⟨⟨i + 1, _, _, by omega, rfl, rfl, hh⟩, by show dd + 1 - (i + 1) < dd + 1 - i; omega, ?_⟩
        (repeat (first | exact ay _ _ _ | refine az rfl ?_ | refine av rfl ?_))
       ·obtain rfl : i = dd + 1 := by omega
        rw [List.take_of_length_le (by unfold dH; simp)] at hh
        have hdl := fun w1 h1 hT1 hS1 => hdo A14 c14 (dH A dd X f q.val) (k + bs.length * G) w1 h1 hT1 hS1 (hzl f) (by omega)
        refine sr ?_
        refine aQ (aa (ah (cF ?_)))
        refine a0 ?_
        refine aA (aA (bu (ai (sr ?_))))
        refine bI hh 9 ?_
        refine mL ?_
        refine j2 (hdl _ hh.below (hT.hp hh) (hh.aR (i := 0) rfl)) ar.out rfl rfl (by decide) ?_
        rintro e_ w75 ⟨A75, c75, rfl, hown_, hb_⟩
        refine ⟨_, rfl, ?_⟩
        replace hh := hh.bg (x := .row _ _ _ _ _ _) hb_ hown_
        obtain ⟨g75, rfl⟩ := hh.dn (i := 0) rfl (by omega)
        refine a6 (mI (aa (ao ?_)))
        replace hh := hh.sub (List.Sublist.cons_cons _ (List.Sublist.cons _ (List.Sublist.cons_cons _ (List.Sublist.cons_cons _ (List.Sublist.cons_cons _ (List.Sublist.cons_cons _ (List.Sublist.cons_cons _ (List.Sublist.cons_cons _ (List.Sublist.cons_cons _ (List.Sublist.cons_cons _ (List.Sublist.cons_cons _ (List.Sublist.cons_cons _ (List.Sublist.refl _)))))))))))))
        generalize hφ : dA dd M (dH A dd X f q.val) = ys at hh
        have hyl : ys.length = dd + 1 := by rw [← hφ, gK]
        refine bD [16, 17, 77, 78, 79, 80, 81, 82, 83, 84, 85, 86, 87, 88, 89, 90] 77
         (fun v w' => ∃ i : Nat, i ≤ dd + 1 ∧ v = .int .i64 i ∧ Hp w (.row (some ⟨g75, 0, none⟩) (dd + 1) c75 39 3 (a9 NR.cells (ys.map nR)) :: .row (some ⟨g, 0, none⟩) m k45 39 3 (a9 NR.cells ((qE A dd (dA dd M) X q.val f i).map nR)) :: .row A45 n c45 3 1 (bP (cm (pre ++ dd :: suf))) :: .blk b1 3 [.int .i64 (((dd + 1) * aw A : Nat) : Int)] (0, 0) :: .blk b2 26 [.slice (some ⟨g, 0, none⟩) m k45] (0, 0) :: .blk b11 28 [.slice A45 n c45, .slice (some ⟨g, 0, none⟩) m k45] (0, 0) :: .blk b8 3 [.int .i64 (aw A : Nat)] (0, 0) :: .blk b7 3 [.int .i64 ((dd : Nat) + 1)] (0, 0) :: .blk b6 28 [.slice none 0 0, .slice none 0 0] (0, 0) :: .blk b5 115 [.func (.func fid) fst.toArray cap.toArray] (0, 0) :: .blk b3 28 [.slice (some ad) n c, .slice NA m e] (0, 0) :: O) w')
         (fun v _ => dd + 1 - (intOf v).toNat) ?_ ?_
        ·exact ⟨0, Nat.zero_le _, rfl, hh⟩
        ·clear hh
         rintro ρ3 v w3 ⟨i, hi, rfl, hh⟩
         by_cases hin : i < dd + 1
         ·have hfi : f + i * aw A < (dd + 1) * aw A := by
           have := Nat.mul_le_mul_right (aw A) (show i ≤ dd by omega)
           rw [Nat.succ_mul]
           omega
          have hset := xX (φ := dA dd M) hlt (show i ≤ dd by omega) (hPl f i hlt (by omega))
          rw [hφ] at hset
          have hPx := hPl f i hlt (show i ≤ dd by omega)
          have hSl := gG (A := A) (d := dd) (φ := dA dd M) (X := X) q.val f i
          have hrl := fL NR.len ((qE A dd (dA dd M) X q.val f i).map nR)
          have hyi : (ys.map nR)[i]? = some (nR (dz ys i)) := by rw [List.getElem?_map, mO (by omega)]; rfl
          generalize dz ys i = y at *
          refine sr ?_
          refine aQ (aa (ah (cT (al (ai (ah (ao (sr (mI ?_)))))))))
          refine bB (k := i) aG.out aC.size rfl rfl (by omega) (by omega) (by decide) ?_
          refine dM (vs := [_, _, _]) aC.out rfl (hh.iq (f := NR.cells) (i := 0) rfl NR.len (by decide) hyi) rfl (by decide) ?_
          refine bY hh ?_
          intro b17 w17 hh
          refine aI ?_
          refine bK hh 0 [_,_,_] ?_
          intro ws hh
          replace hh : Hp _ (.blk _ _ [_, _, _] _ :: _) _ := hh
          refine aa (ak (mL (mI (mI ?_))))
          refine bI hh 7 ?_
          refine mulC ?_
          refine bC ?_
          refine cD hh 0 [_,_,_] ?_
          refine aT (k := f + i * aw A) aG.out aC.size rfl rfl (by rw [Int.natCast_add, Int.natCast_mul]) hfi (by decide) ?_
          rw [eAd]
          generalize qE A dd (dA dd M) X q.val f i = V at *
          have hpl : cu A dd f i q.val < (V.map nR).length := by rw [List.length_map, hSl]; exact hPx
          refine bq hh (i := 2) (vs := [_, _, _]) rfl rfl (cH rfl) rfl aC.out rfl (by rw [hrl]; omega) rfl ?_
          intro ws hh
          simp only [List.set_cons_zero, List.set_cons_succ] at hh
          rw [show cj (a9 NR.cells (V.map nR)) (cu A dd f i q.val * 3) [.bool (nR y).neg, .string (nR y).br, .int .i64 (nR y).e] = a9 NR.cells ((V.map nR).set (cu A dd f i q.val) (nR y)) from eF NR.len hpl, ← List.map_set, hset] at hh
          refine aD (aV (ai (ak ?_)))
          refine bC (mI (aD (ai ?_)))
          replace hh := hh.sub (List.Sublist.cons _ (List.Sublist.cons_cons _ (List.Sublist.cons_cons _ (List.Sublist.cons_cons _ (List.Sublist.cons_cons _ (List.Sublist.cons_cons _ (List.Sublist.cons_cons _ (List.Sublist.cons_cons _ (List.Sublist.cons_cons _ (List.Sublist.cons_cons _ (List.Sublist.cons_cons _ (List.Sublist.cons_cons _ (List.Sublist.refl _)))))))))))))
          refine ⟨⟨i + 1, by omega, rfl, hh⟩, by show dd + 1 - (i + 1) < dd + 1 - i; omega, ?_⟩
          (repeat (first | exact ay _ _ _ | refine az rfl ?_ | refine av rfl ?_))
         ·obtain rfl : i = dd + 1 := by omega
          rw [xi] at hh
          refine sr ?_
          refine aQ (aa (ah (cF ?_)))
          refine a0 ?_
          refine aA (aA (bu (aV (ai (ak ?_)))))
          refine bC (mI (aD (ai ?_)))
          replace hh := hh.sub (List.Sublist.cons _ (List.Sublist.cons_cons _ (List.Sublist.cons_cons _ (List.Sublist.cons_cons _ (List.Sublist.cons_cons _ (List.Sublist.cons_cons _ (List.Sublist.cons_cons _ (List.Sublist.cons_cons _ (List.Sublist.cons_cons _ (List.Sublist.cons_cons _ (List.Sublist.cons_cons _ (List.Sublist.refl _))))))))))))
          refine ⟨⟨f + 1, by omega, rfl, hh⟩, by show aw A - (f + 1) < aw A - f; omega, ?_⟩
          (repeat (first | exact ay _ _ _ | refine az rfl ?_ | refine av rfl ?_))
     ·obtain rfl : f = aw A := by omega
      refine sr ?_
      refine aQ (aa (ah (cF ?_)))
      refine a0 ?_
      refine aA (aA (bu (aV ?_)))
      subst hO
      refine ⟨hh0.keeps (H' := [_, _, _, _, _, _, _, _, _, _]) (by simp [HE.xr]) hh rfl, ⟨by rw [hh.cM (i := 3) (o := 0) rfl rfl, hh0.cM (i := 3) (o := 0) rfl rfl], by rw [hh.cM (i := 2) (o := 0) rfl rfl, hh0.cM (i := 2) (o := 0) rfl rfl]⟩, vG A dd (dA dd M) X q.val, ?_, ?_, ?_, ?_⟩
      ·unfold vG
       rw [gG, hXl]
      ·intro x h
       refine (zk hXz (fun l h1 h2 => hgr l _ h1 h2) x h).mono ?_
       rw [List.length_append, List.length_singleton, Nat.succ_mul]
       omega
      ·intro h
       obtain ⟨h1, h2⟩ := oB h hbl
       rw [hXe h1, h2, List.length_append, List.length_singleton]
       exact vL (hm ▸ rfl)
      ·exact hh.sub (by repeat (first | exact List.nil_sublist _ | apply List.Sublist.cons_cons))
   case done =>
    rintro D bs W hD2 rfl ⟨X, hXl, hXz, hXe, hh0⟩ hDo
    have hA2 := hXe (by rw [List.take_of_length_le (Nat.le_refl _)])
    rw [List.length_finRange] at hA2
    rw [hA2, vI hm] at hh0
    have hD3 := Nat.le_trans hh.size hD2
    replace hh := hh0.An (by simp [HE.xr]) hD3 hDo rfl
    refine eR fun D_ => ?_
    refine ak ?_
    refine cD hh 5 [_,_] ?_
    refine bK hh 8 [_,_] ?_
    intro ws hh
    replace hh : Hp _ (_ :: _ :: _ :: _ :: _ :: _ :: _ :: _ :: .blk _ _ [_, _] _ :: _) _ := hh
    refine aa ?_
    refine qT fun D_ => ?_
    refine aq ?_
    refine jU (M := [D]) (vs := [.agg #[.slice A45 n c45, .slice (some ⟨g, 0, none⟩) m k45]]) hh (.inr rfl) rfl ?_
    intro w2 hh
    refine ⟨(aO rfl (aP (vs := [_, _]) aC.out (hh.au (i := 7) (n := 2) rfl rfl) rfl) bA), ?_⟩
    replace hh := hh.sub (List.Sublist.cons_cons _ (List.Sublist.cons_cons _ (List.Sublist.cons _ (List.Sublist.cons _ (List.Sublist.cons _ (List.Sublist.cons _ (List.Sublist.cons _ (List.Sublist.cons _ (List.Sublist.cons _ (List.Sublist.cons _ List.Sublist.slnil))))))))))
    exact ⟨_, _, _, _, rfl, hh⟩
end Go.Proofs.YtioilmppidlbnaaGreatDoor
/- The walk through cast.Cut. -/
namespace Go.Proofs.YtioilmppidlbnaaGreatDoor
open Go.RowKit
def BF (n m : Nat) (ds : List Int) (cs : List NR) : VP := fun v W => ∃ A a B b, v = .agg #[.slice A n a, .slice B m b] ∧ n ≤ a ∧ Sl W A n 1 (bP ds) ∧ Sl W B m 3 (a9 NR.cells cs)
theorem vJ {d q : Nat} {s : Dyadic} (hd : d ≤ 127) (hs : Sz q s) (hs1 : Sz q (1 - s)) (ls : List Dyadic) (k : Nat) (hx : ∀ x ∈ ls, Sz k x) : ∀ x ∈ dA d (j4 d s) ls, Sz (k + (260 + 2 * (q * d))) x := fun x h => by
 rw [← zN, ← lV] at h
 exact (qo hx hs hs1 hd (Nat.le_refl _) x h).mono (by omega)
theorem wM {d q : Nat} {s : Dyadic} (hd : d ≤ 127) (hs : Sz q s) (hs1 : Sz q (1 - s)) (ls : List Dyadic) (k : Nat) (hl : ls.length = d + 1) (hx : ∀ x ∈ ls, Sz k x) : ∀ x ∈ dA d (j5 d s) ls, Sz (k + (260 + 2 * (q * d))) x := fun x h => by
 rw [← q9 hl, List.mem_reverse, ← lV] at h
 exact (qo (fun y hy => hx y (List.mem_reverse.1 hy)) hs1 hs hd (Nat.le_refl _) x h).mono (by omega)
theorem JJ.xB {w0 w W : World} {H : List HE} {t1 t2 : TypeId} {xs1 xs2 : List Value} {n1 c1 s1 n2 c2 s2 : Nat} {A1 A2 : Option Addr} (hJ : JJ w0 H w W) (hs : Hp w0 H w)
  (o1 : W.ownsRow w.heap.size t1 s1 (.slice A1 n1 c1) n1 xs1) (o2 : W.ownsRow w.heap.size t2 s2 (.slice A2 n2 c2) n2 xs2) (h12 : t1 ≠ t2) : Hp w0 (.row A1 n1 c1 t1 s1 xs1 :: .row A2 n2 c2 t2 s2 xs2 :: H) W := by
 have hL : Hp w [.row A1 n1 c1 t1 s1 xs1, .row A2 n2 c2 t2 s2 xs2] W := by
  refine ⟨hJ.bl, fun x hx => ?_, ?_⟩
  ·rcases List.mem_cons.1 hx with rfl | hx
   ·exact o1
   ·obtain rfl := List.mem_singleton.1 hx
    exact o2
  ·rw [List.filterMap_cons]
   split
   ·rw [List.filterMap_cons]
    split
    ·exact List.nodup_nil
    ·exact List.nodup_cons.2 ⟨by simp, List.nodup_nil⟩
   ·rename_i b1 hb1
    refine List.nodup_cons.2 ⟨fun hm => ?_, ?_⟩
    ·obtain ⟨y, hy, hyb⟩ := List.mem_filterMap.1 hm
     obtain rfl := List.mem_singleton.1 hy
     exact tQ o1 o2 h12 b1 hb1 hyb
    ·rw [List.filterMap_cons]
     split
     ·exact List.nodup_nil
     ·exact List.nodup_cons.2 ⟨by simp, List.nodup_nil⟩
 exact hs.join hL
theorem uW (DA NA : Option Addr) (n c m e : Nat) (pre suf : List Nat) (dd : Nat) (sn : NR) (s : Dyadic) (xs : List Dyadic) (k q : Nat) (w : World) (hT : eN w)
  (hD : Sl w DA n 1 (bP (cm (pre ++ dd :: suf)))) (hS : Sl w NA m 3 (a9 NR.cells (xs.map nR))) (hcap : n ≤ c) (hn : n ≤ 1000) (hlow : ∀ x ∈ pre ++ dd :: suf, x ≤ 127) (hm : xs.length = aw (suf.reverse ++ dd :: pre.reverse)) (hm4 : m ≤ 4096)
  (hx : ∀ x ∈ xs, Sz k x) (hk : k + aw pre * (260 + 2 * (q * dd)) ≤ 300000) (hq : q ≤ 2000) (vs : ke q sn s) (hs1 : Sz q (1 - s)) :
  Calls Tryz.prog 86 #[.agg #[.slice DA n c, .slice NA m e], .int .i64 (pre.length : Nat), .func (.func 87) #[.agg #[.bool sn.neg, .string sn.br, .int .i64 sn.e, .bool (nR (1 - s)).neg, .string (nR (1 - s)).br, .int .i64 (nR (1 - s)).e]] #[]] w fun r w' => ∃ A a B b, r = .returned (.agg #[.slice A n a, .slice B m b]) ∧ Hp w [.row B m b 39 3 (a9 NR.cells ((dh (suf.reverse ++ dd :: pre.reverse) suf.length (j4 dd s) xs).map nR)), .row A n a 3 1 (bP (cm (pre ++ dd :: suf)))] w' := by
 have hs := vs.sz
 have hdl : dd ≤ 127 := hlow dd (List.mem_append_right _ List.mem_cons_self)
 exact (lB DA NA n c m e pre suf dd (j4 dd s) xs 87 [.agg #[.bool sn.neg, .string sn.br, .int .i64 sn.e, .bool (nR (1 - s)).neg, .string (nR (1 - s)).br, .int .i64 (nR (1 - s)).e]] [] k (260 + 2 * (q * dd)) w hT hD hS hcap hn hlow hm hm4 hx hk (fun L c2 ls p w1 _ hT1 hS1 hz hp => l9 sn (nR (1 - s)) s (1 - s) L (dd + 1) c2 dd ls p q w1 hT1 hS1 rfl hdl hz vs (ke.of hs1 hq) hp hq) (fun ls p _ hz => vJ hdl hs hs1 ls p hz))
theorem u5 (DA NA : Option Addr) (n c m e : Nat) (pre suf : List Nat) (dd : Nat) (sn : NR) (s : Dyadic) (xs : List Dyadic) (k q : Nat) (w : World) (hT : eN w)
  (hD : Sl w DA n 1 (bP (cm (pre ++ dd :: suf)))) (hS : Sl w NA m 3 (a9 NR.cells (xs.map nR))) (hcap : n ≤ c) (hn : n ≤ 1000) (hlow : ∀ x ∈ pre ++ dd :: suf, x ≤ 127) (hm : xs.length = aw (suf.reverse ++ dd :: pre.reverse)) (hm4 : m ≤ 4096)
  (hx : ∀ x ∈ xs, Sz k x) (hk : k + aw pre * (260 + 2 * (q * dd)) ≤ 300000) (hq : q ≤ 2000) (vs : ke q sn s) (hs1 : Sz q (1 - s)) :
  Calls Tryz.prog 86 #[.agg #[.slice DA n c, .slice NA m e], .int .i64 (pre.length : Nat), .func (.func 88) #[.agg #[.bool sn.neg, .string sn.br, .int .i64 sn.e, .bool (nR (1 - s)).neg, .string (nR (1 - s)).br, .int .i64 (nR (1 - s)).e]] #[]] w fun r w' => ∃ A a B b, r = .returned (.agg #[.slice A n a, .slice B m b]) ∧ Hp w [.row B m b 39 3 (a9 NR.cells ((dh (suf.reverse ++ dd :: pre.reverse) suf.length (j5 dd s) xs).map nR)), .row A n a 3 1 (bP (cm (pre ++ dd :: suf)))] w' := by
 have hs := vs.sz
 have hdl : dd ≤ 127 := hlow dd (List.mem_append_right _ List.mem_cons_self)
 refine (lB DA NA n c m e pre suf dd (j5 dd s) xs 88 [.agg #[.bool sn.neg, .string sn.br, .int .i64 sn.e, .bool (nR (1 - s)).neg, .string (nR (1 - s)).br, .int .i64 (nR (1 - s)).e]] [] k (260 + 2 * (q * dd)) w hT hD hS hcap hn hlow hm hm4 hx hk (fun L c2 ls p w1 _ hT1 hS1 hz hp => ?_) (fun ls p hl hz => wM hdl hs hs1 ls p hl hz))
 ·have hll : ls.length = dd + 1 := by have := hS1.eb NR.len (by decide); simpa using this
  have := qS sn (nR (1 - s)) s (1 - s) L (dd + 1) c2 dd ls p q w1 hT1 hS1 rfl hdl hz vs (ke.of hs1 hq) hp hq
  rw [q9 hll] at this
  exact this
end Go.Proofs.YtioilmppidlbnaaGreatDoor
/- The walk through cast.Cut. -/
namespace Go.Proofs.YtioilmppidlbnaaGreatDoor
open Go.RowKit
instance : aC Tryz.prog 115 1 false 8 [.nilFunc] := ⟨by kernel_rfl⟩
def eI (up : Bool) (s : Dyadic) (ns : List Nat) (a : Nat) (xs : List Dyadic) : List Dyadic := dh ns.reverse (ns.length - 1 - a) (if up then j5 (ns.getD a 0) s else j4 (ns.getD a 0) s) xs
def dX (fx : FX) (ax : Int) : Int := if fx.e ≠ 0 then fx.e else if ax < 0 ∨ (fx.n : Int) ≤ ax then 1 else 0
def vR (e : Int) : Ending := .returned (.tuple #[.agg #[.slice none 0 0, .slice none 0 0], .agg #[.slice none 0 0, .slice none 0 0], .int .i64 e])
theorem ki {ns : List Nat} {a : Nat} (h : a < ns.length) : ∃ pre dd suf, ns = pre ++ dd :: suf ∧ a = pre.length ∧ ns.getD a 0 = dd ∧ ns.length - 1 - a = suf.length := by
 refine ⟨ns.take a, ns[a], ns.drop (a + 1), ?_, by rw [List.length_take]; omega, by rw [List.getD_eq_getElem?_getD, List.getElem?_eq_getElem h]; rfl, by rw [List.length_drop]; omega⟩
 rw [← List.drop_eq_getElem_cons h, List.take_append_drop]
theorem iW (fx : FX) (ax : Int) (sn : NR) (s : Dyadic) (k q : Nat) (w : World) (hT : eN w) (hf : fx.at_ w) (hl : fx.qf k) (hcap : fx.n ≤ fx.a) (vs : ke q sn s) (hs1 : Sz q (1 - s)) (hq : q ≤ 2000) (hk : fx.e = 0 → ∀ d ∈ fx.ns, k + fx.m * (260 + 2 * (q * d)) ≤ 300000) :
  Calls Tryz.prog 38 #[.agg #[.slice fx.A fx.n fx.a, .slice fx.B fx.m fx.b], .int .i64 ax, .agg #[.bool sn.neg, .string sn.br, .int .i64 sn.e]] w fun r w' => Below w.heap.size w w' ∧ ((dX fx ax ≠ 0 ∧ r = vR (dX fx ax)) ∨
   (dX fx ax = 0 ∧ ∃ A1 a1 B1 b1 A2 a2 B2 b2, r = .returned (.tuple #[.agg #[.slice A1 fx.n a1, .slice B1 fx.m b1], .agg #[.slice A2 fx.n a2, .slice B2 fx.m b2], .int .i64 0]) ∧ Hp w [.row B2 fx.m b2 39 3 (a9 NR.cells ((eI true s fx.ns ax.toNat (fx.cs.map NR.d)).map nR)), .row A2 fx.n a2 3 1 (bP fx.ds), .row A1 fx.n a1 3 1 (bP fx.ds), .row B1 fx.m b1 39 3 (a9 NR.cells ((eI false s fx.ns ax.toNat (fx.cs.map NR.d)).map nR))] w')) := by
 have hh := Hp.start w
 have hs := vs.sz
 have hln : fx.ds.length = fx.n := by have := hf.dg.1; simpa [bP] using this
 have hlm := hf.nm.eb NR.len (by decide)
 have hn20 := hl.z8
 have hck := fun w1 hT1 hb => lu fx k w1 hT1 (hf.ext hb) hl
 by_cases h0 : fx.e = 0
 ·by_cases h1 : ax < 0
  ·have hE : dX fx ax = 1 := by unfold dX; rw [if_neg (by omega), if_pos (.inl h1)]
   refine aj (N := 44) (l := [.agg #[.slice fx.A fx.n fx.a, .slice fx.B fx.m fx.b], .int .i64 ax, .agg #[.bool sn.neg, .string sn.br, .int .i64 sn.e]]) Tryz.func38 rfl rfl (by simp) ?_
   refine sr ?_
   refine cW hh [_,_] ?_
   intro b3 w3 hh
   refine cW hh [_,_,_] ?_
   intro b5 w5 hh
   refine bY hh ?_
   intro b6 w6 hh
   refine bY hh ?_
   intro b7 w7 hh
   refine aI (aa (ah (sr ?_)))
   refine cD hh 3 [_,_] ?_
   refine bF hh (hck _ (hT.hp hh) hh.below) rfl ?_
   intro w12 hh
   refine aI (aa (sr (mI ?_)))
   refine dR (aa (cF (al (ai (ah (sr (mI ?_)))))))
   refine aQ (mB ?_)
   first | refine gS ?_ | (refine gT ?_; refine mI ?_) | refine gV ?_
   first | refine gS ?_ | (refine gT ?_; refine bG ?_) | refine gV ?_
   first | refine gS ?_ | (refine gT ?_; refine bI hh 3 ?_) | refine gV ?_
   first | refine gS ?_ | (refine gT ?_; refine a6 ?_) | refine gV ?_
   first | refine gS ?_ | (refine gT ?_; refine de ?_) | refine gV ?_
   first | refine dq ?_ | refine dr ?_
   refine aa (cT (sr ?_))
   refine fS [_,_] ?_
   refine fS [_,_] ?_
   refine bK hh 1 [_,_] ?_
   intro ws hh
   replace hh : Hp _ (_ :: .blk _ _ [_, _] _ :: _) _ := hh
   refine bK hh 0 [_,_] ?_
   intro ws hh
   replace hh : Hp _ (.blk _ _ [_, _] _ :: _) _ := hh
   refine aI (aa (aq (a8 ?_)))
   refine tm (aO rfl (aP (vs := [_, _]) aC.out (hh.au (i := 1) (n := 2) rfl rfl) rfl) (aO rfl (aP (vs := [_, _]) aC.out (hh.au (i := 0) (n := 2) rfl rfl) rfl) (dP (fm rfl) bA))) ?_
   exact ⟨hh.below, .inl ⟨by rw [hE]; decide, by rw [hE]; rfl⟩⟩
  ·by_cases h2 : (fx.n : Int) ≤ ax
   ·have hE : dX fx ax = 1 := by unfold dX; rw [if_neg (by omega), if_pos (.inr h2)]
    refine aj (N := 44) (l := [.agg #[.slice fx.A fx.n fx.a, .slice fx.B fx.m fx.b], .int .i64 ax, .agg #[.bool sn.neg, .string sn.br, .int .i64 sn.e]]) Tryz.func38 rfl rfl (by simp) ?_
    refine sr ?_
    refine cW hh [_,_] ?_
    intro b3 w3 hh
    refine cW hh [_,_,_] ?_
    intro b5 w5 hh
    refine bY hh ?_
    intro b6 w6 hh
    refine bY hh ?_
    intro b7 w7 hh
    refine aI (aa (ah (sr ?_)))
    refine cD hh 3 [_,_] ?_
    refine bF hh (hck _ (hT.hp hh) hh.below) rfl ?_
    intro w12 hh
    refine aI (aa (sr (mI ?_)))
    refine dR (aa (cF (al (ai (ah (sr (mI ?_)))))))
    refine aQ (mB ?_)
    first | refine gS ?_ | (refine gT ?_; refine mI ?_) | refine gV ?_
    first | refine gS ?_ | (refine gT ?_; refine bG ?_) | refine gV ?_
    first | refine gS ?_ | (refine gT ?_; refine bI hh 3 ?_) | refine gV ?_
    first | refine gS ?_ | (refine gT ?_; refine a6 ?_) | refine gV ?_
    first | refine gS ?_ | (refine gT ?_; refine de ?_) | refine gV ?_
    first | refine dq ?_ | refine dr ?_
    refine aa (cT (sr ?_))
    refine fS [_,_] ?_
    refine fS [_,_] ?_
    refine bK hh 1 [_,_] ?_
    intro ws hh
    replace hh : Hp _ (_ :: .blk _ _ [_, _] _ :: _) _ := hh
    refine bK hh 0 [_,_] ?_
    intro ws hh
    replace hh : Hp _ (.blk _ _ [_, _] _ :: _) _ := hh
    refine aI (aa (aq (a8 ?_)))
    refine tm (aO rfl (aP (vs := [_, _]) aC.out (hh.au (i := 1) (n := 2) rfl rfl) rfl) (aO rfl (aP (vs := [_, _]) aC.out (hh.au (i := 0) (n := 2) rfl rfl) rfl) (dP (fm rfl) bA))) ?_
    exact ⟨hh.below, .inl ⟨by rw [hE]; decide, by rw [hE]; rfl⟩⟩
   ·have hE : dX fx ax = 0 := by unfold dX; rw [if_neg (by omega), if_neg (by omega)]
    rw [hE]
    obtain ⟨hdeg, hnum, _, hlow, hcnt, hmax⟩ := FX.fv h0
    have hnl : fx.ns.length = fx.n := by unfold FX.ns; rw [List.length_map]; exact hln
    obtain ⟨pre, dd, suf, hns, hap, hgd, hsl⟩ := ki (ns := fx.ns) (a := ax.toNat) (by omega)
    have hD := hf.dg
    have hN := hf.nm
    have hLo : eI false s fx.ns ax.toNat (fx.cs.map NR.d) = dh (suf.reverse ++ dd :: pre.reverse) suf.length (j4 dd s) (fx.cs.map NR.d) := by
     unfold eI
     rw [hsl, hgd, hns, List.reverse_append, List.reverse_cons, List.append_assoc]
     rfl
    have hUp : eI true s fx.ns ax.toNat (fx.cs.map NR.d) = dh (suf.reverse ++ dd :: pre.reverse) suf.length (j5 dd s) (fx.cs.map NR.d) := by
     unfold eI
     rw [hsl, hgd, hns, List.reverse_append, List.reverse_cons, List.append_assoc]
     rfl
    rw [hLo, hUp]
    have hax : ax = ((pre.length : Nat) : Int) := by omega
    have hxl : (fx.cs.map NR.d).length = aw (suf.reverse ++ dd :: pre.reverse) := by
     rw [List.length_map, hcnt, show suf.reverse ++ dd :: pre.reverse = fx.ns.reverse by rw [hns, List.reverse_append, List.reverse_cons, List.append_assoc]; rfl, eY]
    have hpm : aw pre ≤ fx.m := by
     have h3 := fp fx.ns pre.length
     rw [hns, List.take_left' rfl] at h3
     rw [← hns, ← hcnt] at h3
     omega
    have hkk : k + aw pre * (260 + 2 * (q * dd)) ≤ 300000 := by
     have h3 := hk h0 dd (by rw [hns]; exact List.mem_append_right _ List.mem_cons_self)
     have h4 := Nat.mul_le_mul_right (260 + 2 * (q * dd)) hpm
     omega
    have hxz : ∀ x ∈ fx.cs.map NR.d, Sz k x := fun x h => by
     obtain ⟨c, hc, rfl⟩ := List.mem_map.1 h
     exact (hl.num c hc).2
    have hm4 : fx.m ≤ 4096 := by omega
    rw [hdeg, hns] at hD
    rw [hnum] at hN
    rw [hns] at hlow
    have hds : fx.ds = cm (pre ++ dd :: suf) := by rw [hdeg, hns]
    rw [hds]
    have hlo := fun w1 hT1 hb => uW fx.A fx.B fx.n fx.a fx.m fx.b pre suf dd sn s _ k q w1 hT1 (hD.ext hb) (hN.ext hb) hcap hn20 hlow hxl hm4 hxz hkk hq vs hs1
    have hup := fun w1 hT1 hb => u5 fx.A fx.B fx.n fx.a fx.m fx.b pre suf dd sn s _ k q w1 hT1 (hD.ext hb) (hN.ext hb) hcap hn20 hlow hxl hm4 hxz hkk hq vs hs1
    have hof : ∀ w1, eN w1 → Calls Tryz.prog 47 #[.int .i64 1] w1 fun r w' => r = .returned (.agg #[.bool (nR (1 : Dyadic)).neg, .string (nR (1 : Dyadic)).br, .int .i64 (nR (1 : Dyadic)).e]) ∧ Below w1.heap.size w1 w' := fun w1 hT1 => ea 1 w1 hT1 (by decide) (by decide)
    have hsb := fun w1 hT1 => kA (nR (1 : Dyadic)) sn w1 hT1 (Sz.one.ok (by omega)) vs.ok (q + 1) (by rw [dw]; exact Sz.one.mono (by omega)) (by rw [vs.d]; exact hs.mono (by omega)) (by omega)
    simp only [dw, vs.d] at hsb
    refine aj (N := 44) (l := [.agg #[.slice fx.A fx.n fx.a, .slice fx.B fx.m fx.b], .int .i64 ax, .agg #[.bool sn.neg, .string sn.br, .int .i64 sn.e]]) Tryz.func38 rfl rfl (by simp) ?_
    refine sr ?_
    refine cW hh [_,_] ?_
    intro b3 w3 hh
    refine cW hh [_,_,_] ?_
    intro b5 w5 hh
    refine bY hh ?_
    intro b6 w6 hh
    refine bY hh ?_
    intro b7 w7 hh
    refine aI (aa (ah (sr ?_)))
    refine cD hh 3 [_,_] ?_
    refine bF hh (hck _ (hT.hp hh) hh.below) rfl ?_
    intro w12 hh
    refine aI (aa (sr (mI ?_)))
    refine dR (aa (cF (al (ai (ah (sr (mI ?_)))))))
    refine aQ (mB ?_)
    first | refine gS ?_ | (refine gT ?_; refine mI ?_) | refine gV ?_
    first | refine gS ?_ | (refine gT ?_; refine bG ?_) | refine gV ?_
    first | refine gS ?_ | (refine gT ?_; refine bI hh 3 ?_) | refine gV ?_
    first | refine gS ?_ | (refine gT ?_; refine a6 ?_) | refine gV ?_
    first | refine gS ?_ | (refine gT ?_; refine de ?_) | refine gV ?_
    first | refine dq ?_ | refine dr ?_
    refine aa (cF (al (ai (ah ?_))))
    subst hax
    refine aN 6 [[(5, none)], [], [(5, none)], [(30, some 1), (31, some 2)], [(29, some 0), (32, some 3)], []] [(5, 10), (4, 33), (3, 32), (2, 31), (1, 30), (0, 29)] hh mixed (by kernel_rfl) ?_
    refine fB 2 [_,_,_] ?_
    refine dC (fun _ hj => hof _ (hT.hp hj.hp)) ?_
    refine fB 2 [_,_,_] ?_
    refine dC (fun _ hj => hsb _ (hT.hp hj.hp)) ?_
    refine dB [_,_,_,_,_,_] ?_
    refine bJ (i := 5) (cK _ 117 _) cK.ext (fun ρ1 w1 hj hR => gu aC.out hj.bl (fun v w2 h hb => ⟨hb, h⟩)) ?_
    refine bj ?_
    intro f W hJ hV
    have hb_6 := hJ.bl
    obtain ⟨v10, v33, v32, v31, v30, v29, _⟩ := hV
    obtain ⟨b10, e10, hl10, hc10⟩ : cK _ _ _ (f 5) W := v10
    replace hh := hJ.newVar hh hl10 hc10
    refine aY (bm (ae e10 (ae v33 (ae v32 (ae v31 (ae v30 (ae v29 aX))))))) ?_
    dsimp only [ct]
    clear e10 hJ
    refine bK hh 0 [_,_,_,_,_,_] ?_
    intro ws hh
    replace hh : Hp _ (.blk _ _ [_, _, _, _, _, _] _ :: _) _ := hh
    refine aa (ah ?_)
    refine aN 9 [[(3, none)], [(1, none)], [(10, none)], [(36, some 2)], [(34, some 0), (35, some 1), (37, some 3)], [(3, none)], [(1, none)], [(10, none)], [(41, some 7)]] [(8, 42), (7, 41), (6, 40), (5, 39), (4, 38), (3, 37), (2, 36), (1, 35), (0, 34)] hh mixed (by kernel_rfl) ?_
    refine fB 4 [_,_] ?_
    refine ee ?_
    refine fB 0 [_,_,_,_,_,_] ?_
    refine bJ (i := 3) (Is (.func (.func 87) #[.agg #[.bool sn.neg, .string sn.br, .int .i64 sn.e, .bool (nR (1 - s)).neg, .string (nR (1 - s)).br, .int .i64 (nR (1 - s)).e]] #[])) (Is.ext) ?_ ?_
    ·intro ρ1 w1 hj hR
     exact gy rfl (ks (aE (show ρ1 36 = Value.agg _ from hR.1) bz) bz) ⟨Below.refl _ _, rfl⟩
    refine bJ (i := 4) (lA hh.sz 3 39 fx.n 1 fx.m 3 (bP (cm (pre ++ dd :: suf))) (a9 NR.cells ((dh (suf.reverse ++ dd :: pre.reverse) suf.length (j4 dd s) (fx.cs.map NR.d)).map nR))) (lA.ext) ?_ ?_
    ·intro ρ1 w1 hj hR
     exact bQ rfl (bE ar.out (aE (show ρ1 34 = Value.agg _ from hR.1) (aE (show ρ1 35 = Value.int _ _ from hR.2.1) (aE (show ρ1 37 = Value.func _ _ _ from hR.2.2.1) bz)))) (hlo w1 (hT.hp hj.hp) hj.hp.below) (fun _ _ ⟨A, a, B, b, q1, q2⟩ => ⟨_, q1, q2.below, A, a, B, b, rfl, fk (q2.at_ (i := 1) rfl) hj.bl.size, fk (q2.at_ (i := 0) rfl) hj.bl.size⟩)
    refine fB 4 [_,_] ?_
    refine ee ?_
    refine fB 0 [_,_,_,_,_,_] ?_
    refine bJ (i := 8) (Is (.func (.func 88) #[.agg #[.bool sn.neg, .string sn.br, .int .i64 sn.e, .bool (nR (1 - s)).neg, .string (nR (1 - s)).br, .int .i64 (nR (1 - s)).e]] #[])) (Is.ext) ?_ ?_
    ·intro ρ1 w1 hj hR
     exact gy rfl (ks (aE (show ρ1 41 = Value.agg _ from hR.1) bz) bz) ⟨Below.refl _ _, rfl⟩
    refine bj ?_
    intro f W hJ hV
    have hb_7 := hJ.bl
    obtain ⟨v42, v41, v40, v39, v38, v37, v36, v35, v34, _⟩ := hV
    obtain ⟨A38, c38, B38, k38, e38, o38, p38⟩ := v38
    replace hh := JJ.xB hJ hh o38 p38 (by decide)
    clear o38 p38
    refine aY (bm (ae v42 (ae v41 (ae v40 (ae v39 (ae e38 (ae v37 (ae v36 (ae v35 (ae v34 aX)))))))))) ?_
    dsimp only [ct]
    clear e38 hJ
    refine aJ (hup _ (hT.hp hh) hh.below) ar.out rfl (by decide) ?_
    rintro e_ w43 ⟨A43, a43, B43, b43, rfl, h2⟩
    refine ⟨_, rfl, ?_⟩
    replace hh := hh.join h2
    simp only [List.cons_append, List.nil_append] at hh
    clear h2
    refine bK hh 6 [_,_] ?_
    intro ws hh
    replace hh : Hp _ (_ :: _ :: _ :: _ :: _ :: _ :: .blk _ _ [_, _] _ :: _) _ := hh
    refine bK hh 5 [_,_] ?_
    intro ws hh
    replace hh : Hp _ (_ :: _ :: _ :: _ :: _ :: .blk _ _ [_, _] _ :: _) _ := hh
    refine aI (aa (aq ?_))
    refine tm (aO rfl (aP (vs := [_, _]) aC.out (hh.au (i := 6) (n := 2) rfl rfl) rfl) (aO rfl (aP (vs := [_, _]) aC.out (hh.au (i := 5) (n := 2) rfl rfl) rfl) (dP (fm rfl) bA))) ?_
    replace hh := hh.sub (List.Sublist.cons_cons _ (List.Sublist.cons_cons _ (List.Sublist.cons_cons _ (List.Sublist.cons_cons _ (List.Sublist.cons _ (List.Sublist.cons _ (List.Sublist.cons _ (List.Sublist.cons _ (List.Sublist.cons _ List.Sublist.slnil)))))))))
    exact ⟨hh.below, .inr ⟨rfl, _, _, _, _, _, _, _, _, rfl, hh⟩⟩
 ·have hE : dX fx ax = fx.e := by unfold dX; rw [if_pos h0]
  refine aj (N := 44) (l := [.agg #[.slice fx.A fx.n fx.a, .slice fx.B fx.m fx.b], .int .i64 ax, .agg #[.bool sn.neg, .string sn.br, .int .i64 sn.e]]) Tryz.func38 rfl rfl (by simp) ?_
  refine sr ?_
  refine cW hh [_,_] ?_
  intro b3 w3 hh
  refine cW hh [_,_,_] ?_
  intro b5 w5 hh
  refine bY hh ?_
  intro b6 w6 hh
  refine bY hh ?_
  intro b7 w7 hh
  refine aI (aa (ah (sr ?_)))
  refine cD hh 3 [_,_] ?_
  refine bF hh (hck _ (hT.hp hh) hh.below) rfl ?_
  intro w12 hh
  refine aI (aa (sr (mI ?_)))
  refine dR (aa (cT (sr ?_)))
  refine fS [_,_] ?_
  refine fS [_,_] (mI ?_)
  refine bK hh 1 [_,_] ?_
  intro ws hh
  replace hh : Hp _ (_ :: .blk _ _ [_, _] _ :: _) _ := hh
  refine bK hh 0 [_,_] ?_
  intro ws hh
  replace hh : Hp _ (.blk _ _ [_, _] _ :: _) _ := hh
  refine aI (aa (aq (a8 ?_)))
  refine tm (aO rfl (aP (vs := [_, _]) aC.out (hh.au (i := 1) (n := 2) rfl rfl) rfl) (aO rfl (aP (vs := [_, _]) aC.out (hh.au (i := 0) (n := 2) rfl rfl) rfl) (dP (fm rfl) bA))) ?_
  exact ⟨hh.below, .inl ⟨by rw [hE]; exact h0, by rw [hE]; rfl⟩⟩
end Go.Proofs.YtioilmppidlbnaaGreatDoor
/- The walks through cast.Part's closure. -/
namespace Go.Proofs.YtioilmppidlbnaaGreatDoor
open Go.RowKit
def nX (n : Nat) (h : Int) : Bool := decide (h < 0 ∨ (n : Int) ≤ h.tdiv 2)
theorem pO (h : Int) (A : Option Addr) (n c b : Nat) (w : World) (hp : w.cell? ⟨b, 0, none⟩ = some (.slice A n c)) (h1 : -9223372036854775808 ≤ h) (h2 : h ≤ 9223372036854775807) :
  Calls Tryz.prog 91 #[.int .i64 h, .pointer (some ⟨b, 0, none⟩)] w fun r w' => r = .returned (.bool (nX n h)) ∧ Below w.heap.size w w' := by
 have hh := Hp.start w
 by_cases g : h < 0
 ·refine aj (N := 14) (l := [.int .i64 h, .pointer (some ⟨b, 0, none⟩)]) Tryz.func91 rfl rfl (by simp) ?_
  refine sr (aB (aa (sr (mI ?_))))
  refine aQ (mB ?_)
  first | refine gS ?_ | (refine gT ?_; refine mI ?_) | refine gV ?_
  first | refine gS ?_ | (refine gT ?_; refine fU rfl rfl (by omega) (by omega) (by omega) (by decide) ?_) | refine gV ?_
  first | refine gS ?_ | (refine gT ?_; refine kL ez.out rfl (by decide) ?_) | refine gV ?_
  first | (refine cf (by decide) rfl rfl (by decide) ?_) | (refine wl_guard_skipV (by decide) rfl rfl ?_)
  first | refine gS ?_ | (refine gT ?_; refine a6 ?_) | refine gV ?_
  first | refine gS ?_ | (refine gT ?_; refine de ?_) | refine gV ?_
  first | refine dq ?_ | refine dr ?_
  refine aB (aa (aq ?_))
  refine cC ?_
  exact ⟨by rw [show nX n h = true by unfold nX; rw [decide_eq_true (.inl g)]], hh.below⟩
 ·refine aj (N := 14) (l := [.int .i64 h, .pointer (some ⟨b, 0, none⟩)]) Tryz.func91 rfl rfl (by simp) ?_
  refine sr (aB (aa (sr (mI ?_))))
  refine aQ (mB ?_)
  first | refine gS ?_ | (refine gT ?_; refine mI ?_) | refine gV ?_
  first | refine gS ?_ | (refine gT ?_; refine fU rfl rfl (by omega) (by omega) (by omega) (by decide) ?_) | refine gV ?_
  first | refine gS ?_ | (refine gT ?_; refine kL ez.out rfl (by decide) ?_) | refine gV ?_
  refine a7 rfl rfl ?_
  refine bh aC.out rfl (hp) (by decide) ?_
  first | refine gS ?_ | (refine gT ?_; refine a6 ?_) | refine gV ?_
  first | refine gS ?_ | (refine gT ?_; refine de ?_) | refine gV ?_
  first | refine dq ?_ | refine dr ?_
  refine aB (aa (aq ?_))
  refine cC ?_
  refine ⟨?_, hh.below⟩
  unfold nX
  congr 2
  have e := Int.tdiv_eq_ediv_of_nonneg (a := h) (b := 2) (by omega)
  rw [e]
  simp only [decide_eq_decide]
  omega
theorem jv (H : Option Addr) (m c2 : Nat) (hs : List Int) (A : Option Addr) (n c b : Nat) (w : World) (hS : Sl w H m 1 (bP hs)) (hm : m ≤ 1000000) (hp : w.cell? ⟨b, 0, none⟩ = some (.slice A n c)) (hz : ∀ h ∈ hs, -9223372036854775808 ≤ h ∧ h ≤ 9223372036854775807) :
  Calls Tryz.prog 90 #[.slice H m c2, .func (.func 91) #[] #[.pointer (some ⟨b, 0, none⟩)]] w fun r w' => r = .returned (.bool (hs.any (nX n))) ∧ Below w.heap.size w w' :=
 m6 H m c2 hs 91 [.pointer (some ⟨b, 0, none⟩)] (nX n) w hS hm fun z w1 hz2 hb => pO z A n c b w1 (eM hb hp) (hz z hz2).1 (hz z hz2).2
end Go.Proofs.YtioilmppidlbnaaGreatDoor
/- A pure operation, of several that are ready, may as well come first. Plain lemma, no program in sight. -/
namespace Go.Proofs.YtioilmppidlbnaaGreatDoor
open Go.RowKit
theorem jW {P : Program} {N : Nat} {Q : Kq} {ops : Array Oper} {fuel : Nat} {L : Array Bool} {i d : Nat} {op : Op} {ty : TypeId} {pos : String} {af : Array Edge} {v : Value} {ρ : Rf} {w : World} (hq : NP Q) (hi : ops[i]? = some ⟨some d, op, ty, pos, af, none⟩) (hs : Region.noSelect ops = true) (hf : Region.free .any ops L i = true) (hr : (Region.ready .any ops L).contains i = true)
  (hv : ∀ w, (execOp (ev ρ) ⟨some d, op, ty, pos, af, none⟩).run P w = .ok (.value v) w) (hN : d < N) (h : WA P N ops Q fuel (L.setIfInBounds i true) (cn ρ d v) w) : WA P N ops Q (fuel + 1) L ρ w :=
 ⟨fun a hfit => wpAny_first hi (Region.noSelect_spec hs) (fun c a w ⟨ρ', _, hq'⟩ => (hq c ρ' w hq').elim) fuel L a w (Region.free_spec hi hf) (by simpa using hr) (.inl ⟨by simp [Region.wanted], fun w => by rw [hfit.eval]; exact hv w⟩) (h.out _ (hfit.put hN v))⟩
end Go.Proofs.YtioilmppidlbnaaGreatDoor
/- The walk through cast.Halve. -/
namespace Go.Proofs.YtioilmppidlbnaaGreatDoor
open Go.RowKit
theorem kQ (fx : FX) (ax : Int) (k q : Nat) (w : World) (hT : eN w) (hf : fx.at_ w) (hl : fx.qf k) (hcap : fx.n ≤ fx.a) (hs : Sz q (cz (-1))) (hs1 : Sz q (1 - cz (-1))) (hq : q ≤ 2000) (hk : fx.e = 0 → ∀ d ∈ fx.ns, k + fx.m * (260 + 2 * (q * d)) ≤ 300000) (h0 : dX fx ax ≠ 0) :
  Calls Tryz.prog 40 #[.agg #[.slice fx.A fx.n fx.a, .slice fx.B fx.m fx.b], .int .i64 ax] w fun r w' => Below w.heap.size w w' ∧ r = vR (dX fx ax) := by
 have hh := Hp.start w
 have hof : ∀ w1, eN w1 → Calls Tryz.prog 47 #[.int .i64 1] w1 fun r w' => r = .returned (.agg #[.bool (nR (1 : Dyadic)).neg, .string (nR (1 : Dyadic)).br, .int .i64 (nR (1 : Dyadic)).e]) ∧ Below w1.heap.size w1 w' := fun w1 hT1 => ea 1 w1 hT1 (by decide) (by decide)
 have hsh := fun w1 hT1 => iU (nR (1 : Dyadic)) (-1) w1 hT1 (by have := Sz.one.br; omega) (by decide +kernel) (by decide +kernel) (by decide) (by decide)
 rw [dw, Dyadic.one_mul] at hsh
 have hc : ∀ w1, eN w1 → Below w.heap.size w w1 → Calls Tryz.prog 38 #[.agg #[.slice fx.A fx.n fx.a, .slice fx.B fx.m fx.b], .int .i64 ax, .agg #[.bool (nR (cz (-1))).neg, .string (nR (cz (-1))).br, .int .i64 (nR (cz (-1))).e]] w1 fun r w' => r = vR (dX fx ax) ∧ Below w1.heap.size w1 w' := fun w1 hT1 hb => (iW fx ax (nR (cz (-1))) (cz (-1)) k q w1 hT1 (hf.ext hb) hl hcap (ke.of hs hq) hs1 hq hk).mono fun r w' ⟨h1, h2⟩ => by
  rcases h2 with ⟨_, h2⟩ | ⟨h2, _⟩
  ·exact ⟨h2, h1⟩
  ·exact absurd h2 h0
 refine aj (N := 15) (l := [.agg #[.slice fx.A fx.n fx.a, .slice fx.B fx.m fx.b], .int .i64 ax]) Tryz.func40 rfl rfl (by simp) ?_
 refine sr ?_
 refine cW hh [_,_] ?_
 intro b2 w2 hh
 refine bY hh ?_
 intro b4 w4 hh
 refine bY hh ?_
 intro b5 w5 hh
 refine aI (aa (ah ?_))
 refine oD [] [0, 0, 0, 4, 15, 31, 31, 31, 255, 511, 1023] 4 [[(2, none)], [(1, none)], [], [(9, some 2)]] [(3, 10), (2, 9), (1, 8), (0, 7)] [([], 6, [(3, 10), (2, 9), (1, 8), (0, 7)])] hh mixed (by kernel_rfl) (by kernel_rfl) (by decide) ?_
 refine fB 2 [_,_] ?_
 refine ee ?_
 refine dC (fun _ hj => hof _ (hT.hp hj.hp)) ?_
 refine dC (fun _ hj => hsh _ (hT.hp hj.hp)) ?_
 refine bj ?_
 intro p_ hp_
 simp only [List.mem_cons, List.not_mem_nil, or_false] at hp_
 rcases hp_ with rfl
 ·intro f W hJ hV
  have hb_1 := hJ.bl
  obtain ⟨v10, v9, v8, v7, _⟩ := hV
  simp only [j6]
  have e7 : f 0 = _ := v7
  rw [e7]
  have e8 : f 1 = _ := v8
  rw [e8]
  have e9 : f 2 = _ := v9
  rw [e9]
  have e10 : f 3 = _ := v10
  rw [e10]
  replace hh := hJ.hp
  clear e7 e8 e9 e10 hJ
  refine aJ (hc _ (hT.hp hh) hh.below) ar.out rfl (by decide) ?_; rintro e_ w11 ⟨rfl, hb_⟩; refine ⟨_, rfl, ?_⟩; replace hh := hh.ext hb_
  refine ed ?_
  refine jW (i := 5) (by repeat (first | exact im | refine gg ?_ | refine iu ?_)) rfl (by kernel_rfl) (by kernel_rfl) (by kernel_rfl) (fun _ => fA (show _ = Value.tuple (List.toArray _) from rfl) rfl) (by decide) ?_
  refine jW (i := 6) (by repeat (first | exact im | refine gg ?_ | refine iu ?_)) rfl (by kernel_rfl) (by kernel_rfl) (by kernel_rfl) (fun _ => fA (show _ = Value.tuple (List.toArray _) from rfl) rfl) (by decide) ?_
  refine jW (i := 7) (by repeat (first | exact im | refine gg ?_ | refine iu ?_)) rfl (by kernel_rfl) (by kernel_rfl) (by kernel_rfl) (fun _ => fA (show _ = Value.tuple (List.toArray _) from rfl) rfl) (by decide) ?_
  refine fF 8 (by decide) (by kernel_rfl) (by decide) (by kernel_rfl) (by kernel_rfl) ?_
  refine bK hh 1 [_,_] ?_
  intro ws hh
  replace hh : Hp _ (_ :: .blk _ _ [_, _] _ :: _) _ := hh
  refine bK hh 0 [_,_] ?_
  intro ws hh
  replace hh : Hp _ (.blk _ _ [_, _] _ :: _) _ := hh
  refine aI (aa (aq ?_))
  refine tm (aO rfl (aP (vs := [_, _]) aC.out (hh.au (i := 1) (n := 2) rfl rfl) rfl) (aO rfl (aP (vs := [_, _]) aC.out (hh.au (i := 0) (n := 2) rfl rfl) rfl) (dP (fm rfl) bA))) ?_
  exact ⟨hh.below, rfl⟩
theorem oF (fx : FX) (ax : Int) (k q : Nat) (w : World) (hT : eN w) (hf : fx.at_ w) (hl : fx.qf k) (hcap : fx.n ≤ fx.a) (hs : Sz q (cz (-1))) (hs1 : Sz q (1 - cz (-1))) (hq : q ≤ 2000) (hk : fx.e = 0 → ∀ d ∈ fx.ns, k + fx.m * (260 + 2 * (q * d)) ≤ 300000) (h0 : dX fx ax = 0) :
  Calls Tryz.prog 40 #[.agg #[.slice fx.A fx.n fx.a, .slice fx.B fx.m fx.b], .int .i64 ax] w fun r w' => ∃ A1 a1 B1 b1 A2 a2 B2 b2, r = .returned (.tuple #[.agg #[.slice A1 fx.n a1, .slice B1 fx.m b1], .agg #[.slice A2 fx.n a2, .slice B2 fx.m b2], .int .i64 0]) ∧ Hp w [.row B2 fx.m b2 39 3 (a9 NR.cells ((eI true (cz (-1)) fx.ns ax.toNat (fx.cs.map NR.d)).map nR)), .row A2 fx.n a2 3 1 (bP fx.ds), .row A1 fx.n a1 3 1 (bP fx.ds), .row B1 fx.m b1 39 3 (a9 NR.cells ((eI false (cz (-1)) fx.ns ax.toNat (fx.cs.map NR.d)).map nR))] w' := by
 have hh := Hp.start w
 have hof : ∀ w1, eN w1 → Calls Tryz.prog 47 #[.int .i64 1] w1 fun r w' => r = .returned (.agg #[.bool (nR (1 : Dyadic)).neg, .string (nR (1 : Dyadic)).br, .int .i64 (nR (1 : Dyadic)).e]) ∧ Below w1.heap.size w1 w' := fun w1 hT1 => ea 1 w1 hT1 (by decide) (by decide)
 have hsh := fun w1 hT1 => iU (nR (1 : Dyadic)) (-1) w1 hT1 (by have := Sz.one.br; omega) (by decide +kernel) (by decide +kernel) (by decide) (by decide)
 rw [dw, Dyadic.one_mul] at hsh
 have hc : ∀ w1, eN w1 → Below w.heap.size w w1 → Calls Tryz.prog 38 #[.agg #[.slice fx.A fx.n fx.a, .slice fx.B fx.m fx.b], .int .i64 ax, .agg #[.bool (nR (cz (-1))).neg, .string (nR (cz (-1))).br, .int .i64 (nR (cz (-1))).e]] w1 fun r w' => ∃ A1 a1 B1 b1 A2 a2 B2 b2, r = .returned (.tuple #[.agg #[.slice A1 fx.n a1, .slice B1 fx.m b1], .agg #[.slice A2 fx.n a2, .slice B2 fx.m b2], .int .i64 0]) ∧ Hp w1 [.row B2 fx.m b2 39 3 (a9 NR.cells ((eI true (cz (-1)) fx.ns ax.toNat (fx.cs.map NR.d)).map nR)), .row A2 fx.n a2 3 1 (bP fx.ds), .row A1 fx.n a1 3 1 (bP fx.ds), .row B1 fx.m b1 39 3 (a9 NR.cells ((eI false (cz (-1)) fx.ns ax.toNat (fx.cs.map NR.d)).map nR))] w' := fun w1 hT1 hb => (iW fx ax (nR (cz (-1))) (cz (-1)) k q w1 hT1 (hf.ext hb) hl hcap (ke.of hs hq) hs1 hq hk).mono fun r w' ⟨h1, h2⟩ => by
  rcases h2 with ⟨h2, _⟩ | ⟨_, h2⟩
  ·exact absurd h0 h2
  ·exact h2
 refine aj (N := 15) (l := [.agg #[.slice fx.A fx.n fx.a, .slice fx.B fx.m fx.b], .int .i64 ax]) Tryz.func40 rfl rfl (by simp) ?_
 refine sr ?_
 refine cW hh [_,_] ?_
 intro b2 w2 hh
 refine bY hh ?_
 intro b4 w4 hh
 refine bY hh ?_
 intro b5 w5 hh
 refine aI (aa (ah ?_))
 refine oD [] [0, 0, 0, 4, 15, 31, 31, 31, 255, 511, 1023] 4 [[(2, none)], [(1, none)], [], [(9, some 2)]] [(3, 10), (2, 9), (1, 8), (0, 7)] [([], 6, [(3, 10), (2, 9), (1, 8), (0, 7)])] hh mixed (by kernel_rfl) (by kernel_rfl) (by decide) ?_
 refine fB 2 [_,_] ?_
 refine ee ?_
 refine dC (fun _ hj => hof _ (hT.hp hj.hp)) ?_
 refine dC (fun _ hj => hsh _ (hT.hp hj.hp)) ?_
 refine bj ?_
 intro p_ hp_
 simp only [List.mem_cons, List.not_mem_nil, or_false] at hp_
 rcases hp_ with rfl
 ·intro f W hJ hV
  have hb_1 := hJ.bl
  obtain ⟨v10, v9, v8, v7, _⟩ := hV
  simp only [j6]
  have e7 : f 0 = _ := v7
  rw [e7]
  have e8 : f 1 = _ := v8
  rw [e8]
  have e9 : f 2 = _ := v9
  rw [e9]
  have e10 : f 3 = _ := v10
  rw [e10]
  replace hh := hJ.hp
  clear e7 e8 e9 e10 hJ
  refine aJ (hc _ (hT.hp hh) hh.below) ar.out rfl (by decide) ?_; rintro e_ w11 ⟨A1, a1, B1, b1, A2, a2, B2, b2', rfl, h2⟩; refine ⟨_, rfl, ?_⟩; replace hh := hh.join h2; simp only [List.cons_append, List.nil_append] at hh
  refine ed ?_
  refine jW (i := 5) (by repeat (first | exact im | refine gg ?_ | refine iu ?_)) rfl (by kernel_rfl) (by kernel_rfl) (by kernel_rfl) (fun _ => fA (show _ = Value.tuple (List.toArray _) from rfl) rfl) (by decide) ?_
  refine jW (i := 6) (by repeat (first | exact im | refine gg ?_ | refine iu ?_)) rfl (by kernel_rfl) (by kernel_rfl) (by kernel_rfl) (fun _ => fA (show _ = Value.tuple (List.toArray _) from rfl) rfl) (by decide) ?_
  refine jW (i := 7) (by repeat (first | exact im | refine gg ?_ | refine iu ?_)) rfl (by kernel_rfl) (by kernel_rfl) (by kernel_rfl) (fun _ => fA (show _ = Value.tuple (List.toArray _) from rfl) rfl) (by decide) ?_
  refine fF 8 (by decide) (by kernel_rfl) (by decide) (by kernel_rfl) (by kernel_rfl) ?_
  refine bK hh 5 [_,_] ?_
  intro ws hh
  replace hh : Hp _ (_ :: _ :: _ :: _ :: _ :: .blk _ _ [_, _] _ :: _) _ := hh
  refine bK hh 4 [_,_] ?_
  intro ws hh
  replace hh : Hp _ (_ :: _ :: _ :: _ :: .blk _ _ [_, _] _ :: _) _ := hh
  refine aI (aa (aq ?_))
  refine tm (aO rfl (aP (vs := [_, _]) aC.out (hh.au (i := 5) (n := 2) rfl rfl) rfl) (aO rfl (aP (vs := [_, _]) aC.out (hh.au (i := 4) (n := 2) rfl rfl) rfl) (dP (fm rfl) bA))) ?_
  replace hh := hh.sub (List.Sublist.cons_cons _ (List.Sublist.cons_cons _ (List.Sublist.cons_cons _ (List.Sublist.cons_cons _ (List.Sublist.cons _ (List.Sublist.cons _ (List.Sublist.cons _ List.Sublist.slnil)))))))
  exact ⟨_, _, _, _, _, _, _, _, rfl, hh⟩
end Go.Proofs.YtioilmppidlbnaaGreatDoor
/- Plain laws: how large the numbers of a changed form are; a form in parts. No program in sight. -/
namespace Go.Proofs.YtioilmppidlbnaaGreatDoor
theorem qK {A : List Nat} {d : Nat} {B : List Nat} {M : Nat → Nat → Dyadic} {xs : List Dyadic} {k G : Nat} (hl : xs.length = aw (A ++ d :: B)) (hx : ∀ x ∈ xs, Sz k x)
  (hg : ∀ ls : List Dyadic, ls.length = d + 1 → (∀ x ∈ ls, Sz k x) → ∀ x ∈ dA d M ls, Sz (k + G) x) : ∀ x ∈ dh (A ++ d :: B) A.length M xs, Sz (k + G) x := fun x hx2 => by
 obtain ⟨p, hp⟩ := List.mem_iff_getElem?.1 hx2
 have hpl := (List.getElem?_eq_some_iff.1 hp).1
 rw [iS] at hpl
 obtain ⟨f, j, q, hf, hj, hq, rfl⟩ := kE (A := A) (d := d) (B := B) (p := p) (by omega)
 rw [iw M xs hf hj hq] at hp
 have hp := Option.some.inj hp
 have hll : (dH A d xs f q).length = d + 1 := by simp [dH]
 refine hg (dH A d xs f q) hll (fun y hy => ?_) x (List.mem_of_getElem? (i := j) ?_)
 ·obtain ⟨i, _, rfl⟩ := List.mem_map.1 hy
  exact kj hx _
 ·rw [lz hj, ← hp]
  congr 1
  refine bR fun i hi => ?_
  have hi := List.mem_range.1 hi
  congr 1
  show ((dH A d xs f q)[i]?).getD 0 = _
  unfold dH
  rw [List.getElem?_map, List.getElem?_range hi]
  rfl
theorem kH (up : Bool) (s : Dyadic) (ns : List Nat) (a : Nat) (xs : List Dyadic) : (eI up s ns a xs).length = aw ns := by
 unfold eI
 rw [iS, eY]
theorem qc {up : Bool} {s : Dyadic} {ns : List Nat} {a k q D : Nat} {xs : List Dyadic} (ha : a < ns.length) (hd : ∀ d ∈ ns, d ≤ D) (hD : D ≤ 127) (hl : xs.length = aw ns) (hs : Sz q s) (hs1 : Sz q (1 - s)) (hx : ∀ x ∈ xs, Sz k x) : ∀ x ∈ eI up s ns a xs, Sz (k + (260 + 2 * (q * D))) x := fun x h => by
 obtain ⟨pre, dd, suf, hns, hap, hgd, hsl⟩ := ki ha
 have hdD : dd ≤ D := hd dd (by rw [hns]; exact List.mem_append_right _ List.mem_cons_self)
 have hqd : q * dd ≤ q * D := Nat.mul_le_mul_left _ hdD
 have hr : ns.reverse = suf.reverse ++ dd :: pre.reverse := by rw [hns, List.reverse_append, List.reverse_cons, List.append_assoc]; rfl
 have hxl : xs.length = aw (suf.reverse ++ dd :: pre.reverse) := by rw [← hr, eY, hl]
 unfold eI at h
 have er : suf.reverse.length = suf.length := List.length_reverse
 rw [hsl, hgd, hr, ← er] at h
 cases up with
 | true => exact (qK hxl hx (fun ls h1 h2 => wM (by omega) hs hs1 ls k h1 h2) x h).mono (by omega)
 | false => exact (qK hxl hx (fun ls _ h2 => vJ (by omega) hs hs1 ls k h2) x h).mono (by omega)
def uD (ns : List Nat) (xs : List Dyadic) (h : Int) : List Dyadic := eI (decide (h % 2 = 1)) (cz (-1)) ns (h / 2).toNat xs
def jd (ns : List Nat) (xs : List Dyadic) (hs : List Int) : List Dyadic := hs.foldl (uD ns) xs
theorem nS (ns : List Nat) (xs : List Dyadic) (hs : List Int) (h : Int) : jd ns xs (hs ++ [h]) = uD ns (jd ns xs hs) h := by
 unfold jd
 rw [List.foldl_append]
 rfl
theorem uP {ns : List Nat} {xs : List Dyadic} (hl : xs.length = aw ns) (hs : List Int) : (jd ns xs hs).length = aw ns := by
 rcases List.eq_nil_or_concat hs with rfl | ⟨l, h, rfl⟩
 ·exact hl
 ·rw [List.concat_eq_append, nS]
  exact kH _ _ _ _ _
theorem rJ {ns : List Nat} {q D : Nat} (hd : ∀ d ∈ ns, d ≤ D) (hD : D ≤ 127) (hs : Sz q (cz (-1))) (hs1 : Sz q (1 - cz (-1))) : ∀ (l : List Int) (k : Nat) (xs : List Dyadic), (∀ h ∈ l, 0 ≤ h ∧ h / 2 < ns.length) → xs.length = aw ns → (∀ x ∈ xs, Sz k x) → ∀ x ∈ jd ns xs l, Sz (k + l.length * (260 + 2 * (q * D))) x
 | [], k, xs, _, _, hx, x, h => by
  rw [List.length_nil, Nat.zero_mul, Nat.add_zero]
  exact hx x h
 | h :: l, k, xs, hv, hl, hx, x, hm => by
  have hh := hv h List.mem_cons_self
  have h1 := qc (up := decide (h % 2 = 1)) (a := (h / 2).toNat) (by omega) hd hD hl hs hs1 hx
  have h2 := rJ hd hD hs hs1 l (k + (260 + 2 * (q * D))) (uD ns xs h) (fun y hy => hv y (List.mem_cons_of_mem _ hy)) (kH _ _ _ _ _) h1 x hm
  refine h2.mono ?_
  rw [List.length_cons, Nat.add_mul l.length 1, Nat.one_mul]
  omega
end Go.Proofs.YtioilmppidlbnaaGreatDoor
/- The walk through ogeeref13.share, and Half. -/
namespace Go.Proofs.YtioilmppidlbnaaGreatDoor
open Go.RowKit
def Cg (up : Bool) (d : Nat) (s : Dyadic) : Nat → Nat → Dyadic := if up then j5 d s else j4 d s
end Go.Proofs.YtioilmppidlbnaaGreatDoor
/- The walk through ogeeref13.part. -/
namespace Go.Proofs.YtioilmppidlbnaaGreatDoor
open Go.RowKit
def Cm (ns rr : List Nat) (a : Nat) (xs : List Dyadic) (M : Nat → Nat → Dyadic) (r i : Nat) : Dyadic := sm (List.range i) fun j => co ns.reverse xs (rr.set a j) * M j r
end Go.Proofs.YtioilmppidlbnaaGreatDoor
/- The walk through cast.Part. -/
namespace Go.Proofs.YtioilmppidlbnaaGreatDoor
open Go.RowKit
def gD (fx : FX) (hs : List Int) : Int := if fx.e ≠ 0 then fx.e else if hs.any (nX fx.n) = true then 1 else 0
theorem uI (fx : FX) (L : Option Addr) (m2 c2 : Nat) (hs : List Int) (k : Nat) (w : World) (hT : eN w) (hf : fx.at_ w) (hl : fx.qf k) (hS : Sl w L m2 1 (bP hs)) (hm2 : m2 ≤ 1000000) (hz : ∀ h ∈ hs, -9223372036854775808 ≤ h ∧ h ≤ 9223372036854775807) (hE : gD fx hs ≠ 0) :
  Calls Tryz.prog 42 #[.agg #[.slice fx.A fx.n fx.a, .slice fx.B fx.m fx.b], .slice L m2 c2] w fun r w' => r = A5 (gD fx hs) ∧ Below w.heap.size w w' := by
 have hh := Hp.start w
 have hck := fun w1 hT1 hb => lu fx k w1 hT1 (hf.ext hb) hl
 by_cases h0 : fx.e = 0
 ·by_cases h1 : hs.any (nX fx.n) = true
  ·have hE2 : gD fx hs = 1 := by unfold gD; rw [if_neg (by omega), if_pos h1]
   refine aj (N := 51) (l := [.agg #[.slice fx.A fx.n fx.a, .slice fx.B fx.m fx.b], .slice L m2 c2]) Tryz.func42 rfl rfl (by simp) ?_
   refine sr ?_
   refine cW hh [_,_] ?_
   intro b2 w2 hh
   refine bY hh ?_
   intro b4 w4 hh
   refine aI (aa (ah (sr ?_)))
   refine cD hh 1 [_,_] ?_
   refine bF hh (hck _ (hT.hp hh) hh.below) rfl ?_
   intro w14 hh
   refine aI (aa (sr (mI ?_)))
   refine dR (aa (cF (al (ai (ah (sr (mL ?_)))))))
   refine iV rfl (aE (lZ rfl) bz) (by decide) ?_
   have hany := fun b w1 hb hp => jv L m2 c2 hs fx.A fx.n fx.a b w1 (hS.ext hb) hm2 hp hz
   rw [h1] at hany
   refine bF hh (hany _ _ hh.below (hh.cM (i := 1) (o := 0) rfl rfl)) rfl ?_
   intro w21 hh
   refine aa (cT (sr ?_))
   refine fS [_,_] ?_
   refine bK hh 0 [_,_] ?_
   intro ws hh
   replace hh : Hp _ (.blk _ _ [_, _] _ :: _) _ := hh
   refine aI (aa (aq (a8 ?_)))
   refine AH (aO rfl (aP (vs := [_, _]) aC.out (hh.au (i := 0) (n := 2) rfl rfl) rfl) (dP (fm rfl) bA)) ?_
   exact ⟨by rw [hE2]; rfl, hh.below⟩
  ·exact absurd (by unfold gD; rw [if_neg (by omega), if_neg h1]) hE
 ·have hE2 : gD fx hs = fx.e := by unfold gD; rw [if_pos h0]
  refine aj (N := 51) (l := [.agg #[.slice fx.A fx.n fx.a, .slice fx.B fx.m fx.b], .slice L m2 c2]) Tryz.func42 rfl rfl (by simp) ?_
  refine sr ?_
  refine cW hh [_,_] ?_
  intro b2 w2 hh
  refine bY hh ?_
  intro b4 w4 hh
  refine aI (aa (ah (sr ?_)))
  refine cD hh 1 [_,_] ?_
  refine bF hh (hck _ (hT.hp hh) hh.below) rfl ?_
  intro w14 hh
  refine aI (aa (sr (mI ?_)))
  refine dR (aa (cT (sr ?_)))
  refine fS [_,_] (mI ?_)
  refine bK hh 0 [_,_] ?_
  intro ws hh
  replace hh : Hp _ (.blk _ _ [_, _] _ :: _) _ := hh
  refine aI (aa (aq (a8 ?_)))
  refine AH (aO rfl (aP (vs := [_, _]) aC.out (hh.au (i := 0) (n := 2) rfl rfl) rfl) (dP (fm rfl) bA)) ?_
  exact ⟨by rw [hE2]; rfl, hh.below⟩
end Go.Proofs.YtioilmppidlbnaaGreatDoor
/- The last bit of a number. Plain lemma, no program in sight. -/
namespace Go.Proofs.YtioilmppidlbnaaGreatDoor
open Go.RowKit
section
variable {P : Program} {N : Nat} {ops : Array Oper} {Q : Kq} {ρ : Rf} {w : World} {rest : List Oper} {d ty : Nat} {pos : String} {af : Array Edge}
theorem Bm (a : Int) : IntKind.i64.wrap (BitVec.ofInt IntKind.i64.bits a &&& BitVec.ofInt IntKind.i64.bits 1).toNat = a % 2 := by
 have h1 : (BitVec.ofInt IntKind.i64.bits a &&& BitVec.ofInt IntKind.i64.bits 1).toNat = (a % 2).toNat := by
  show (BitVec.ofInt 64 a &&& BitVec.ofInt 64 1).toNat = _
  rw [BitVec.toNat_and, show (BitVec.ofInt 64 1).toNat = 2 ^ 1 - 1 by decide, Nat.and_two_pow_sub_one_eq_mod, BitVec.toNat_ofInt]
  omega
 rw [h1, g6 (by omega) (by omega)]
 omega
theorem vC {t u : Nat} {x y : Operand} {a : Int} (hx : ev ρ x = .int .i64 a) (hy : ev ρ y = .int .i64 1) (hN : d < N) (kk : WL .plain P N ops Q rest (cn ρ d (.int .i64 (a % 2))) w) : WL .plain P N ops Q (⟨some d, .binOp .and t x y u, ty, pos, af, none⟩ :: rest) ρ w :=
 aW rfl rfl hN (by rw [y8 hx hy, Bm]) kk
end
end Go.Proofs.YtioilmppidlbnaaGreatDoor
/- The walk through cast.Part, the good ending. -/
namespace Go.Proofs.YtioilmppidlbnaaGreatDoor
open Go.RowKit
theorem wm (fx : FX) (L : Option Addr) (m2 c2 : Nat) (hs : List Int) (k q D : Nat) (w : World) (hT : eN w) (hf : fx.at_ w) (hl : fx.qf k) (hcap : fx.n ≤ fx.a) (hS : Sl w L m2 1 (bP hs)) (hm2 : m2 ≤ 1000000) (hz : ∀ h ∈ hs, -9223372036854775808 ≤ h ∧ h ≤ 9223372036854775807) (hE : gD fx hs = 0)
  (h2s : Sz q (cz (-1))) (h2t : Sz q (1 - cz (-1))) (hq : q ≤ 2000) (hdD : ∀ d ∈ fx.ns, d ≤ D) (hD : D ≤ 127) (hk : k + m2 * (260 + 2 * (q * D)) + fx.m * (260 + 2 * (q * D)) ≤ 300000) :
  Calls Tryz.prog 42 #[.agg #[.slice fx.A fx.n fx.a, .slice fx.B fx.m fx.b], .slice L m2 c2] w fun r w' => ∃ A a B b, r = .returned (.tuple #[.agg #[.slice A fx.n a, .slice B fx.m b], .int .i64 0]) ∧ Hp w [.row B fx.m b 39 3 (a9 NR.cells ((jd fx.ns (fx.cs.map NR.d) hs).map nR)), .row A fx.n a 3 1 (bP fx.ds)] w' := by
 have hh := Hp.start w
 have hck := fun w1 hT1 hb => lu fx k w1 hT1 (hf.ext hb) hl
 have hn20 := hl.z8
 have hm60 := hl.Ak
 have h0 : fx.e = 0 := by
  refine Classical.byContradiction fun h => ?_
  unfold gD at hE
  rw [if_pos h] at hE
  exact h hE
 have h1 : hs.any (nX fx.n) = false := by
  cases h : hs.any (nX fx.n) with
  | false => rfl
  | true => unfold gD at hE; rw [if_neg (by omega), if_pos h] at hE; exact absurd hE (by decide)
 refine aj (N := 51) (l := [.agg #[.slice fx.A fx.n fx.a, .slice fx.B fx.m fx.b], .slice L m2 c2]) Tryz.func42 rfl rfl (by simp) ?_
 refine sr ?_
 refine cW hh [_,_] ?_
 intro b2 w2 hh
 refine bY hh ?_
 intro b4 w4 hh
 refine aI (aa (ah (sr ?_)))
 refine cD hh 1 [_,_] ?_
 refine bF hh (hck _ (hT.hp hh) hh.below) rfl ?_
 intro w14 hh
 refine aI (aa (sr (mI ?_)))
 refine dR (aa (cF (al (ai (ah (sr (mL ?_)))))))
 refine iV rfl (aE (lZ rfl) bz) (by decide) ?_
 have hany := fun b w1 hb hp => jv L m2 c2 hs fx.A fx.n fx.a b w1 (hS.ext hb) hm2 hp hz
 rw [h1] at hany
 refine bF hh (hany _ _ hh.below (hh.cM (i := 1) (o := 0) rfl rfl)) rfl ?_
 intro w21 hh
 refine aa (cF (al (ai (ah ?_))))
 refine aN 8 [[(2, none)], [(23, some 0)], [(24, some 1)], [(2, none)], [(26, some 3)], [(27, some 4)], [(25, some 2), (28, some 5)], []] [(7, 7), (6, 29), (5, 28), (4, 27), (3, 26), (2, 25), (1, 24), (0, 23)] hh mixed (by kernel_rfl) ?_
 refine eZ ?_
 refine fZ 1 ?_
 refine bJ (i := 2) (mV hh.sz 3 fx.n 1 (bP fx.ds)) (mV.ext) ?_ ?_
 ·intro ρ1 w1 hj hR
  exact bQ rfl (bE ar.out (aE (show ρ1 24 = Value.slice _ _ _ from hR.1) bz)) (gI fx.A fx.n fx.a _ w1 (hf.dg.ext hj.hp.below) (by omega)) (fun _ _ ⟨A, c, hq, ho, hb⟩ => ⟨_, hq, hb, A, c, rfl, fk ho hj.bl.size⟩)
 refine eZ ?_
 refine fZ 1 ?_
 refine bJ (i := 5) (mV hh.sz 39 fx.m 3 (a9 NR.cells fx.cs)) (mV.ext) ?_ ?_
 ·intro ρ1 w1 hj hR
  exact bQ rfl (bE ar.out (aE (show ρ1 27 = Value.slice _ _ _ from hR.1) bz)) (iX fx.B fx.m fx.b _ w1 (hf.nm.ext hj.hp.below) (by omega)) (fun _ _ ⟨A, c, hq, ho, hb⟩ => ⟨_, hq, hb, A, c, rfl, fk ho hj.bl.size⟩)
 refine bJ (i := 6) (lA hh.sz 3 39 fx.n 1 fx.m 3 (bP fx.ds) (a9 NR.cells fx.cs)) (lA.ext) ?_ ?_
 ·intro ρ1 w1 hj hR
  exact let ⟨A, c, e1, o1⟩ := hR.1; let ⟨B, k, e2, o2⟩ := hR.2.1; gy rfl (mP (cs := [_, _]) aC.out iH.out (aK e1 (aK e2 bL)) rfl) ⟨Below.refl _ _, A, c, B, k, rfl, o1, o2⟩
 refine bJ (i := 7) (cK _ 28 _) cK.ext (fun ρ1 w1 hj hR => gu aC.out hj.bl (fun v w2 h hb => ⟨hb, h⟩)) ?_
 refine bj ?_
 intro f W hJ hV
 have hb_6 := hJ.bl
 obtain ⟨v7, v29, v28, v27, v26, v25, v24, v23, _⟩ := hV
 obtain ⟨g25, u25, e25, -⟩ := v25
 obtain ⟨g28, u28, e28, -⟩ := v28
 obtain ⟨A29, c29, B29, k29, e29, o29, p29⟩ := v29
 obtain ⟨b7, e7, hl7, hc7⟩ : cK _ _ _ (f 7) W := v7
 replace hh := JJ.nw hJ hh hl7 hc7 o29 p29 (by decide) (by decide) (by decide)
 refine aY (bm (ae e7 (ae e29 (ae e28 (ae v27 (ae v26 (ae e25 (ae v24 (ae v23 aX))))))))) ?_
 dsimp only [ct]
 clear e25 e28 e29 e7 hJ
 refine bK hh 0 [_,_] ?_
 intro ws hh
 replace hh : Hp _ (.blk _ _ [_, _] _ :: _) _ := hh
 refine aa (ah (sr (mL (a6 (mI (aa (ao ?_)))))))
 obtain ⟨hdeg, hnum, h12, hlow, hcnt, hmax⟩ := FX.fv h0
 have hln : fx.ds.length = fx.n := by have := hf.dg.1; simpa [bP] using this
 have hlm := hf.nm.eb NR.len (by decide)
 have hnl : fx.ns.length = fx.n := by unfold FX.ns; rw [List.length_map]; exact hln
 have hl2 : hs.length = m2 := by have := hS.1; simpa [bP] using this
 have hxl : (fx.cs.map NR.d).length = aw fx.ns := by rw [List.length_map, hcnt]
 have hxz : ∀ x ∈ fx.cs.map NR.d, Sz k x := fun x h => by
  obtain ⟨c, hc, rfl⟩ := List.mem_map.1 h
  exact (hl.num c hc).2
 have hgood : ∀ h ∈ hs, 0 ≤ h ∧ h / 2 < fx.ns.length := fun h hm => by
  have h4 := List.any_eq_false.1 h1 h hm
  unfold nX at h4
  rw [decide_eq_true_iff] at h4
  have h3 : 0 ≤ h := by omega
  rw [Int.tdiv_eq_ediv_of_nonneg h3] at h4
  omega
 have hqD : q * D ≤ 2000 * 127 := Nat.mul_le_mul hq hD
 clear hany hck
 rw [show a9 NR.cells fx.cs = a9 NR.cells ((jd fx.ns (fx.cs.map NR.d) (hs.take 0)).map nR) by rw [show jd fx.ns (fx.cs.map NR.d) (hs.take 0) = fx.cs.map NR.d from rfl, ← hnum]] at hh
 refine bD [9, 10, 11, 12, 32, 33, 34, 35, 36, 37, 38, 39, 40, 41, 42, 43, 44, 45, 46, 47, 48, 49] 32
  (fun v w' => ∃ (i a b : Nat) (A B : Option Addr), i ≤ m2 ∧ v = .int .i64 i ∧ Hp w [.blk b7 28 [.slice A fx.n a, .slice B fx.m b] (0, 0), .row A fx.n a 3 1 (bP fx.ds), .row B fx.m b 39 3 (a9 NR.cells ((jd fx.ns (fx.cs.map NR.d) (hs.take i)).map nR)), .blk b4 28 [.slice none 0 0, .slice none 0 0] (0, 0), .blk b2 28 [.slice fx.A fx.n fx.a, .slice fx.B fx.m fx.b] (0, 0)] w')
  (fun v _ => m2 - (intOf v).toNat) ?_ ?_
 ·exact ⟨0, _, _, _, _, Nat.zero_le _, rfl, hh⟩
 ·clear hh
  rintro ρ' v w' ⟨i, a, b, A, B, hi, rfl, hh⟩
  by_cases hlt : i < m2
  ·obtain ⟨h, hh1⟩ := aU (l := hs) (k := i) (by omega)
   have hgi := ep hh1
   have hmem := List.mem_of_getElem? hh1
   obtain ⟨g0, g1⟩ := hgood h hmem
   obtain ⟨z0, z1⟩ := hz h hmem
   obtain ⟨ad, rfl, hr⟩ := hS.at_ (by omega)
   have hcap7 := hh.g9 (i := 1) rfl
   have htl : (hs.take i).length = i := by rw [List.length_take]; omega
   have hys := rJ hdD hD h2s h2t (hs.take i) k _ (fun y hy => hgood y (List.mem_of_mem_take hy)) hxl hxz
   have hyl := uP (ns := fx.ns) hxl (hs.take i)
   have hsn := nS fx.ns (fx.cs.map NR.d) (hs.take i) h
   rw [← bo hh1] at hsn
   rw [htl] at hys
   generalize jd fx.ns (fx.cs.map NR.d) (hs.take i) = ys at *
   have hback : (ys.map nR).map NR.d = ys := by rw [List.map_map]; exact (List.map_congr_left fun x _ => dw x).trans (List.map_id ys)
   have hiK : i * (260 + 2 * (q * D)) ≤ m2 * (260 + 2 * (q * D)) := Nat.mul_le_mul_right _ hi
   have hlim : (⟨A, fx.n, a, B, fx.m, b, fx.ds, ys.map nR⟩ : FX).qf (k + i * (260 + 2 * (q * D))) := ⟨hl.z8, hl.Ak, fun c hc => by
    obtain ⟨y, hy, rfl⟩ := List.mem_map.1 hc
    have := hys y hy
    exact ⟨this.ok (by omega), by rw [dw]; exact this⟩⟩
   have hcut : dX ⟨A, fx.n, a, B, fx.m, b, fx.ds, ys.map nR⟩ (h / 2) = 0 := by
    have e1 : (⟨A, fx.n, a, B, fx.m, b, fx.ds, ys.map nR⟩ : FX).e = 0 := FV.ok (xs := ys) ⟨hdeg, rfl, h12, hlow, hyl, hmax⟩
    unfold dX
    rw [if_neg (fun e => e e1), if_neg (by show ¬(h / 2 < 0 ∨ (fx.n : Int) ≤ h / 2); omega)]
   have hkk : ∀ d ∈ fx.ns, k + i * (260 + 2 * (q * D)) + fx.m * (260 + 2 * (q * d)) ≤ 300000 := fun d hd => by
    have h5 := Nat.mul_le_mul_left q (hdD d hd)
    have h6 := Nat.mul_le_mul_left fx.m (show 260 + 2 * (q * d) ≤ 260 + 2 * (q * D) by omega)
    omega
   have hcall := fun w1 hT1 hA hB => oF ⟨A, fx.n, a, B, fx.m, b, fx.ds, ys.map nR⟩ (h / 2) (k + i * (260 + 2 * (q * D))) q w1 hT1 ⟨hA, hB⟩ hlim hcap7 h2s h2t hq (fun _ => hkk) hcut
   simp only [hback] at hcall
   unfold uD at hsn
   clear hys hlim hcut hkk
   by_cases hp : h % 2 = 1
   ·rw [decide_eq_true hp] at hsn
    refine sr ?_
    refine aQ (aa (ah (cT (al (ai (ah (ao (sr ?_))))))))
    refine aT (k := i) aG.out aC.size rfl rfl (by omega) (by omega) (by decide) ?_
    refine bh aC.out rfl ((hr.ext hh.below).gU (by assumption)) (by decide) ?_
    refine aI (aa (sr ?_))
    refine cD hh 0 [_,_] (mI ?_)
    refine fU rfl rfl (by omega) (by omega) (by omega) (by decide) ?_
    refine aJ (hcall _ (hT.hp hh) (hh.aR (i := 1) rfl) (hh.aR (i := 2) rfl)) ar.out rfl (by decide) ?_
    rintro e_ w40 ⟨A1, a1, B1, b1, A2, a2, B2, b2', rfl, h2⟩
    refine ⟨_, rfl, ?_⟩
    replace hh := hh.join h2
    simp only [List.cons_append, List.nil_append] at hh
    clear h2
    refine mT ?_
    refine dY ?_
    refine dY ?_
    refine dY ?_
    refine bY hh ?_
    intro b10 w10 hh
    refine bY hh ?_
    intro b11 w11 hh
    refine bK hh 1 [_,_] ?_
    intro ws hh
    replace hh : Hp _ (_ :: .blk _ _ [_, _] _ :: _) _ := hh
    refine bK hh 0 [_,_] ?_
    intro ws hh
    replace hh : Hp _ (.blk _ _ [_, _] _ :: _) _ := hh
    refine aI (aa (sr ?_))
    refine cD hh 1 [_,_] ?_
    refine bK hh 6 [_,_] ?_
    intro ws hh
    replace hh : Hp _ (_ :: _ :: _ :: _ :: _ :: _ :: .blk _ _ [_, _] _ :: _) _ := hh
    refine aa (sr (mI ?_))
    refine vC rfl rfl (by decide) ?_
    refine dL (aa (cT (ak ?_)))
    refine cD hh 0 [_,_] ?_
    refine bK hh 6 [_,_] ?_
    intro ws hh
    replace hh : Hp _ (_ :: _ :: _ :: _ :: _ :: _ :: .blk _ _ [_, _] _ :: _) _ := hh
    refine aD (aV (ai (ak ?_)))
    refine bC (mI (aD (ai ?_)))
    replace hh := hh.sub (List.Sublist.cons _ (List.Sublist.cons _ (List.Sublist.cons_cons _ (List.Sublist.cons_cons _ (List.Sublist.cons _ (List.Sublist.cons _ (List.Sublist.cons_cons _ (List.Sublist.cons _ (List.Sublist.cons _ (List.Sublist.cons_cons _ (List.Sublist.cons_cons _ List.Sublist.slnil)))))))))))
    replace hh := hh.perm (List.perm_middle (l₁ := [_]))
    simp only [List.cons_append, List.nil_append] at hh
    replace hh := hh.perm (List.perm_middle (l₁ := [_, _]))
    simp only [List.cons_append, List.nil_append] at hh
    refine ⟨⟨i + 1, _, _, _, _, by omega, rfl, by rw [hsn]; exact hh⟩, by show m2 - (i + 1) < m2 - i; omega, ?_⟩
    (repeat (first | exact ay _ _ _ | refine az rfl ?_ | refine av rfl ?_))
   ·rw [decide_eq_false hp] at hsn
    refine sr ?_
    refine aQ (aa (ah (cT (al (ai (ah (ao (sr ?_))))))))
    refine aT (k := i) aG.out aC.size rfl rfl (by omega) (by omega) (by decide) ?_
    refine bh aC.out rfl ((hr.ext hh.below).gU (by assumption)) (by decide) ?_
    refine aI (aa (sr ?_))
    refine cD hh 0 [_,_] (mI ?_)
    refine fU rfl rfl (by omega) (by omega) (by omega) (by decide) ?_
    refine aJ (hcall _ (hT.hp hh) (hh.aR (i := 1) rfl) (hh.aR (i := 2) rfl)) ar.out rfl (by decide) ?_
    rintro e_ w40 ⟨A1, a1, B1, b1, A2, a2, B2, b2', rfl, h2⟩
    refine ⟨_, rfl, ?_⟩
    replace hh := hh.join h2
    simp only [List.cons_append, List.nil_append] at hh
    clear h2
    refine mT ?_
    refine dY ?_
    refine dY ?_
    refine dY ?_
    refine bY hh ?_
    intro b10 w10 hh
    refine bY hh ?_
    intro b11 w11 hh
    refine bK hh 1 [_,_] ?_
    intro ws hh
    replace hh : Hp _ (_ :: .blk _ _ [_, _] _ :: _) _ := hh
    refine bK hh 0 [_,_] ?_
    intro ws hh
    replace hh : Hp _ (.blk _ _ [_, _] _ :: _) _ := hh
    refine aI (aa (sr ?_))
    refine cD hh 1 [_,_] ?_
    refine bK hh 6 [_,_] ?_
    intro ws hh
    replace hh : Hp _ (_ :: _ :: _ :: _ :: _ :: _ :: .blk _ _ [_, _] _ :: _) _ := hh
    refine aa (sr (mI ?_))
    refine vC rfl rfl (by decide) ?_
    refine dL (aa (cF (al (aV (ai (ak ?_))))))
    refine bC (mI (aD (ai ?_)))
    replace hh := hh.sub (List.Sublist.cons _ (List.Sublist.cons _ (List.Sublist.cons _ (List.Sublist.cons _ (List.Sublist.cons_cons _ (List.Sublist.cons_cons _ (List.Sublist.cons_cons _ (List.Sublist.cons _ (List.Sublist.cons _ (List.Sublist.cons_cons _ (List.Sublist.cons_cons _ List.Sublist.slnil)))))))))))
    replace hh := hh.perm (List.perm_middle (l₁ := [_]))
    simp only [List.cons_append, List.nil_append] at hh
    replace hh := hh.perm (List.perm_middle (l₁ := [_]))
    simp only [List.cons_append, List.nil_append] at hh
    replace hh := hh.perm (List.perm_middle (l₁ := [_, _]))
    simp only [List.cons_append, List.nil_append] at hh
    refine ⟨⟨i + 1, _, _, _, _, by omega, rfl, by rw [hsn]; exact hh⟩, by show m2 - (i + 1) < m2 - i; omega, ?_⟩
    (repeat (first | exact ay _ _ _ | refine az rfl ?_ | refine av rfl ?_))
  ·obtain rfl : i = m2 := by omega
   rw [List.take_of_length_le (by omega)] at hh
   refine sr ?_
   refine aQ (aa (ah (cF ?_)))
   refine a0 ?_
   refine aA (aA (bu (ai (sr ?_))))
   refine cD hh 0 [_,_] ?_
   refine bK hh 3 [_,_] ?_
   intro ws hh
   replace hh : Hp _ (_ :: _ :: _ :: .blk _ _ [_, _] _ :: _) _ := hh
   refine aI (aa (aq ?_))
   replace hh := hh.sub (List.Sublist.cons _ (List.Sublist.cons_cons _ (List.Sublist.cons_cons _ (List.Sublist.cons_cons _ (List.Sublist.cons _ List.Sublist.slnil)))))
   refine AH (aO rfl (aP (vs := [_, _]) aC.out (hh.au (i := 2) (n := 2) rfl rfl) rfl) (dP (fm rfl) bA)) ?_
   exact ⟨_, _, _, _, rfl, (hh.sub (List.sublist_append_left [_, _] _)).perm (List.Perm.swap _ _ _)⟩
end Go.Proofs.YtioilmppidlbnaaGreatDoor
/- Plain: a form that is told without an error. -/
namespace Go.Proofs.YtioilmppidlbnaaGreatDoor
open Go.RowKit
theorem vu {D : List Nat} {ys : List Dyadic} {g : FX} (h : Out 0 D ys g) (h1 : D.length ≤ 12) (h2 : ∀ d ∈ D, d ≤ 127) (h3 : ys.length = aw D) (h4 : aw D ≤ 4096) : g.e = 0 ∧ g.ns = D ∧ g.cs.map NR.d = ys := by
 have e1 : g.ds = cm D := h.ds
 have e2 : g.cs = ys.map nR := h.cs
 refine ⟨?_, ?_, ?_⟩
 ·unfold FX.e
  rw [e1, e2]
  exact FV.ok (xs := ys) ⟨rfl, rfl, h1, h2, h3, h4⟩
 ·unfold FX.ns
  rw [e1]
  exact pA D
 ·rw [e2, List.map_map]
  exact (List.map_congr_left fun x _ => dw x).trans (List.map_id ys)
end Go.Proofs.YtioilmppidlbnaaGreatDoor
/- The walks through ogeeref14.Add, Mul and Scale. -/
namespace Go.Proofs.YtioilmppidlbnaaGreatDoor
open Go.RowKit
def BW (R : List HE) (g : FX) : Prop := R = [g.gp, g.fQ] ∨ g.m = 0 ∧ R = [g.fQ]
end Go.Proofs.YtioilmppidlbnaaGreatDoor
/- The contracts of package cast once more, each with one ending: forms that one owns, empty where there is an error. -/
namespace Go.Proofs.YtioilmppidlbnaaGreatDoor
open Go.RowKit
theorem lW {fx : FX} {ax : Int} (h : dX fx ax = 0) : fx.e = 0 ∧ 0 ≤ ax ∧ ax < fx.n := by
 unfold dX at h
 split at h
 ·rename_i h1; exact absurd h h1
 ·rename_i h1
  split at h
  ·cases h
  ·omega
theorem sB {fx : FX} {hs : List Int} (h : gD fx hs = 0) : fx.e = 0 := by
 unfold gD at h
 split at h
 ·rename_i h1; exact absurd h h1
 ·rename_i h1; omega
theorem np {fx : FX} {A : Option Addr} {a : Nat} {B : Option Addr} {b : Nat} {ys : List Dyadic} (k : Nat) (h0 : fx.e = 0) (hl : fx.qf k) : Out 0 fx.ns ys ⟨A, fx.n, a, B, fx.m, b, fx.ds, ys.map nR⟩ :=
 ⟨(FX.fv h0).1, rfl, by show fx.n ≤ 100000; have := hl.z8; omega, by show fx.m ≤ 1000000; have := hl.Ak; omega⟩
theorem wA (fx : FX) (ax : Int) (sn : NR) (s : Dyadic) (k q : Nat) (w : World) (hT : eN w) (hf : fx.at_ w) (hl : fx.qf k) (hcap : fx.n ≤ fx.a) (vs : ke q sn s) (hs1 : Sz q (1 - s)) (hq : q ≤ 2000) (hk : fx.e = 0 → ∀ d ∈ fx.ns, k + fx.m * (260 + 2 * (q * d)) ≤ 300000) :
  Calls Tryz.prog 38 #[.agg #[.slice fx.A fx.n fx.a, .slice fx.B fx.m fx.b], .int .i64 ax, .agg #[.bool sn.neg, .string sn.br, .int .i64 sn.e]] w fun r w' => ∃ g h : FX, Out (dX fx ax) fx.ns (eI false s fx.ns ax.toNat (fx.cs.map NR.d)) g ∧ Out (dX fx ax) fx.ns (eI true s fx.ns ax.toNat (fx.cs.map NR.d)) h ∧
   r = .returned (.tuple #[.agg #[.slice g.A g.n g.a, .slice g.B g.m g.b], .agg #[.slice h.A h.n h.a, .slice h.B h.m h.b], .int .i64 (dX fx ax)]) ∧ Hp w [h.gp, h.fQ, g.fQ, g.gp] w' := by
 refine (iW fx ax sn s k q w hT hf hl hcap vs hs1 hq hk).mono fun r w' ⟨hb, h⟩ => ?_
 rcases h with ⟨h0, rfl⟩ | ⟨h0, A1, a1, B1, b1, A2, a2, B2, b2, rfl, hh⟩
 ·exact ⟨FX.nil, FX.nil, Out.err h0, Out.err h0, rfl, (((Hp.start w).ext hb).wU).wU.perm (List.Perm.cons _ (List.Perm.cons _ (List.Perm.swap _ _ _)))⟩
 ·have he := (lW h0).1
  rw [h0]
  exact ⟨_, _, np (A := A1) (a := a1) (B := B1) (b := b1) k he hl, np (A := A2) (a := a2) (B := B2) (b := b2) k he hl, rfl, hh⟩
theorem wP (fx : FX) (ax : Int) (k q : Nat) (w : World) (hT : eN w) (hf : fx.at_ w) (hl : fx.qf k) (hcap : fx.n ≤ fx.a) (hs : Sz q (cz (-1))) (hs1 : Sz q (1 - cz (-1))) (hq : q ≤ 2000) (hk : fx.e = 0 → ∀ d ∈ fx.ns, k + fx.m * (260 + 2 * (q * d)) ≤ 300000) :
  Calls Tryz.prog 40 #[.agg #[.slice fx.A fx.n fx.a, .slice fx.B fx.m fx.b], .int .i64 ax] w fun r w' => ∃ g h : FX, Out (dX fx ax) fx.ns (eI false (cz (-1)) fx.ns ax.toNat (fx.cs.map NR.d)) g ∧ Out (dX fx ax) fx.ns (eI true (cz (-1)) fx.ns ax.toNat (fx.cs.map NR.d)) h ∧
   r = .returned (.tuple #[.agg #[.slice g.A g.n g.a, .slice g.B g.m g.b], .agg #[.slice h.A h.n h.a, .slice h.B h.m h.b], .int .i64 (dX fx ax)]) ∧ Hp w [h.gp, h.fQ, g.fQ, g.gp] w' := by
 by_cases h0 : dX fx ax = 0
 ·refine (oF fx ax k q w hT hf hl hcap hs hs1 hq hk h0).mono fun r w' ⟨A1, a1, B1, b1, A2, a2, B2, b2, hr, hh⟩ => ?_
  have he := (lW h0).1
  rw [h0]
  exact ⟨_, _, np (A := A1) (a := a1) (B := B1) (b := b1) k he hl, np (A := A2) (a := a2) (B := B2) (b := b2) k he hl, hr, hh⟩
 ·refine (kQ fx ax k q w hT hf hl hcap hs hs1 hq hk h0).mono fun r w' ⟨hb, hr⟩ => ?_
  exact ⟨FX.nil, FX.nil, Out.err h0, Out.err h0, hr, (((Hp.start w).ext hb).wU).wU.perm (List.Perm.cons _ (List.Perm.cons _ (List.Perm.swap _ _ _)))⟩
theorem x4 (fx : FX) (L : Option Addr) (m2 c2 : Nat) (hs : List Int) (k q D : Nat) (w : World) (hT : eN w) (hf : fx.at_ w) (hl : fx.qf k) (hcap : fx.n ≤ fx.a) (hS : Sl w L m2 1 (bP hs)) (hm2 : m2 ≤ 1000000) (hz : ∀ h ∈ hs, -9223372036854775808 ≤ h ∧ h ≤ 9223372036854775807)
  (h2s : Sz q (cz (-1))) (h2t : Sz q (1 - cz (-1))) (hq : q ≤ 2000) (hdD : fx.e = 0 → ∀ d ∈ fx.ns, d ≤ D) (hD : D ≤ 127) (hk : k + m2 * (260 + 2 * (q * D)) + fx.m * (260 + 2 * (q * D)) ≤ 300000) :
  Calls Tryz.prog 42 #[.agg #[.slice fx.A fx.n fx.a, .slice fx.B fx.m fx.b], .slice L m2 c2] w fun r w' => ∃ g : FX, Out (gD fx hs) fx.ns (jd fx.ns (fx.cs.map NR.d) hs) g ∧ r = .returned (.tuple #[.agg #[.slice g.A g.n g.a, .slice g.B g.m g.b], .int .i64 (gD fx hs)]) ∧ Hp w [g.gp, g.fQ] w' := by
 by_cases h0 : gD fx hs = 0
 ·have he := sB h0
  refine (wm fx L m2 c2 hs k q D w hT hf hl hcap hS hm2 hz h0 h2s h2t hq (hdD he) hD hk).mono fun r w' ⟨A, a, B, b, hr, hh⟩ => ?_
  rw [h0]
  exact ⟨_, np (A := A) (a := a) (B := B) (b := b) k he hl, hr, hh⟩
 ·refine (uI fx L m2 c2 hs k w hT hf hl hS hm2 hz h0).mono fun r w' ⟨hr, hb⟩ => ?_
  exact ⟨FX.nil, Out.err h0, hr, ((Hp.start w).ext hb).wU⟩
end Go.Proofs.YtioilmppidlbnaaGreatDoor
/- The walks through ogeeref13.Cut and Part. -/
namespace Go.Proofs.YtioilmppidlbnaaGreatDoor
open Go.RowKit
end Go.Proofs.YtioilmppidlbnaaGreatDoor
/- The walks through ogeelaw13's own helpers: what is more than is reckoned with. -/
namespace Go.Proofs.YtioilmppidlbnaaGreatDoor
open Go.RowKit
def nV (a : NR) : Bool := decide ((8 : Int) < a.br.size ∨ a.e < -60 ∨ 60 < a.e)
theorem ku (a : NR) (w : World) :
  Calls Tryz.prog 36 #[.agg #[.bool a.neg, .string a.br, .int .i64 a.e]] w fun r w' => r = .returned (.bool (nV a)) ∧ Below w.heap.size w w' := by
 have hh := Hp.start w
 by_cases h1 : (8 : Int) < a.br.size
 ·refine aj (N := 18) (l := [.agg #[.bool a.neg, .string a.br, .int .i64 a.e]]) Tryz.func36 rfl rfl (by simp) ?_
  refine sr ?_
  refine cW hh [_,_,_] ?_
  intro b1 w1 hh
  refine aB (aa (sr (bG (bG ?_))))
  refine bI hh 0 ?_
  refine cB aG.out rfl (by decide) ?_
  refine cE (mB ?_)
  first | refine gS ?_ | (refine gT ?_; refine bG ?_) | refine gV ?_
  first | refine gS ?_ | (refine gT ?_; refine bI hh 0 ?_) | refine gV ?_
  first | refine gS ?_ | (refine gT ?_; refine aQ ?_) | refine gV ?_
  first | refine dq ?_ | refine dr ?_
  refine mB ?_
  first | refine gS ?_ | (refine gT ?_; refine bG ?_) | refine gV ?_
  first | refine gS ?_ | (refine gT ?_; refine bI hh 0 ?_) | refine gV ?_
  first | refine gS ?_ | (refine gT ?_; refine cE ?_) | refine gV ?_
  first | refine dq ?_ | refine dr ?_
  refine aB (aa (aq ?_))
  refine cC ?_
  refine ⟨?_, hh.below⟩
  unfold nV
  rw [decide_eq_true (.inl h1)]
 ·by_cases h2 : a.e < -60
  ·refine aj (N := 18) (l := [.agg #[.bool a.neg, .string a.br, .int .i64 a.e]]) Tryz.func36 rfl rfl (by simp) ?_
   refine sr ?_
   refine cW hh [_,_,_] ?_
   intro b1 w1 hh
   refine aB (aa (sr (bG (bG ?_))))
   refine bI hh 0 ?_
   refine cB aG.out rfl (by decide) ?_
   refine cE (mB ?_)
   first | refine gS ?_ | (refine gT ?_; refine bG ?_) | refine gV ?_
   first | refine gS ?_ | (refine gT ?_; refine bI hh 0 ?_) | refine gV ?_
   first | refine gS ?_ | (refine gT ?_; refine aQ ?_) | refine gV ?_
   first | refine dq ?_ | refine dr ?_
   refine mB ?_
   first | refine gS ?_ | (refine gT ?_; refine bG ?_) | refine gV ?_
   first | refine gS ?_ | (refine gT ?_; refine bI hh 0 ?_) | refine gV ?_
   first | refine gS ?_ | (refine gT ?_; refine cE ?_) | refine gV ?_
   first | refine dq ?_ | refine dr ?_
   refine aB (aa (aq ?_))
   refine cC ?_
   refine ⟨?_, hh.below⟩
   unfold nV
   rw [decide_eq_true (.inr (.inl h2))]
  ·by_cases h3 : 60 < a.e
   ·refine aj (N := 18) (l := [.agg #[.bool a.neg, .string a.br, .int .i64 a.e]]) Tryz.func36 rfl rfl (by simp) ?_
    refine sr ?_
    refine cW hh [_,_,_] ?_
    intro b1 w1 hh
    refine aB (aa (sr (bG (bG ?_))))
    refine bI hh 0 ?_
    refine cB aG.out rfl (by decide) ?_
    refine cE (mB ?_)
    first | refine gS ?_ | (refine gT ?_; refine bG ?_) | refine gV ?_
    first | refine gS ?_ | (refine gT ?_; refine bI hh 0 ?_) | refine gV ?_
    first | refine gS ?_ | (refine gT ?_; refine aQ ?_) | refine gV ?_
    first | refine dq ?_ | refine dr ?_
    refine mB ?_
    first | refine gS ?_ | (refine gT ?_; refine bG ?_) | refine gV ?_
    first | refine gS ?_ | (refine gT ?_; refine bI hh 0 ?_) | refine gV ?_
    first | refine gS ?_ | (refine gT ?_; refine cE ?_) | refine gV ?_
    first | refine dq ?_ | refine dr ?_
    refine aB (aa (aq ?_))
    refine cC ?_
    refine ⟨?_, hh.below⟩
    unfold nV
    rw [decide_eq_true (.inr (.inr h3))]
   ·refine aj (N := 18) (l := [.agg #[.bool a.neg, .string a.br, .int .i64 a.e]]) Tryz.func36 rfl rfl (by simp) ?_
    refine sr ?_
    refine cW hh [_,_,_] ?_
    intro b1 w1 hh
    refine aB (aa (sr (bG (bG ?_))))
    refine bI hh 0 ?_
    refine cB aG.out rfl (by decide) ?_
    refine cE (mB ?_)
    first | refine gS ?_ | (refine gT ?_; refine bG ?_) | refine gV ?_
    first | refine gS ?_ | (refine gT ?_; refine bI hh 0 ?_) | refine gV ?_
    first | refine gS ?_ | (refine gT ?_; refine aQ ?_) | refine gV ?_
    first | refine dq ?_ | refine dr ?_
    refine mB ?_
    first | refine gS ?_ | (refine gT ?_; refine bG ?_) | refine gV ?_
    first | refine gS ?_ | (refine gT ?_; refine bI hh 0 ?_) | refine gV ?_
    first | refine gS ?_ | (refine gT ?_; refine cE ?_) | refine gV ?_
    first | refine dq ?_ | refine dr ?_
    refine aB (aa (aq ?_))
    refine cC ?_
    refine ⟨?_, hh.below⟩
    unfold nV
    rw [decide_eq_false (by omega)]
theorem Af {a : NR} (h : nV a = false) : a.ok ∧ Sz 124 a.d := by
 have h' := of_decide_eq_false h
 have h1 : (a.br.size : Int) ≤ 8 := by omega
 have h2 : -60 ≤ a.e := by omega
 have h3 : a.e ≤ 60 := by omega
 exact ⟨⟨by omega, by omega, by omega⟩, Sz.raw (m := 64) (E := 60) (by omega) h2 h3⟩
def FX.oe (f : FX) : Prop := f.qf 124 ∧ f.m ≤ 120 ∧ f.n ≤ 20 ∧ ∀ d ∈ f.ds, d ≤ 6 ∨ 128 ≤ d
theorem p8 (f : FX) (w : World) (hf : f.at_ w) :
  Calls Tryz.prog 35 #[.agg #[.slice f.A f.n f.a, .slice f.B f.m f.b]] w fun r w' => ∃ b : Bool, r = .returned (.bool b) ∧ (b = false → f.oe) ∧ Below w.heap.size w w' := by
 have hh := Hp.start w
 have hl1 := hf.ln.1
 have hl2 := hf.ln.2
 by_cases h1 : 20 < f.n
 ·refine aj (N := 49) (l := [.agg #[.slice f.A f.n f.a, .slice f.B f.m f.b]]) Tryz.func35 rfl rfl (by simp) ?_
  refine sr ?_
  refine cW hh [_,_] ?_
  intro b1 w1 hh
  refine aB (aa (ah (sr (bG ?_))))
  refine bI hh 0 ?_
  refine a6 ?_
  refine cE (mB ?_)
  first | refine gS ?_ | (refine gT ?_; refine bG ?_) | refine gV ?_
  first | refine gS ?_ | (refine gT ?_; refine bI hh 0 ?_) | refine gV ?_
  first | refine gS ?_ | (refine gT ?_; refine a6 ?_) | refine gV ?_
  first | refine gS ?_ | (refine gT ?_; refine cE ?_) | refine gV ?_
  first | refine dq ?_ | refine dr ?_
  refine aa ?_
  refine cT (sr (aB (aa (aq (a8 ?_)))))
  refine cC ?_
  exact ⟨_, rfl, fun h => (by cases h), hh.below⟩
 ·by_cases h2 : 120 < f.m
  ·refine aj (N := 49) (l := [.agg #[.slice f.A f.n f.a, .slice f.B f.m f.b]]) Tryz.func35 rfl rfl (by simp) ?_
   refine sr ?_
   refine cW hh [_,_] ?_
   intro b1 w1 hh
   refine aB (aa (ah (sr (bG ?_))))
   refine bI hh 0 ?_
   refine a6 ?_
   refine cE (mB ?_)
   first | refine gS ?_ | (refine gT ?_; refine bG ?_) | refine gV ?_
   first | refine gS ?_ | (refine gT ?_; refine bI hh 0 ?_) | refine gV ?_
   first | refine gS ?_ | (refine gT ?_; refine a6 ?_) | refine gV ?_
   first | refine gS ?_ | (refine gT ?_; refine cE ?_) | refine gV ?_
   first | refine dq ?_ | refine dr ?_
   refine aa ?_
   refine cT (sr (aB (aa (aq (a8 ?_)))))
   refine cC ?_
   exact ⟨_, rfl, fun h => (by cases h), hh.below⟩
  ·refine aj (N := 49) (l := [.agg #[.slice f.A f.n f.a, .slice f.B f.m f.b]]) Tryz.func35 rfl rfl (by simp) ?_
   refine sr ?_
   refine cW hh [_,_] ?_
   intro b1 w1 hh
   refine aB (aa (ah (sr (bG ?_))))
   refine bI hh 0 ?_
   refine a6 ?_
   refine cE (mB ?_)
   first | refine gS ?_ | (refine gT ?_; refine bG ?_) | refine gV ?_
   first | refine gS ?_ | (refine gT ?_; refine bI hh 0 ?_) | refine gV ?_
   first | refine gS ?_ | (refine gT ?_; refine a6 ?_) | refine gV ?_
   first | refine gS ?_ | (refine gT ?_; refine cE ?_) | refine gV ?_
   first | refine dq ?_ | refine dr ?_
   refine aa ?_
   refine cF (al (ai (ah (sr (aI (aa (ao ?_)))))))
   refine bD [2, 3, 15, 16, 17, 18, 19, 20, 21, 22, 23, 24, 25, 26, 27] 3
    (fun v w' => ∃ i : Nat, i ≤ f.m ∧ v = .int .i64 i ∧ (∀ x ∈ f.cs.take i, nV x = false) ∧ Hp w [.blk b1 28 [.slice f.A f.n f.a, .slice f.B f.m f.b] (0, 0)] w')
    (fun v _ => f.m - (intOf v).toNat) ?_ ?_
   ·exact ⟨0, Nat.zero_le _, rfl, fun x hx => (by simp at hx), hh⟩
   ·clear hh
    rintro ρ' v w' ⟨i, hi, rfl, hall, hh⟩
    by_cases hlt : i < f.m
    ·obtain ⟨x, hx⟩ := aU (l := f.cs) (k := i) (by omega)
     obtain ⟨a2, hA2, s2⟩ := hf.nm.at_ (by omega)
     have hev : Value.slice f.B f.m f.b = .slice (some a2) f.m f.b := by rw [hA2]
     have hc := fun w1 => ku x w1
     cases hb : nV x with
     | true =>
      rw [hb] at hc
      refine ah (sr (mI (bG ?_)))
      refine bI hh 0 ?_
      refine a6 ?_
      refine aQ (aa (cT (al (ai (ah (ao (sr (bG ?_))))))))
      refine bI hh 0 ?_
      refine mI ?_
      refine aT (k := i) aG.out aC.size hev rfl (by omega) (by omega) (by decide) ?_
      refine dM (vs := [_, _, _]) aC.out rfl ((s2.ext hh.below).recAt NR.len hx) rfl (by decide) ?_
      refine bF hh (hc _) rfl ?_
      intro w27 hh
      refine aa (cT (sr (aB (aa (aq (cS (a8 (a8 (cS (a8 ?_))))))))))
      refine cC ?_
      exact ⟨_, rfl, fun h => (by cases h), hh.below⟩
     | false =>
      rw [hb] at hc
      refine ah (sr (mI (bG ?_)))
      refine bI hh 0 ?_
      refine a6 ?_
      refine aQ (aa (cT (al (ai (ah (ao (sr (bG ?_))))))))
      refine bI hh 0 ?_
      refine mI ?_
      refine aT (k := i) aG.out aC.size hev rfl (by omega) (by omega) (by decide) ?_
      refine dM (vs := [_, _, _]) aC.out rfl ((s2.ext hh.below).recAt NR.len hx) rfl (by decide) ?_
      refine bF hh (hc _) rfl ?_
      intro w27 hh
      refine aa (cF (al (aV (ai (ak (mI ?_))))))
      refine bC (aI (aD (ai ?_)))
      refine ⟨⟨i + 1, by omega, rfl, fun y hy => ?_, hh⟩, by show f.m - (i + 1) < f.m - i; omega, ?_⟩
      ·rw [bo hx, List.mem_append, List.mem_singleton] at hy
       rcases hy with hy | rfl
       ·exact hall y hy
       ·exact hb
      ·(repeat (first | exact ay _ _ _ | refine az rfl ?_ | refine av rfl ?_))
    ·rw [List.take_of_length_le (by omega)] at hall
     have hfin : (∀ d ∈ f.ds, d ≤ 6 ∨ 128 ≤ d) → f.oe := fun hd => ⟨⟨by omega, by omega, fun c hc => Af (hall c hc)⟩, by omega, by omega, hd⟩
     clear hall
     refine ah (sr (mI (bG ?_)))
     refine bI hh 0 ?_
     refine a6 ?_
     refine aQ (aa (cF ?_))
     refine a0 ?_
     refine aA (aA (bu (ai (ah (sr (aI (aa (ao ?_))))))))
     refine bD [2, 4, 28, 29, 30, 31, 32, 33, 34, 35, 36, 37, 38, 39, 40, 41, 42, 43, 44, 45, 46, 47, 48] 4
      (fun v w' => ∃ i : Nat, i ≤ f.n ∧ v = .int .i64 i ∧ (∀ d ∈ f.ds.take i, d ≤ 6 ∨ 128 ≤ d) ∧ Hp w [.blk b1 28 [.slice f.A f.n f.a, .slice f.B f.m f.b] (0, 0)] w')
      (fun v _ => f.n - (intOf v).toNat) ?_ ?_
     ·exact ⟨0, Nat.zero_le _, rfl, fun x hx => (by simp at hx), hh⟩
     ·clear hh
      rintro ρ2 v w2 ⟨j, hj, rfl, hds, hh⟩
      by_cases hlt2 : j < f.n
      ·obtain ⟨d, hd⟩ := aU (l := f.ds) (k := j) (by omega)
       have hgd := ep hd
       obtain ⟨a1, hA1, s1⟩ := hf.dg.at_ (by omega)
       have hev : Value.slice f.A f.n f.a = .slice (some a1) f.n f.a := by rw [hA1]
       by_cases h6 : 6 < d
       ·by_cases h128 : d < 128
        ·refine ah (sr (mI (bG ?_)))
         refine bI hh 0 ?_
         refine a6 ?_
         refine aQ (aa (cT (al (ai (ah (ao (sr (bG ?_))))))))
         refine bI hh 0 ?_
         refine mI ?_
         refine aT (k := j) aG.out aC.size hev rfl (by omega) (by omega) (by decide) ?_
         refine bh aC.out rfl ((s1.ext hh.below).gU hgd) (by decide) ?_
         refine cE (mB ?_)
         first | refine gS ?_ | (refine gT ?_; refine bG ?_) | refine gV ?_
         first | refine gS ?_ | (refine gT ?_; refine bI hh 0 ?_) | refine gV ?_
         first | refine gS ?_ | (refine gT ?_; refine mI ?_) | refine gV ?_
         first | refine gS ?_ | (refine gT ?_; refine aT (k := j) aG.out aC.size hev rfl (by omega) (by omega) (by decide) ?_) | refine gV ?_
         refine a7 rfl rfl ?_
         refine bh aC.out rfl ((s1.ext hh.below).gU hgd) (by decide) ?_
         first | refine gS ?_ | (refine gT ?_; refine aQ ?_) | refine gV ?_
         first | refine dq ?_ | refine dr ?_
         refine aa (cT (sr (aB (aa (aq (cS (a8 (a8 (cS (a8 ?_))))))))))
         refine cC ?_
         exact ⟨_, rfl, fun h => (by cases h), hh.below⟩
        ·refine ah (sr (mI (bG ?_)))
         refine bI hh 0 ?_
         refine a6 ?_
         refine aQ (aa (cT (al (ai (ah (ao (sr (bG ?_))))))))
         refine bI hh 0 ?_
         refine mI ?_
         refine aT (k := j) aG.out aC.size hev rfl (by omega) (by omega) (by decide) ?_
         refine bh aC.out rfl ((s1.ext hh.below).gU hgd) (by decide) ?_
         refine cE (mB ?_)
         first | refine gS ?_ | (refine gT ?_; refine bG ?_) | refine gV ?_
         first | refine gS ?_ | (refine gT ?_; refine bI hh 0 ?_) | refine gV ?_
         first | refine gS ?_ | (refine gT ?_; refine mI ?_) | refine gV ?_
         first | refine gS ?_ | (refine gT ?_; refine aT (k := j) aG.out aC.size hev rfl (by omega) (by omega) (by decide) ?_) | refine gV ?_
         refine a7 rfl rfl ?_
         refine bh aC.out rfl ((s1.ext hh.below).gU hgd) (by decide) ?_
         first | refine gS ?_ | (refine gT ?_; refine aQ ?_) | refine gV ?_
         first | refine dq ?_ | refine dr ?_
         refine aa (cF (al (aV (ai (ak (mI ?_))))))
         refine bC (aI (aD (ai ?_)))
         have hds2 : ∀ d ∈ f.ds.take (j + 1), d ≤ 6 ∨ 128 ≤ d := fun y hy => by
          rw [bo hd, List.mem_append, List.mem_singleton] at hy
          rcases hy with hy | rfl
          ·exact hds y hy
          ·omega
         refine ⟨⟨j + 1, by omega, rfl, hds2, hh⟩, by show f.n - (j + 1) < f.n - j; omega, ?_⟩
         (repeat (first | exact ay _ _ _ | refine az rfl ?_ | refine av rfl ?_))
       ·refine ah (sr (mI (bG ?_)))
        refine bI hh 0 ?_
        refine a6 ?_
        refine aQ (aa (cT (al (ai (ah (ao (sr (bG ?_))))))))
        refine bI hh 0 ?_
        refine mI ?_
        refine aT (k := j) aG.out aC.size hev rfl (by omega) (by omega) (by decide) ?_
        refine bh aC.out rfl ((s1.ext hh.below).gU hgd) (by decide) ?_
        refine cE (mB ?_)
        first | refine gS ?_ | (refine gT ?_; refine bG ?_) | refine gV ?_
        first | refine gS ?_ | (refine gT ?_; refine bI hh 0 ?_) | refine gV ?_
        first | refine gS ?_ | (refine gT ?_; refine mI ?_) | refine gV ?_
        first | refine gS ?_ | (refine gT ?_; refine ie aG.out aC.size rfl rfl (by omega) (by omega) (by decide) ?_) | refine gV ?_
        first | (refine cf (by decide) rfl rfl (by decide) ?_) | (refine wl_guard_skipV (by decide) rfl rfl ?_)
        first | refine gS ?_ | (refine gT ?_; refine aQ ?_) | refine gV ?_
        first | refine dq ?_ | refine dr ?_
        refine aa (cF (al (aV (ai (ak (mI ?_))))))
        refine bC (aI (aD (ai ?_)))
        have hds2 : ∀ d ∈ f.ds.take (j + 1), d ≤ 6 ∨ 128 ≤ d := fun y hy => by
         rw [bo hd, List.mem_append, List.mem_singleton] at hy
         rcases hy with hy | rfl
         ·exact hds y hy
         ·omega
        refine ⟨⟨j + 1, by omega, rfl, hds2, hh⟩, by show f.n - (j + 1) < f.n - j; omega, ?_⟩
        (repeat (first | exact ay _ _ _ | refine az rfl ?_ | refine av rfl ?_))
      ·rw [List.take_of_length_le (by omega)] at hds
       refine ah (sr (mI (bG ?_)))
       refine bI hh 0 ?_
       refine a6 ?_
       refine aQ (aa (cF ?_))
       refine a0 ?_
       refine aA (aA (bu (ai (sr (aB (aa (aq ?_)))))))
       refine cC ?_
       exact ⟨_, rfl, fun _ => hfin hds, hh.below⟩
end Go.Proofs.YtioilmppidlbnaaGreatDoor
/- The walks through ogeelaw13's examples. -/
namespace Go.Proofs.YtioilmppidlbnaaGreatDoor
open Go.RowKit
abbrev fP (l : List Int) (A : Option Addr) (a : Nat) (B : Option Addr) (b : Nat) : FX := ⟨A, 1, a, B, l.length, b, [(l.length : Int) - 1], l.map fun z : Int => nR ((z : Dyadic) * cz (-2))⟩
theorem pG {l : List Int} {A : Option Addr} {a : Nat} {B : Option Addr} {b : Nat} (hn : l.length ≤ 100) (hl : ∀ z ∈ l, z.natAbs < 256) : (fP l A a B b).qf 124 := by
 refine ⟨by show 1 ≤ 1000; omega, by show l.length ≤ 100000; omega, fun c hc => ?_⟩
 obtain ⟨z, hz, rfl⟩ := List.mem_map.1 hc
 have h : Sz 34 ((z : Dyadic) * cz (-2)) := (show Sz 24 (z : Dyadic) from ve (e := 0) (hl z hz) (by decide) (by decide)).mul (Sz.two (k := 2) (by decide) (by decide))
 exact ⟨h.ok (by omega), by rw [dw]; exact h.mono (by omega)⟩
theorem da (l : List Int) (A : Option Addr) (c : Nat) (w : World) (hS : Sl w A l.length 1 (bP l)) (h0 : 0 < l.length) (hn : l.length ≤ 100) (hl : ∀ z ∈ l, z.natAbs < 256) :
  Calls Tryz.prog 83 #[.slice A l.length c] w fun r w' => ∃ (A : Option Addr) (a : Nat) (B : Option Addr) (b : Nat), r = .returned (.agg #[.slice A 1 a, .slice B l.length b]) ∧ Hp w [(fP l A a B b).gp, (fP l A a B b).fQ] w' := by
 have hh := Hp.start w
 obtain ⟨n, hn2⟩ : ∃ n, n = l.length := ⟨_, rfl⟩
 have hnd : (fP l none 0 none 0).ds = [(n : Int) - 1] := by rw [hn2]
 rw [← hn2] at hS h0 hn ⊢
 refine aj (N := 28) (l := [.slice A n c]) Tryz.func83 rfl rfl (by simp) ?_
 refine sr ?_
 refine bY hh ?_
 intro b2 w2 hh
 refine aa (sr (mL (a6 ?_)))
 refine eu ?_
 refine aZ hh (cs := [_]) aG.out aC.out (aK (bO rfl) bL) rfl rfl (by decide) (by decide) (by decide) rfl (by decide) ?_
 intro b8 w8 hh
 refine fS [_,_] ?_
 refine bY hh ?_
 intro b3 w3 hh
 refine bK hh 0 [_,_] ?_
 intro ws hh
 replace hh : Hp _ (.blk _ _ [_, _] _ :: _) _ := hh
 refine aa (ah (sr (aI (aa (ao ?_)))))
 replace hh := hh.perm (List.perm_middle (l₁ := [_]))
 simp only [List.cons_append, List.nil_append] at hh
 have hcap := hh.g9 (i := 0) rfl
 replace hh := hh.perm (List.perm_middle (l₁ := [_]))
 simp only [List.cons_append, List.nil_append] at hh
 replace hh := hh.ew 39 3
 refine bD [4, 10, 11, 12, 13, 14, 15, 16, 17, 18, 19, 20, 21, 22, 23, 24, 25, 26] 4
  (fun v w' => ∃ (i c1 : Nat) (B : Option Addr), i ≤ n ∧ v = .int .i64 i ∧ Hp w [.row B i c1 39 3 (a9 NR.cells ((l.take i).map fun z : Int => nR ((z : Dyadic) * cz (-2)))), .blk b3 28 [.slice (some ⟨b8, 0, none⟩) 1 1, .slice B i c1] (0, 0), .row (some ⟨b8, 0, none⟩) 1 1 3 1 (bP [(n : Int) - 1]), .blk b2 28 [.slice none 0 0, .slice none 0 0] (0, 0)] w')
  (fun v _ => n - (intOf v).toNat) ?_ ?_
 ·exact ⟨0, 0, none, Nat.zero_le _, rfl, hh⟩
 ·clear hh
  rintro ρ' v w' ⟨i, c1, B, hi, rfl, hh⟩
  by_cases hlt : i < n
  ·obtain ⟨z, hz⟩ := aU (l := l) (k := i) (by omega)
   have hgz := ep hz
   have hzb := hl z (List.mem_of_getElem? hz)
   obtain ⟨ad, rfl, hr⟩ := hS.at_ (by omega)
   refine ah (sr (mI (mL (a6 ?_))))
   refine aQ (aa (cT (al (ai (ah (ao ?_))))))
   have hsh := fun w1 => kN (nR (z : Dyadic)) (-2) w1 (by have := (show Sz 24 (z : Dyadic) from ve (e := 0) hzb (by decide) (by decide)).br; omega) (by have := (show Sz 24 (z : Dyadic) from ve (e := 0) hzb (by decide) (by decide)).nr; omega) (by have := (show Sz 24 (z : Dyadic) from ve (e := 0) hzb (by decide) (by decide)).nr; omega) (by decide) (by decide)
   rw [dw] at hsh
   refine aN 9 [[(3, none)], [(16, some 0)], [(0, none)], [(4, none)], [(18, some 2), (19, some 3)], [(20, some 4)], [(21, some 5)], [(22, some 6)], [(23, some 7)]] [(8, 24), (7, 23), (6, 22), (5, 21), (4, 20), (3, 19), (2, 18), (1, 17), (0, 16)] hh mixed (by kernel_rfl) ?_
   refine eZ ?_
   refine fZ 1 ?_
   refine iY ?_
   refine ee ?_
   refine r8 (i) ?_
   refine bk (i := 5) (fun ρ1 w1 hj hR => gH aC.out (show ρ1 20 = Value.pointer _ from hR.1) ((hr.ext hj.hp.below).gU (by assumption))) ?_
   refine dC (fun _ hj => l0 z _ (by omega) (by omega)) ?_
   refine dC (fun _ hj => hsh _) ?_
   refine uM [_,_,_] ?_
   refine bj ?_
   intro f W hJ hV
   have hb_5 := hJ.bl
   obtain ⟨v24, v23, v22, v21, v20, v19, v18, v17, v16, _⟩ := hV
   obtain ⟨A24, c24, e24, f24⟩ : Rows _ _ _ (f 8) W := v24
   replace hh := hJ.hp
   refine aY (bm (ae e24 (ae v23 (ae v22 (ae v21 (ae v20 (ae v19 (ae v18 (ae v17 (ae v16 aX)))))))))) ?_
   dsimp only [ct]
   clear e24 hJ
   refine cI hh (i := 0) rfl rfl rfl (f24) aG.out aC.out rfl (by decide) (by first | rfl | exact cg _ | exact bV _ | exact bM _ | exact bT NR.one _) (by omega) (by omega) (by decide) ?_
   intro A25 c25 w25 hh
   simp only [List.set_cons_zero] at hh
   refine bG ?_
   refine bK hh 1 [_] ?_
   intro ws hh
   replace hh : Hp _ (_ :: .blk _ _ [_, _] _ :: _) _ := hh
   refine aD (aV (ai (ak (mI ?_))))
   refine bC (aI (aD (ai ?_)))
   replace hh := hh.sub (List.Sublist.cons_cons _ (List.Sublist.cons_cons _ (List.Sublist.cons_cons _ (List.Sublist.cons_cons _ List.Sublist.slnil))))
   refine ⟨⟨i + 1, c25, A25, by omega, rfl, ?_⟩, by show n - (i + 1) < n - i; omega, ?_⟩
   ·rw [bo hz, List.map_append, dx]
    exact hh
   ·(repeat (first | exact ay _ _ _ | refine az rfl ?_ | refine av rfl ?_))
  ·obtain rfl : i = n := by omega
   rw [List.take_of_length_le (by omega)] at hh
   refine ah (sr (mI (mL (a6 ?_))))
   refine aQ (aa (cF ?_))
   refine a0 ?_
   refine aA (aA (bu (ai (sr ?_))))
   refine cD hh 1 [_,_] ?_
   refine bK hh 3 [_,_] ?_
   intro ws hh
   replace hh : Hp _ (_ :: _ :: _ :: .blk _ _ [_, _] _ :: _) _ := hh
   refine aa (aq ?_)
   replace hh := hh.sub (List.Sublist.cons_cons _ (List.Sublist.cons _ (List.Sublist.cons_cons _ (List.Sublist.cons_cons _ List.Sublist.slnil))))
   refine gC (aO rfl (aP (vs := [_, _]) aC.out (hh.au (i := 2) (n := 2) rfl rfl) rfl) bA) ?_
   refine ⟨some ⟨b8, 0, none⟩, 1, B, c1, rfl, ?_⟩
   unfold FX.gp FX.fQ
   dsimp only
   rw [← hn2]
   exact hh.sub (List.sublist_append_left [_, _] _)
end Go.Proofs.YtioilmppidlbnaaGreatDoor
/- The walk through ogeelaw13.awake. -/
namespace Go.Proofs.YtioilmppidlbnaaGreatDoor
open Go.RowKit
theorem jO : Sz 2 (cz (-1)) ∧ Sz 2 (1 - cz (-1)) := ⟨(show Sz 1 (cz (-1)) from ⟨1, by decide +kernel, by decide⟩).mono (by omega), Sz.one.sub (show Sz 1 (cz (-1)) from ⟨1, by decide +kernel, by decide⟩)⟩
theorem lh {l : List Int} {D : List Nat} {ys : List Dyadic} {g : FX} {w : World} (h : Out 0 D ys g) (h1 : cm D = [(l.length : Int) - 1]) (h2 : ys = l.map fun z : Int => (z : Dyadic) * cz (-2)) (hg : g.at_ w) : ∃ (A : Option Addr) (a : Nat) (B : Option Addr) (b : Nat), g = fP l A a B b := by
 have l1 := hg.ln
 obtain ⟨qD, hc0, -, -⟩ := h
 obtain ⟨A, n, a, B, m, b, ds, cs⟩ := g
 have hd : ds = [(l.length : Int) - 1] := qD.trans h1
 have hc : cs = l.map fun z : Int => nR ((z : Dyadic) * cz (-2)) := hc0.trans (by unfold zv; rw [if_pos rfl, h2, List.map_map]; rfl)
 obtain ⟨q1, q2⟩ : ds.length = n ∧ cs.length = m := l1
 clear qD hc0 h1 h2 hg
 subst hd hc q1
 obtain rfl : l.length = m := by rw [← q2, List.length_map]
 exact ⟨A, a, B, b, rfl⟩
abbrev AD (l : List Int) : List Dyadic := l.map fun z : Int => (z : Dyadic) * cz (-2)
theorem wS {l : List Int} {A : Option Addr} {a : Nat} {B : Option Addr} {b : Nat} (k q : Nat) (hn : l.length ≤ 100) (hk : k + 100 * (260 + 2 * (q * 100)) ≤ 300000) : (fP l A a B b).e = 0 → ∀ d ∈ (fP l A a B b).ns, k + (fP l A a B b).m * (260 + 2 * (q * d)) ≤ 300000 := fun _ d hd => by
 have hd2 : d ∈ [((l.length : Int) - 1).toNat] := hd
 rw [List.mem_singleton] at hd2
 have h1 : q * d ≤ q * 100 := Nat.mul_le_mul_left _ (by omega)
 have h2 : l.length * (260 + 2 * (q * d)) ≤ 100 * (260 + 2 * (q * 100)) := Nat.mul_le_mul hn (by omega)
 show k + l.length * (260 + 2 * (q * d)) ≤ 300000
 omega
theorem wQ (l l1 l2 : List Int) (A : Option Addr) (a : Nat) (B : Option Addr) (b : Nat) (w : World) (hT : eN w) (hf : (fP l A a B b).at_ w) (hcap : 1 ≤ a) (hn : l.length ≤ 100) (hl : ∀ z ∈ l, z.natAbs < 256)
  (h : dX (fP l A a B b) 0 = 0 ∧ eI false (cz (-1)) (fP l A a B b).ns 0 ((fP l A a B b).cs.map NR.d) = AD l1 ∧ eI true (cz (-1)) (fP l A a B b).ns 0 ((fP l A a B b).cs.map NR.d) = AD l2 ∧ cm (fP l A a B b).ns = [(l1.length : Int) - 1] ∧ cm (fP l A a B b).ns = [(l2.length : Int) - 1]) :
  Calls Tryz.prog 40 #[.agg #[.slice A 1 a, .slice B l.length b], .int .i64 0] w fun r w' => ∃ A1 a1 B1 b1 A2 a2 B2 b2, r = .returned (.tuple #[.agg #[.slice A1 1 a1, .slice B1 l1.length b1], .agg #[.slice A2 1 a2, .slice B2 l2.length b2], .int .i64 0]) ∧ Hp w [(fP l2 A2 a2 B2 b2).gp, (fP l2 A2 a2 B2 b2).fQ, (fP l1 A1 a1 B1 b1).fQ, (fP l1 A1 a1 B1 b1).gp] w' := by
 have := wP (fP l A a B b) 0 124 2 w hT hf (pG hn hl) hcap jO.1 jO.2 (by decide) (wS 124 2 hn (by decide))
 rw [h.1] at this
 refine this.mono fun r w' ⟨g, g2, o1, o2, hr, hh⟩ => ?_
 obtain ⟨A1, a1, B1, b1, rfl⟩ := lh o1 h.2.2.2.1 h.2.1 (hh.dz (List.mem_of_getElem? (i := 3) rfl) (List.mem_of_getElem? (i := 2) rfl))
 obtain ⟨A2, a2, B2, b2, rfl⟩ := lh o2 h.2.2.2.2 h.2.2.1 (hh.dz (List.mem_of_getElem? (i := 0) rfl) (List.mem_of_getElem? (i := 1) rfl))
 exact ⟨A1, a1, B1, b1, A2, a2, B2, b2, hr, hh⟩
theorem Bo (l l1 l2 : List Int) (A : Option Addr) (a : Nat) (B : Option Addr) (b : Nat) (w : World) (hT : eN w) (hf : (fP l A a B b).at_ w) (hcap : 1 ≤ a) (hn : l.length ≤ 100) (hl : ∀ z ∈ l, z.natAbs < 256)
  (h : dX (fP l A a B b) 0 = 0 ∧ eI false (cz (-2)) (fP l A a B b).ns 0 ((fP l A a B b).cs.map NR.d) = AD l1 ∧ eI true (cz (-2)) (fP l A a B b).ns 0 ((fP l A a B b).cs.map NR.d) = AD l2 ∧ cm (fP l A a B b).ns = [(l1.length : Int) - 1] ∧ cm (fP l A a B b).ns = [(l2.length : Int) - 1]) :
  Calls Tryz.prog 38 #[.agg #[.slice A 1 a, .slice B l.length b], .int .i64 0, .agg #[.bool (nR (cz (-2))).neg, .string (nR (cz (-2))).br, .int .i64 (nR (cz (-2))).e]] w fun r w' => ∃ A1 a1 B1 b1 A2 a2 B2 b2, r = .returned (.tuple #[.agg #[.slice A1 1 a1, .slice B1 l1.length b1], .agg #[.slice A2 1 a2, .slice B2 l2.length b2], .int .i64 0]) ∧ Hp w [(fP l2 A2 a2 B2 b2).gp, (fP l2 A2 a2 B2 b2).fQ, (fP l1 A1 a1 B1 b1).fQ, (fP l1 A1 a1 B1 b1).gp] w' := by
 have z : Sz 2 (cz (-2)) := ⟨1, by decide +kernel, by decide⟩
 have := wA (fP l A a B b) 0 (nR (cz (-2))) (cz (-2)) 124 4 w hT hf (pG hn hl) hcap (ke.of (z.mono (by decide)) (by decide)) ((Sz.one.mono (show 1 ≤ 3 by decide)).sub (z.mono (show 2 ≤ 3 by decide))) (by decide) (wS 124 4 hn (by decide))
 rw [h.1] at this
 refine this.mono fun r w' ⟨g, g2, o1, o2, hr, hh⟩ => ?_
 obtain ⟨A1, a1, B1, b1, rfl⟩ := lh o1 h.2.2.2.1 h.2.1 (hh.dz (List.mem_of_getElem? (i := 3) rfl) (List.mem_of_getElem? (i := 2) rfl))
 obtain ⟨A2, a2, B2, b2, rfl⟩ := lh o2 h.2.2.2.2 h.2.2.1 (hh.dz (List.mem_of_getElem? (i := 0) rfl) (List.mem_of_getElem? (i := 1) rfl))
 exact ⟨A1, a1, B1, b1, A2, a2, B2, b2, hr, hh⟩
theorem AA (l l1 hs : List Int) (A : Option Addr) (a : Nat) (B : Option Addr) (b : Nat) (L : Option Addr) (c : Nat) (w : World) (hT : eN w) (hf : (fP l A a B b).at_ w) (hcap : 1 ≤ a) (hn : l.length ≤ 10) (hl : ∀ z ∈ l, z.natAbs < 256) (hS : Sl w L hs.length 1 (bP hs)) (hm : hs.length ≤ 6) (hz : ∀ z ∈ hs, -9223372036854775808 ≤ z ∧ z ≤ 9223372036854775807)
  (h : gD (fP l A a B b) hs = 0 ∧ jd (fP l A a B b).ns ((fP l A a B b).cs.map NR.d) hs = AD l1 ∧ cm (fP l A a B b).ns = [(l1.length : Int) - 1]) :
  Calls Tryz.prog 42 #[.agg #[.slice A 1 a, .slice B l.length b], .slice L hs.length c] w fun r w' => ∃ A1 a1 B1 b1, r = .returned (.tuple #[.agg #[.slice A1 1 a1, .slice B1 l1.length b1], .int .i64 0]) ∧ Hp w [(fP l1 A1 a1 B1 b1).gp, (fP l1 A1 a1 B1 b1).fQ] w' := by
 have := x4 (fP l A a B b) L hs.length c hs 124 2 10 w hT hf (pG (by omega) hl) hcap hS (by omega) hz jO.1 jO.2 (by decide) (fun _ d hd => by
  have hd2 : d ∈ [((l.length : Int) - 1).toNat] := hd
  rw [List.mem_singleton] at hd2
  omega) (by decide) (by
  show 124 + hs.length * (260 + 2 * (2 * 10)) + l.length * (260 + 2 * (2 * 10)) ≤ 300000
  omega)
 rw [h.1] at this
 refine this.mono fun r w' ⟨g, o1, hr, hh⟩ => ?_
 obtain ⟨A1, a1, B1, b1, rfl⟩ := lh o1 h.2.2 h.2.1 (hh.dz (List.mem_of_getElem? (i := 0) rfl) (List.mem_of_getElem? (i := 1) rfl))
 exact ⟨A1, a1, B1, b1, hr, hh⟩
theorem vn (B : Option Addr) (b : Nat) (w : World) (hT : eN w) (hS : Sl w B 1 3 (a9 NR.cells [nR ((7 : Int) : Dyadic)])) :
  Calls Tryz.prog 40 #[.agg #[.slice none 0 0, .slice B 1 b], .int .i64 0] w fun r w' => r = vR 1 ∧ Below w.heap.size w w' := by
 have z : Sz 24 ((7 : Int) : Dyadic) := ve (m := 7) (e := 0) (by decide) (by decide) (by decide)
 have hE : dX (⟨none, 0, 0, B, 1, b, [], [nR ((7 : Int) : Dyadic)]⟩ : FX) 0 = 1 := by kernel_rfl
 have := kQ (⟨none, 0, 0, B, 1, b, [], [nR ((7 : Int) : Dyadic)]⟩ : FX) 0 124 2 w hT ⟨Sl.nil _ _ _, hS⟩ ⟨Nat.zero_le _, Nat.le_of_ble_eq_true rfl, fun c hc => by
  rw [List.mem_singleton] at hc
  subst hc
  exact ⟨z.ok (by omega), by rw [dw]; exact z.mono (by omega)⟩⟩ (Nat.le_refl _) jO.1 jO.2 (by decide) (fun _ d hd => by cases hd) (by rw [hE]; decide)
 rw [hE] at this
 exact this.mono fun r w' h => ⟨h.2, h.1⟩
def du (l : List Int) : VP := fun v W => ∃ g : FX, v = .agg #[.slice g.A g.n g.a, .slice g.B g.m g.b] ∧ g.ds = [(l.length : Int) - 1] ∧ g.cs = (l.map fun z : Int => nR ((z : Dyadic) * cz (-2))) ∧ g.at_ W
theorem du.ext {l : List Int} (v : Value) (w w' : World) (h : du l v w) (hb : Below w.heap.size w w') : du l v w' := let ⟨g, h1, h2, h3, h4⟩ := h; ⟨g, h1, h2, h3, h4.ext hb⟩
theorem fG (w : World) (hT : eN w) : Calls Tryz.prog 37 #[] w fun r w' => r = .returned (.bool true) ∧ Below w.heap.size w w' := by
 have hh := Hp.start w
 have hsh := fun w1 => kN (nR ((1 : Int) : Dyadic)) (-2) w1 (by decide +kernel) (by decide +kernel) (by decide +kernel) (by decide) (by decide)
 rw [dw, show ((1 : Int) : Dyadic) * cz (-2) = cz (-2) from Dyadic.one_mul _] at hsh
 refine aj (N := 113) (l := []) Tryz.func37 rfl rfl (by simp) ?_
 refine sr (aB (aa (sr ?_)))
 refine aZ hh (cs := [_, _]) aG.out aC.out (aK rfl (aK rfl bL)) rfl rfl (by decide) (by decide) (by decide) rfl (by decide) ?_
 intro b16 w16 hh
 refine aJ (da [0, 4] _ _ _ (hh.aR (i := 0) rfl) (by decide) (by decide) (by decide)) ar.out rfl (by decide) ?_
 rintro e_ w17 ⟨Af1, af1, Bf1, bf1, rfl, h2⟩
 refine ⟨_, rfl, ?_⟩
 replace hh := hh.join h2
 clear h2
 have capf1 := hh.g9 (i := 1) rfl
 refine aJ (wQ [0, 4] [0, 2] [2, 4] Af1 af1 Bf1 bf1 _ (hT.hp hh) (hh.dz (List.mem_of_getElem? (i := 0) rfl) (List.mem_of_getElem? (i := 1) rfl)) capf1 (by decide) (by decide) ⟨by kernel_rfl, by kernel_rfl, by kernel_rfl, by kernel_rfl, by kernel_rfl⟩) ar.out rfl (by decide) ?_
 rintro e_ w18 ⟨Ar1, ar1, Br1, br1, Ar2, ar2, Br2, br2, rfl, h2⟩
 refine ⟨_, rfl, ?_⟩
 replace hh := hh.join h2
 clear h2
 replace hh := hh.sub (List.Sublist.cons_cons _ (List.Sublist.cons_cons _ (List.Sublist.cons_cons _ (List.Sublist.cons_cons _ (List.Sublist.cons _ (List.Sublist.cons _ (List.Sublist.cons _ List.Sublist.slnil)))))))
 refine mT ?_
 refine dY ?_
 refine dY ?_
 refine dY ?_
 refine bY hh ?_
 intro b1 w1 hh
 refine bY hh ?_
 intro b2 w2 hh
 refine bK hh 1 [_,_] ?_
 intro ws hh
 replace hh : Hp _ (_ :: .blk _ _ [_, _] _ :: _) _ := hh
 refine bK hh 0 [_,_] ?_
 intro ws hh
 replace hh : Hp _ (.blk _ _ [_, _] _ :: _) _ := hh
 refine aI (aa (sr ?_))
 refine aZ hh (cs := [_, _, _]) aG.out aC.out (aK rfl (aK rfl (aK rfl bL))) rfl rfl (by decide) (by decide) (by decide) rfl (by decide) ?_
 intro b23 w23 hh
 refine aJ (da [0, 0, 16] _ _ _ (hh.aR (i := 0) rfl) (by decide) (by decide) (by decide)) ar.out rfl (by decide) ?_
 rintro e_ w24 ⟨Af2, af2, Bf2, bf2, rfl, h2⟩
 refine ⟨_, rfl, ?_⟩
 replace hh := hh.join h2
 clear h2
 have capf2 := hh.g9 (i := 1) rfl
 refine aJ (wQ [0, 0, 16] [0, 0, 4] [4, 16, 16] Af2 af2 Bf2 bf2 _ (hT.hp hh) (hh.dz (List.mem_of_getElem? (i := 0) rfl) (List.mem_of_getElem? (i := 1) rfl)) capf2 (by decide) (by decide) ⟨by kernel_rfl, by kernel_rfl, by kernel_rfl, by kernel_rfl, by kernel_rfl⟩) ar.out rfl (by decide) ?_
 rintro e_ w25 ⟨Ar4, ar4, Br4, br4, Ar5, ar5, Br5, br5, rfl, h2⟩
 refine ⟨_, rfl, ?_⟩
 replace hh := hh.join h2
 clear h2
 replace hh := hh.sub (List.Sublist.cons_cons _ (List.Sublist.cons_cons _ (List.Sublist.cons_cons _ (List.Sublist.cons_cons _ (List.Sublist.cons _ (List.Sublist.cons _ (List.Sublist.cons _ (List.Sublist.cons_cons _ (List.Sublist.cons_cons _ (List.Sublist.cons_cons _ (List.Sublist.cons_cons _ (List.Sublist.cons_cons _ (List.Sublist.cons_cons _ List.Sublist.slnil)))))))))))))
 refine mT ?_
 refine dY ?_
 refine dY ?_
 refine dY ?_
 refine bY hh ?_
 intro b4 w4 hh
 refine bY hh ?_
 intro b5 w5 hh
 refine bK hh 1 [_,_] ?_
 intro ws hh
 replace hh : Hp _ (_ :: .blk _ _ [_, _] _ :: _) _ := hh
 refine bK hh 0 [_,_] ?_
 intro ws hh
 replace hh : Hp _ (.blk _ _ [_, _] _ :: _) _ := hh
 refine aI (aa (sr ?_))
 refine aZ hh (cs := [_, _]) aG.out aC.out (aK rfl (aK rfl bL)) rfl rfl (by decide) (by decide) (by decide) rfl (by decide) ?_
 intro b30 w30 hh
 refine aJ (da [0, 4] _ _ _ (hh.aR (i := 0) rfl) (by decide) (by decide) (by decide)) ar.out rfl (by decide) ?_
 rintro e_ w31 ⟨Af3, af3, Bf3, bf3, rfl, h2⟩
 refine ⟨_, rfl, ?_⟩
 replace hh := hh.join h2
 clear h2
 have capf3 := hh.g9 (i := 1) rfl
 refine bF hh (l0 1 _ (by decide) (by decide)) rfl ?_
 intro w32 hh
 refine bF hh (hsh _) rfl ?_
 intro w33 hh
 refine aJ (Bo [0, 4] [0, 1] [1, 4] Af3 af3 Bf3 bf3 _ (hT.hp hh) (hh.dz (List.mem_of_getElem? (i := 0) rfl) (List.mem_of_getElem? (i := 1) rfl)) capf3 (by decide) (by decide) ⟨by kernel_rfl, by kernel_rfl, by kernel_rfl, by kernel_rfl, by kernel_rfl⟩) ar.out rfl (by decide) ?_
 rintro e_ w34 ⟨Ar7, ar7, Br7, br7, Ar8, ar8, Br8, br8, rfl, h2⟩
 refine ⟨_, rfl, ?_⟩
 replace hh := hh.join h2
 clear h2
 replace hh := hh.sub (List.Sublist.cons_cons _ (List.Sublist.cons_cons _ (List.Sublist.cons_cons _ (List.Sublist.cons_cons _ (List.Sublist.cons _ (List.Sublist.cons _ (List.Sublist.cons _ (List.Sublist.cons_cons _ (List.Sublist.cons_cons _ (List.Sublist.cons_cons _ (List.Sublist.cons_cons _ (List.Sublist.cons_cons _ (List.Sublist.cons_cons _ (List.Sublist.cons_cons _ (List.Sublist.cons_cons _ (List.Sublist.cons_cons _ (List.Sublist.cons_cons _ (List.Sublist.cons_cons _ (List.Sublist.cons_cons _ List.Sublist.slnil)))))))))))))))))))
 refine mT ?_
 refine dY ?_
 refine dY ?_
 refine dY ?_
 refine bY hh ?_
 intro b7 w7 hh
 refine bY hh ?_
 intro b8 w8 hh
 refine bK hh 1 [_,_] ?_
 intro ws hh
 replace hh : Hp _ (_ :: .blk _ _ [_, _] _ :: _) _ := hh
 refine bK hh 0 [_,_] ?_
 intro ws hh
 replace hh : Hp _ (.blk _ _ [_, _] _ :: _) _ := hh
 refine aI (aa (sr ?_))
 refine aZ hh (cs := [_, _, _]) aG.out aC.out (aK rfl (aK rfl (aK rfl bL))) rfl rfl (by decide) (by decide) (by decide) rfl (by decide) ?_
 intro b39 w39 hh
 refine aJ (da [0, 0, 16] _ _ _ (hh.aR (i := 0) rfl) (by decide) (by decide) (by decide)) ar.out rfl (by decide) ?_
 rintro e_ w40 ⟨Af4, af4, Bf4, bf4, rfl, h2⟩
 refine ⟨_, rfl, ?_⟩
 replace hh := hh.join h2
 clear h2
 have capf4 := hh.g9 (i := 1) rfl
 refine aZ hh (cs := [_, _]) aG.out aC.out (aK rfl (aK rfl bL)) rfl rfl (by decide) (by decide) (by decide) rfl (by decide) ?_
 intro b41 w41 hh
 refine aJ (AA [0, 0, 16] [4, 12, 9] [1, 0] Af4 af4 Bf4 bf4 _ _ _ (hT.hp hh) (hh.dz (List.mem_of_getElem? (i := 1) rfl) (List.mem_of_getElem? (i := 2) rfl)) capf4 (by decide) (by decide) (hh.aR (i := 0) rfl) (by decide) (by decide) ⟨by kernel_rfl, by kernel_rfl, by kernel_rfl⟩) ar.out rfl (by decide) ?_
 rintro e_ w42 ⟨Ar10, ar10, Br10, br10, rfl, h2⟩
 refine ⟨_, rfl, ?_⟩
 replace hh := hh.join h2
 clear h2
 replace hh := hh.sub (List.Sublist.cons_cons _ (List.Sublist.cons_cons _ (List.Sublist.cons _ (List.Sublist.cons _ (List.Sublist.cons _ (List.Sublist.cons _ (List.Sublist.cons_cons _ (List.Sublist.cons_cons _ (List.Sublist.cons_cons _ (List.Sublist.cons_cons _ (List.Sublist.cons_cons _ (List.Sublist.cons_cons _ (List.Sublist.cons_cons _ (List.Sublist.cons_cons _ (List.Sublist.cons_cons _ (List.Sublist.cons_cons _ (List.Sublist.cons_cons _ (List.Sublist.cons_cons _ (List.Sublist.cons_cons _ (List.Sublist.cons_cons _ (List.Sublist.cons_cons _ (List.Sublist.cons_cons _ (List.Sublist.cons_cons _ (List.Sublist.cons_cons _ List.Sublist.slnil))))))))))))))))))))))))
 refine mT ?_
 refine dY ?_
 refine dY ?_
 refine bY hh ?_
 intro b10 w10 hh
 refine bK hh 0 [_,_] ?_
 intro ws hh
 replace hh : Hp _ (.blk _ _ [_, _] _ :: _) _ := hh
 refine aI (aa (sr ?_))
 refine bF hh (l0 7 _ (by decide) (by decide)) rfl ?_
 intro w46 hh
 refine aZ hh (cs := [_, _, _]) aG.out aC.out (aK (cH rfl) bL) rfl rfl (by decide) (by decide) (by decide) rfl (by decide) ?_
 intro b47 w47 hh
 refine fS [_,_] ?_
 refine aJ (vn _ _ _ (hT.hp hh) (hh.aR (i := 0) rfl)) ar.out rfl (by decide) ?_
 rintro e_ w49 ⟨rfl, hb_⟩
 refine ⟨_, rfl, ?_⟩
 replace hh := hh.ext hb_
 replace hh := hh.sub (List.Sublist.cons _ (List.Sublist.cons_cons _ (List.Sublist.cons_cons _ (List.Sublist.cons_cons _ (List.Sublist.cons_cons _ (List.Sublist.cons_cons _ (List.Sublist.cons_cons _ (List.Sublist.cons_cons _ (List.Sublist.cons_cons _ (List.Sublist.cons_cons _ (List.Sublist.cons_cons _ (List.Sublist.cons_cons _ (List.Sublist.cons_cons _ (List.Sublist.cons_cons _ (List.Sublist.cons_cons _ (List.Sublist.cons_cons _ (List.Sublist.cons_cons _ (List.Sublist.cons_cons _ (List.Sublist.cons_cons _ (List.Sublist.cons_cons _ (List.Sublist.cons_cons _ (List.Sublist.cons_cons _ List.Sublist.slnil))))))))))))))))))))))
 refine mT ?_
 refine dY ?_
 refine dY ?_
 refine dY ?_
 refine bY hh ?_
 intro b12 w12 hh
 refine bY hh ?_
 intro b13 w13 hh
 refine bK hh 1 [_,_] ?_
 intro ws hh
 replace hh : Hp _ (_ :: .blk _ _ [_, _] _ :: _) _ := hh
 refine bK hh 0 [_,_] ?_
 intro ws hh
 replace hh : Hp _ (.blk _ _ [_, _] _ :: _) _ := hh
 refine aI (aa (ah ?_))
 replace hh := hh.sub (List.Sublist.cons _ (List.Sublist.cons _ (List.Sublist.cons_cons _ (List.Sublist.cons_cons _ (List.Sublist.cons_cons _ (List.Sublist.cons_cons _ (List.Sublist.cons_cons _ (List.Sublist.cons_cons _ (List.Sublist.cons_cons _ (List.Sublist.cons_cons _ (List.Sublist.cons_cons _ (List.Sublist.cons_cons _ (List.Sublist.cons_cons _ (List.Sublist.cons_cons _ (List.Sublist.cons_cons _ (List.Sublist.cons_cons _ (List.Sublist.cons_cons _ (List.Sublist.cons_cons _ (List.Sublist.cons_cons _ (List.Sublist.cons_cons _ (List.Sublist.cons_cons _ (List.Sublist.cons_cons _ (List.Sublist.cons_cons _ List.Sublist.slnil)))))))))))))))))))))))
 refine jN [] [] [0, 0, 2, 7, 15, 31, 31, 95, 255, 511, 1023, 2047, 4095, 8191, 16383, 32767, 32767, 98303, 262143, 524287, 1048575, 2097151, 2097151, 6291455, 16777215, 33554431, 67108863, 134217727, 268435455, 536870911, 1073741823, 2147483647, 2147483647, 6442450943, 17179869183, 34359738367, 68719476735, 137438953471, 137438953471, 412316860415, 1099511627775, 2199023255551, 4398046511103, 8796093022207, 17592186044415, 35184372088831, 70368744177663, 140737488355327, 140737488355327, 422212465065983, 1125899906842623, 2251799813685247, 4503599627370495, 9007199254740991, 18014398509481983, 36028797018963967, 72057594037927935, 144115188075855871, 288230376151711743, 576460752303423487, 1152921504606846975] 50 [[(1, none)], [], [(54, some 1)], [(53, some 0), (55, some 2)], [(56, some 3)], [(2, none), (57, some 4)], [(57, some 4)], [(59, some 6), (57, some 4)], [(58, some 5), (60, some 7), (57, some 4)], [(57, some 4), (61, some 8)], [(62, some 9)], [(3, none), (63, some 10)], [(64, some 11), (63, some 10)], [(63, some 10), (65, some 12)], [(66, some 13)], [(4, none), (67, some 14)], [(67, some 14)], [(69, some 16), (67, some 14)], [(68, some 15), (70, some 17), (67, some 14)], [(67, some 14), (71, some 18)], [(72, some 19)], [(5, none), (73, some 20)], [(73, some 20)], [(75, some 22), (73, some 20)], [(74, some 21), (76, some 23), (73, some 20)], [(73, some 20), (77, some 24)], [(78, some 25)], [(6, none), (79, some 26)], [(80, some 27), (79, some 26)], [(79, some 26), (81, some 28)], [(82, some 29)], [(7, none), (83, some 30)], [(83, some 30)], [(85, some 32), (83, some 30)], [(84, some 31), (86, some 33), (83, some 30)], [(83, some 30), (87, some 34)], [(88, some 35)], [(8, none), (89, some 36)], [(89, some 36)], [(91, some 38), (89, some 36)], [(90, some 37), (92, some 39), (89, some 36)], [(89, some 36), (93, some 40)], [(94, some 41)], [(9, none), (95, some 42)], [(96, some 43), (95, some 42)], [(95, some 42), (97, some 44)], [(98, some 45)], [(10, none), (99, some 46)], [(99, some 46)], [(101, some 48), (99, some 46)]] [(49, 102), (48, 101), (47, 100), (46, 99), (45, 98), (44, 97), (43, 96), (42, 95), (41, 94), (40, 93), (39, 92), (38, 91), (37, 90), (36, 89), (35, 88), (34, 87), (33, 86), (32, 85), (31, 84), (30, 83), (29, 82), (28, 81), (27, 80), (26, 79), (25, 78), (24, 77), (23, 76), (22, 75), (21, 74), (20, 73), (19, 72), (18, 71), (17, 70), (16, 69), (15, 68), (14, 67), (13, 66), (12, 65), (11, 64), (10, 63), (9, 62), (8, 61), (7, 60), (6, 59), (5, 58), (4, 57), (3, 56), (2, 55), (1, 54), (0, 53)] hh mixed (by kernel_rfl) kZ rfl (by repeat (first | exact im | refine gg ?_ | refine iu ?_)) ?_
 refine fB 16 [_,_] ?_
 refine uM [_,_] ?_
 refine bJ (i := 2) (du [0, 2]) (du.ext) ?_ ?_
 ·intro ρ1 w1 hj hR
  obtain ⟨A54, c54, h54, s54⟩ := hR.1
  exact let ⟨A, c, e1, s1⟩ := hR.1; bQ rfl (bE ar.out (aE e1 bz)) (da [0, 2] A c w1 s1 (by decide) (by decide) (by decide)) (fun _ _ ⟨A2, a2, B2, b2, q1, q2⟩ => ⟨_, q1, q2.below, fP [0, 2] A2 a2 B2 b2, rfl, rfl, rfl, q2.dz List.mem_cons_self (List.mem_cons_of_mem _ List.mem_cons_self)⟩)
 refine bJ (i := 3) (Is (.bool true)) (Is.ext) ?_ ?_
 ·intro ρ1 w1 hj hR
  exact let ⟨g, e1, e2, e3, e4⟩ := hR.2.1; bQ rfl (bE ar.out (aE (show ρ1 53 = Value.agg (List.toArray _) from hR.1) (aE e1 bz))) (dy (fP [0, 2] Ar1 ar1 Br1 br1) g w1 (hj.hp.dz (List.mem_of_getElem? (i := 20) rfl) (List.mem_of_getElem? (i := 19) rfl)) e4 ⟨e2.symm, e3.symm⟩ (Nat.le_of_ble_eq_true rfl) (Nat.le_of_ble_eq_true rfl)) (fun _ _ ⟨q1, q2⟩ => ⟨_, q1, q2, rfl⟩)
 refine yx ?_
 first | refine dS ?_ | refine dU ?_ | refine dG (fB 15 [_,_] ?_)
 refine cO (i := 6) (cs := [_, _]) rfl (fun ρ1 w1 hj hR => (show ρ1 57 = Value.bool _ from hR.1)) aG.out aC.out (fun ρ1 w1 hj hR => (aK rfl (aK rfl bL))) rfl rfl (by decide) (by decide) rfl ?_
 refine bJ (i := 7) (du [2, 4]) (du.ext) ?_ ?_
 ·intro ρ1 w1 hj hR
  obtain ⟨A59, c59, h59, s59⟩ := hR.1
  exact let ⟨A, c, e1, s1⟩ := hR.1; bX rfl (show ρ1 57 = Value.bool _ from hR.2.1) (bQ rfl (bE ar.out (aE e1 bz)) (da [2, 4] A c w1 s1 (by decide) (by decide) (by decide)) (fun _ _ ⟨A2, a2, B2, b2, q1, q2⟩ => ⟨_, q1, q2.below, fP [2, 4] A2 a2 B2 b2, rfl, rfl, rfl, q2.dz List.mem_cons_self (List.mem_cons_of_mem _ List.mem_cons_self)⟩))
 refine bJ (i := 8) (Is (.bool true)) (Is.ext) ?_ ?_
 ·intro ρ1 w1 hj hR
  exact let ⟨g, e1, e2, e3, e4⟩ := hR.2.1; bX rfl (show ρ1 57 = Value.bool _ from hR.2.2.1) (bQ rfl (bE ar.out (aE (show ρ1 58 = Value.agg (List.toArray _) from hR.1) (aE e1 bz))) (dy (fP [2, 4] Ar2 ar2 Br2 br2) g w1 (hj.hp.dz (List.mem_of_getElem? (i := 17) rfl) (List.mem_of_getElem? (i := 18) rfl)) e4 ⟨e2.symm, e3.symm⟩ (Nat.le_of_ble_eq_true rfl) (Nat.le_of_ble_eq_true rfl)) (fun _ _ ⟨q1, q2⟩ => ⟨_, q1, q2, rfl⟩))
 first | refine yM ?_ | refine dpF ?_
 refine yx ?_
 first | refine dS ?_ | refine dU ?_ | refine dG (ee ?_)
 first | refine dS ?_ | refine dU ?_ | refine dG (zF ?_)
 first | refine yM ?_ | refine dpF ?_
 refine yx ?_
 first | refine dS ?_ | refine dU ?_ | refine dG (fB 10 [_,_] ?_)
 refine cO (i := 16) (cs := [_, _, _]) rfl (fun ρ1 w1 hj hR => (show ρ1 67 = Value.bool _ from hR.1)) aG.out aC.out (fun ρ1 w1 hj hR => (aK rfl (aK rfl (aK rfl bL)))) rfl rfl (by decide) (by decide) rfl ?_
 refine bJ (i := 17) (du [0, 0, 4]) (du.ext) ?_ ?_
 ·intro ρ1 w1 hj hR
  obtain ⟨A69, c69, h69, s69⟩ := hR.1
  exact let ⟨A, c, e1, s1⟩ := hR.1; bX rfl (show ρ1 67 = Value.bool _ from hR.2.1) (bQ rfl (bE ar.out (aE e1 bz)) (da [0, 0, 4] A c w1 s1 (by decide) (by decide) (by decide)) (fun _ _ ⟨A2, a2, B2, b2, q1, q2⟩ => ⟨_, q1, q2.below, fP [0, 0, 4] A2 a2 B2 b2, rfl, rfl, rfl, q2.dz List.mem_cons_self (List.mem_cons_of_mem _ List.mem_cons_self)⟩))
 refine bJ (i := 18) (Is (.bool true)) (Is.ext) ?_ ?_
 ·intro ρ1 w1 hj hR
  exact let ⟨g, e1, e2, e3, e4⟩ := hR.2.1; bX rfl (show ρ1 67 = Value.bool _ from hR.2.2.1) (bQ rfl (bE ar.out (aE (show ρ1 68 = Value.agg (List.toArray _) from hR.1) (aE e1 bz))) (dy (fP [0, 0, 4] Ar4 ar4 Br4 br4) g w1 (hj.hp.dz (List.mem_of_getElem? (i := 14) rfl) (List.mem_of_getElem? (i := 13) rfl)) e4 ⟨e2.symm, e3.symm⟩ (Nat.le_of_ble_eq_true rfl) (Nat.le_of_ble_eq_true rfl)) (fun _ _ ⟨q1, q2⟩ => ⟨_, q1, q2, rfl⟩))
 first | refine yM ?_ | refine dpF ?_
 refine yx ?_
 first | refine dS ?_ | refine dU ?_ | refine dG (fB 9 [_,_] ?_)
 refine cO (i := 22) (cs := [_, _, _]) rfl (fun ρ1 w1 hj hR => (show ρ1 73 = Value.bool _ from hR.1)) aG.out aC.out (fun ρ1 w1 hj hR => (aK rfl (aK rfl (aK rfl bL)))) rfl rfl (by decide) (by decide) rfl ?_
 refine bJ (i := 23) (du [4, 16, 16]) (du.ext) ?_ ?_
 ·intro ρ1 w1 hj hR
  obtain ⟨A75, c75, h75, s75⟩ := hR.1
  exact let ⟨A, c, e1, s1⟩ := hR.1; bX rfl (show ρ1 73 = Value.bool _ from hR.2.1) (bQ rfl (bE ar.out (aE e1 bz)) (da [4, 16, 16] A c w1 s1 (by decide) (by decide) (by decide)) (fun _ _ ⟨A2, a2, B2, b2, q1, q2⟩ => ⟨_, q1, q2.below, fP [4, 16, 16] A2 a2 B2 b2, rfl, rfl, rfl, q2.dz List.mem_cons_self (List.mem_cons_of_mem _ List.mem_cons_self)⟩))
 refine bJ (i := 24) (Is (.bool true)) (Is.ext) ?_ ?_
 ·intro ρ1 w1 hj hR
  exact let ⟨g, e1, e2, e3, e4⟩ := hR.2.1; bX rfl (show ρ1 73 = Value.bool _ from hR.2.2.1) (bQ rfl (bE ar.out (aE (show ρ1 74 = Value.agg (List.toArray _) from hR.1) (aE e1 bz))) (dy (fP [4, 16, 16] Ar5 ar5 Br5 br5) g w1 (hj.hp.dz (List.mem_of_getElem? (i := 11) rfl) (List.mem_of_getElem? (i := 12) rfl)) e4 ⟨e2.symm, e3.symm⟩ (Nat.le_of_ble_eq_true rfl) (Nat.le_of_ble_eq_true rfl)) (fun _ _ ⟨q1, q2⟩ => ⟨_, q1, q2, rfl⟩))
 first | refine yM ?_ | refine dpF ?_
 refine yx ?_
 first | refine dS ?_ | refine dU ?_ | refine dG (ee ?_)
 first | refine dS ?_ | refine dU ?_ | refine dG (zF ?_)
 first | refine yM ?_ | refine dpF ?_
 refine yx ?_
 first | refine dS ?_ | refine dU ?_ | refine dG (fB 4 [_,_] ?_)
 refine cO (i := 32) (cs := [_, _]) rfl (fun ρ1 w1 hj hR => (show ρ1 83 = Value.bool _ from hR.1)) aG.out aC.out (fun ρ1 w1 hj hR => (aK rfl (aK rfl bL))) rfl rfl (by decide) (by decide) rfl ?_
 refine bJ (i := 33) (du [0, 1]) (du.ext) ?_ ?_
 ·intro ρ1 w1 hj hR
  obtain ⟨A85, c85, h85, s85⟩ := hR.1
  exact let ⟨A, c, e1, s1⟩ := hR.1; bX rfl (show ρ1 83 = Value.bool _ from hR.2.1) (bQ rfl (bE ar.out (aE e1 bz)) (da [0, 1] A c w1 s1 (by decide) (by decide) (by decide)) (fun _ _ ⟨A2, a2, B2, b2, q1, q2⟩ => ⟨_, q1, q2.below, fP [0, 1] A2 a2 B2 b2, rfl, rfl, rfl, q2.dz List.mem_cons_self (List.mem_cons_of_mem _ List.mem_cons_self)⟩))
 refine bJ (i := 34) (Is (.bool true)) (Is.ext) ?_ ?_
 ·intro ρ1 w1 hj hR
  exact let ⟨g, e1, e2, e3, e4⟩ := hR.2.1; bX rfl (show ρ1 83 = Value.bool _ from hR.2.2.1) (bQ rfl (bE ar.out (aE (show ρ1 84 = Value.agg (List.toArray _) from hR.1) (aE e1 bz))) (dy (fP [0, 1] Ar7 ar7 Br7 br7) g w1 (hj.hp.dz (List.mem_of_getElem? (i := 8) rfl) (List.mem_of_getElem? (i := 7) rfl)) e4 ⟨e2.symm, e3.symm⟩ (Nat.le_of_ble_eq_true rfl) (Nat.le_of_ble_eq_true rfl)) (fun _ _ ⟨q1, q2⟩ => ⟨_, q1, q2, rfl⟩))
 first | refine yM ?_ | refine dpF ?_
 refine yx ?_
 first | refine dS ?_ | refine dU ?_ | refine dG (fB 3 [_,_] ?_)
 refine cO (i := 38) (cs := [_, _]) rfl (fun ρ1 w1 hj hR => (show ρ1 89 = Value.bool _ from hR.1)) aG.out aC.out (fun ρ1 w1 hj hR => (aK rfl (aK rfl bL))) rfl rfl (by decide) (by decide) rfl ?_
 refine bJ (i := 39) (du [1, 4]) (du.ext) ?_ ?_
 ·intro ρ1 w1 hj hR
  obtain ⟨A91, c91, h91, s91⟩ := hR.1
  exact let ⟨A, c, e1, s1⟩ := hR.1; bX rfl (show ρ1 89 = Value.bool _ from hR.2.1) (bQ rfl (bE ar.out (aE e1 bz)) (da [1, 4] A c w1 s1 (by decide) (by decide) (by decide)) (fun _ _ ⟨A2, a2, B2, b2, q1, q2⟩ => ⟨_, q1, q2.below, fP [1, 4] A2 a2 B2 b2, rfl, rfl, rfl, q2.dz List.mem_cons_self (List.mem_cons_of_mem _ List.mem_cons_self)⟩))
 refine bJ (i := 40) (Is (.bool true)) (Is.ext) ?_ ?_
 ·intro ρ1 w1 hj hR
  exact let ⟨g, e1, e2, e3, e4⟩ := hR.2.1; bX rfl (show ρ1 89 = Value.bool _ from hR.2.2.1) (bQ rfl (bE ar.out (aE (show ρ1 90 = Value.agg (List.toArray _) from hR.1) (aE e1 bz))) (dy (fP [1, 4] Ar8 ar8 Br8 br8) g w1 (hj.hp.dz (List.mem_of_getElem? (i := 5) rfl) (List.mem_of_getElem? (i := 6) rfl)) e4 ⟨e2.symm, e3.symm⟩ (Nat.le_of_ble_eq_true rfl) (Nat.le_of_ble_eq_true rfl)) (fun _ _ ⟨q1, q2⟩ => ⟨_, q1, q2, rfl⟩))
 first | refine yM ?_ | refine dpF ?_
 refine yx ?_
 first | refine dS ?_ | refine dU ?_ | refine dG (ee ?_)
 first | refine dS ?_ | refine dU ?_ | refine dG (zF ?_)
 first | refine yM ?_ | refine dpF ?_
 refine yx ?_
 first | refine dS ?_ | refine dU ?_ | refine dG (fB 0 [_,_] ?_)
 refine cO (i := 48) (cs := [_, _, _]) rfl (fun ρ1 w1 hj hR => (show ρ1 99 = Value.bool _ from hR.1)) aG.out aC.out (fun ρ1 w1 hj hR => (aK rfl (aK rfl (aK rfl bL)))) rfl rfl (by decide) (by decide) rfl ?_
 refine bJ (i := 49) (du [4, 12, 9]) (du.ext) ?_ ?_
 ·intro ρ1 w1 hj hR
  obtain ⟨A101, c101, h101, s101⟩ := hR.1
  exact let ⟨A, c, e1, s1⟩ := hR.1; bX rfl (show ρ1 99 = Value.bool _ from hR.2.1) (bQ rfl (bE ar.out (aE e1 bz)) (da [4, 12, 9] A c w1 s1 (by decide) (by decide) (by decide)) (fun _ _ ⟨A2, a2, B2, b2, q1, q2⟩ => ⟨_, q1, q2.below, fP [4, 12, 9] A2 a2 B2 b2, rfl, rfl, rfl, q2.dz List.mem_cons_self (List.mem_cons_of_mem _ List.mem_cons_self)⟩))
 refine bj ?_
 intro f W hJ hV _
 have hb_6 := hJ.bl
 obtain ⟨v102, v101, v100, v99, v98, v97, v96, v95, v94, v93, v92, v91, v90, v89, v88, v87, v86, v85, v84, v83, v82, v81, v80, v79, v78, v77, v76, v75, v74, v73, v72, v71, v70, v69, v68, v67, v66, v65, v64, v63, v62, v61, v60, v59, v58, v57, v56, v55, v54, v53, _⟩ := hV
 obtain ⟨A54, c54, e54, f54⟩ : Rows _ _ _ (f 1) W := v54
 obtain ⟨g55, e55, o55⟩ : du [0, 2] (f 2) W := v55
 obtain ⟨A59, c59, e59, f59⟩ : Rows _ _ _ (f 6) W := v59
 obtain ⟨g60, e60, o60⟩ : du [2, 4] (f 7) W := v60
 obtain ⟨A69, c69, e69, f69⟩ : Rows _ _ _ (f 16) W := v69
 obtain ⟨g70, e70, o70⟩ : du [0, 0, 4] (f 17) W := v70
 obtain ⟨A75, c75, e75, f75⟩ : Rows _ _ _ (f 22) W := v75
 obtain ⟨g76, e76, o76⟩ : du [4, 16, 16] (f 23) W := v76
 obtain ⟨A85, c85, e85, f85⟩ : Rows _ _ _ (f 32) W := v85
 obtain ⟨g86, e86, o86⟩ : du [0, 1] (f 33) W := v86
 obtain ⟨A91, c91, e91, f91⟩ : Rows _ _ _ (f 38) W := v91
 obtain ⟨g92, e92, o92⟩ : du [1, 4] (f 39) W := v92
 obtain ⟨A101, c101, e101, f101⟩ : Rows _ _ _ (f 48) W := v101
 obtain ⟨g102, e102, o102⟩ : du [4, 12, 9] (f 49) W := v102
 replace hh := hJ.hp
 refine aY (bm (ae e102 (ae e101 (ae v100 (ae v99 (ae v98 (ae v97 (ae v96 (ae v95 (ae v94 (ae v93 (ae e92 (ae e91 (ae v90 (ae v89 (ae v88 (ae v87 (ae e86 (ae e85 (ae v84 (ae v83 (ae v82 (ae v81 (ae v80 (ae v79 (ae v78 (ae v77 (ae e76 (ae e75 (ae v74 (ae v73 (ae v72 (ae v71 (ae e70 (ae e69 (ae v68 (ae v67 (ae v66 (ae v65 (ae v64 (ae v63 (ae v62 (ae v61 (ae e60 (ae e59 (ae v58 (ae v57 (ae v56 (ae e55 (ae e54 (ae v53 aX))))))))))))))))))))))))))))))))))))))))))))))))))) ?_
 dsimp only [ct]
 clear e54 e55 e59 e60 e69 e70 e75 e76 e85 e86 e91 e92 e101 e102 hJ
 refine a7 rfl rfl ?_
 refine bF hh (dy (fP [4, 12, 9] Ar10 ar10 Br10 br10) g102 _ (hh.dz (List.mem_of_getElem? (i := 1) rfl) (List.mem_of_getElem? (i := 2) rfl)) o102.2.2 ⟨o102.1.symm, o102.2.1.symm⟩ (Nat.le_of_ble_eq_true rfl) (Nat.le_of_ble_eq_true rfl)) rfl ?_
 intro w103 hh
 first | refine dq ?_ | refine dr ?_
 refine mB ?_
 first | refine gS ?_ | (refine gT ?_; refine mI ?_) | refine gV ?_
 first | refine gS ?_ | (refine gT ?_; refine dL ?_) | refine gV ?_
 first | refine dq ?_ | refine dr ?_
 refine mB ?_
 first | refine gS ?_ | (refine gT ?_; refine mI ?_) | refine gV ?_
 first | refine gS ?_ | (refine gT ?_; refine dL ?_) | refine gV ?_
 first | refine dq ?_ | refine dr ?_
 refine aB (aa (aq ?_))
 refine cC ?_
 exact ⟨rfl, hh.below⟩
end Go.Proofs.YtioilmppidlbnaaGreatDoor
/- What a call hands back stays, whatever is written to one's own blocks. Plain lemmas, no program in sight. -/
namespace Go.Proofs.YtioilmppidlbnaaGreatDoor
open Go.RowKit
end Go.Proofs.YtioilmppidlbnaaGreatDoor
/- The walk through the law CastCuts. -/
namespace Go.Proofs.YtioilmppidlbnaaGreatDoor
open Go.RowKit
def Bd (base : Nat) (E : Int) (D : List Nat) (ys : List Dyadic) : VP := fun v W => ∃ g : FX, v = .agg #[.slice g.A g.n g.a, .slice g.B g.m g.b] ∧ Out E D ys g ∧ ∃ w2 : World, base ≤ w2.heap.size ∧ Hp w2 [g.gp, g.fQ] W
def Bx (base : Nat) (E : Int) (D : List Nat) (ys zs : List Dyadic) : VP := fun v W => ∃ g h : FX, v = .tuple #[.agg #[.slice g.A g.n g.a, .slice g.B g.m g.b], .agg #[.slice h.A h.n h.a, .slice h.B h.m h.b], .int .i64 E] ∧ Out E D ys g ∧ Out E D zs h ∧ ∃ w2 : World, base ≤ w2.heap.size ∧ Hp w2 [h.gp, h.fQ, g.fQ, g.gp] W
theorem oz {f : FX} (h : f.oe) (h0 : f.e = 0) : ∀ d ∈ f.ns, d ≤ 6 := fun d hd => by
 obtain ⟨hdeg, -, -, hlow, -, -⟩ := FX.fv h0
 have h1 := hlow d hd
 have h2 := h.2.2.2 (d : Int) (by rw [hdeg]; unfold cm; exact List.mem_map_of_mem hd)
 omega
theorem rv {c : NR} (h : nV c = false) : ke 125 c c.d ∧ Sz 125 (1 - c.d) := by
 have h' := of_decide_eq_false h
 obtain ⟨h1, h2⟩ := Af h
 exact ⟨⟨h1, by omega, rfl, h2.mono (by omega)⟩, (Sz.one.mono (show 1 ≤ 124 by omega)).sub h2⟩
theorem vO {f : FX} (h : f.oe) (k q : Nat) (hk : k + 120 * (260 + 2 * (q * 6)) ≤ 300000) : f.e = 0 → ∀ d ∈ f.ns, k + f.m * (260 + 2 * (q * d)) ≤ 300000 := fun h0 d hd => by
 have h1 : q * d ≤ q * 6 := Nat.mul_le_mul_left _ (oz h h0 d hd)
 have h2 : f.m * (260 + 2 * (q * d)) ≤ 120 * (260 + 2 * (q * 6)) := Nat.mul_le_mul h.2.1 (by omega)
 omega
end Go.Proofs.YtioilmppidlbnaaGreatDoor
/- The walk through the law CastOrder. -/
namespace Go.Proofs.YtioilmppidlbnaaGreatDoor
open Go.RowKit
end Go.Proofs.YtioilmppidlbnaaGreatDoor
