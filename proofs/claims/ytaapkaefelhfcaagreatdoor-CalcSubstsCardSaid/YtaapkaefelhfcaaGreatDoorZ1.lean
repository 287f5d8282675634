/- Lemmas for calcSubsts, part 1. -/
import Derived.Test.YtaapkaefelhfcaaGreatDoorRows
import Derived.WalkKit
import Derived.ProofKit
import Derived.OpenShut
import Derived.Carry
import Derived.WalkLawsBesides
import Derived.Below
import Derived.Laws.OwnMore
import Derived.Laws.Rows
import Derived.RegionTactic
import Derived.ControlIn
import Derived.TacticsIn
import Derived.AtR
import Derived.Deep.AppendLies
import Derived.Maps.AppendAt
import Derived.OwnWalk
import Derived.Test.YtaapkaefelhfcaaGreatDoorProg
import Derived.KernelRfl
/- From a walk to a law's row: the arguments read behind the call as they did before. Plain lemmas. -/
namespace Go.Proofs.YtaapkaefelhfcaaGreatDoor
open Go.ChangeShapes Go.WideShapes Go.ChangeAt Go.RowKit
section
variable {H : Type} {enc : TypeId × Value → H} {P : Program}
theorem kR (hl : laidOutB P = true) {W W' : World} (hb : Below W.heap.size W W') (sp : Nat → Bool) : ∀ (ts : List TypeId) (vs : List Value) (ds : List (DataW H)) (ps : List MemPlace), (∀ t ∈ ts, P.readableRec t = true ∧ t < P.types.size) →
  (∀ x ∈ ps, x.block < W.heap.size) → (∀ x ∈ ps, sp x.block = true) → DataW.TrodAll enc P W 0 (fun _ => true) true ts vs ds ps → DataW.TrodAll enc P W' 0 sp true ts vs ds ps
 | [], vs, ds, ps, _, _, _, h => by
  obtain ⟨rfl, rfl, rfl⟩ := trodAll_nil h
  exact trodAll_mk0
 | t :: ts, vs, ds, ps, hr, hlt, hsp, h => by
  obtain ⟨v, vs', d, ds', p, q, rfl, rfl, rfl, h0, r0⟩ := trodAll_cons h
  refine trodAll_cons_mk (WideElems.Trod_stays hl (hr t List.mem_cons_self).1 (hr t List.mem_cons_self).2 h0 (fun x hx => hb.same (hlt x (List.mem_append_left _ hx))) (fun x hx => hsp x (List.mem_append_left _ hx)))
   (kR hl hb sp ts vs' ds' q (fun t ht => hr t (List.mem_cons_of_mem _ ht)) (fun x hx => hlt x (List.mem_append_right _ hx)) (fun x hx => hsp x (List.mem_append_right _ hx)) r0)
theorem y3 {f : Func} {s : ChangeSpec} {W W' : World} {args : Array Value} {ds : List (DataW H)} {before : List MemPlace} {tb : TypeId}
  (hW : DataW.Whole enc P f.params.toList s.vars false W args.toList ds [] before) (hv : s.vars = []) (hl : laidOutB P = true) (hr : ∀ t ∈ f.params.toList, P.readableRec t = true ∧ t < P.types.size)
  (hres : f.resultTypes = #[tb]) (hbool : P.underlying tb = some .bool) (hs1 : (s.fn H (ds ++ [])).results = [.lit (.bool true)]) (hs2 : (s.fn H (ds ++ [])).args = ds) (hs3 : (s.fn H (ds ++ [])).vars = []) (hb : Below W.heap.size W W') :
  s.post enc P f false true false false W args (.bool true) W' := by
 have hlt : ∀ p ∈ before, p.block < W.heap.size := fun p hp => by simpa using hW.lt p hp
 have hold : ∀ p ∈ before, (fun b => decide (b < W.heap.size)) p.block = true := fun p hp => by simpa using hlt p hp
 have hW0 := hW
 obtain ⟨pa, pv, hA, hV, hps, hz, hn⟩ := hW0
 rw [hv] at hV
 obtain ⟨_, rfl⟩ := trodVars_none hV
 have hbp : before = pa := by rw [hps, List.append_nil]
 subst hbp
 have hA' : ∀ sp : Nat → Bool, (∀ p ∈ before, sp p.block = true) → DataW.TrodAll enc P W' 0 sp true f.params.toList args.toList (s.fn H (ds ++ [])).args before := fun sp hsp => by
  rw [hs2]
  exact kR hl hb sp _ _ _ _ hr hlt hsp hA
 have hV' : ∀ sp : Nat → Bool, DataW.TrodVars enc P W' sp s.vars (s.fn H (ds ++ [])).vars [] := fun sp => by
  rw [hv, hs3]; rfl
 have hR : ∀ (b : Nat) (sp : Nat → Bool) (hd : Bool), DataW.TrodAll enc P W' b sp hd f.resultTypes.toList ((Value.bool true).resultList f.resultTypes.size) (s.fn H (ds ++ [])).results [] := fun b sp hd => by
  rw [hres, hs1]
  exact trodAll_cons_mk (shut_bool hbool _) trodAll_mk0
 refine ⟨ds, [], before, [], before, [], hW, hR _ _ _, hA' _ hold, hV' _, World.keptBut_mono (fun p hp => ⟨hp, ?_⟩) (hb.frame (· ∈ before)), fun _ => ?_⟩
 ·exact .inr (.inl hp)
 ·refine ⟨ok_one hres rfl (okWide_bool_mk hbool _), _, _, ([] ++ before) ++ [], ⟨[] ++ before, [], trodAll_append (hA' _ (fun _ _ => rfl)) (hR _ _ _), hV' _, rfl, ?_, ?_⟩, ?_⟩
  ·intro b off hp
   have hp2 := hz b off (by simpa using hp)
   rw [hb.frozen (hlt _ (by simpa using hp))]
   exact hp2
  ·intro ha
   cases ha
  ·intro p hp _
   simpa using hp
end
end Go.Proofs.YtaapkaefelhfcaaGreatDoor
/- Several texts in one: Vc, Ops, Mem, Mem2, Mem3, OpsU, Steps. -/
namespace Go.Proofs.YtaapkaefelhfcaaGreatDoor
open Go.RowKit
abbrev Rf := Nat → Value
def cL (ρ : Rf) (d : Nat) (v : Value) : Rf := fun i => bif Nat.beq i d then v else ρ i
def ev (ρ : Rf) : Operand → Value
 | .tmp t => ρ t
 | .const v => v
 | .global g => .pointer (some ⟨g, 0, none⟩)
 | .func f => .func (.func f) #[] #[]
structure fJ (N : Nat) (D : List Deferred) (a : Act) (ρ : Rf) : Prop where
 nd : a.defers = D
 sz : a.tmps.size = N
 at_ : ∀ i, a.tmps.getD i undef = ρ i
abbrev Fits (N : Nat) (a : Act) (ρ : Rf) : Prop := fJ N [] a ρ
theorem fJ.eval {N : Nat} {D : List Deferred} {a : Act} {ρ : Rf} (h : fJ N D a ρ) : a.eval = ev ρ := by
 funext x
 cases x with
 | tmp t => exact h.at_ t
 | _ => rfl
theorem lI (ρ : Rf) (d : Nat) (v : Value) : cL ρ d v d = v := by simp [cL]
theorem gK (ρ : Rf) {d i : Nat} (h : i ≠ d) (v : Value) : cL ρ d v i = ρ i := by
 have hb : Nat.beq i d = false := by
  cases hb : Nat.beq i d
  ·rfl
  ·exact absurd (Nat.eq_of_beq_eq_true hb) h
 simp only [cL, hb, cond_false]
theorem fJ.put {N : Nat} {D : List Deferred} {a : Act} {ρ : Rf} (h : fJ N D a ρ) {d : Nat} (hd : d < N) (v : Value) : fJ N D (a.put (some d) v) (cL ρ d v) := by
 refine ⟨h.nd, by simp [Act.put, h.sz], fun i => ?_⟩
 by_cases hi : i = d
 ·subst hi
  rw [lI]
  simp [Act.put, h.sz, hd]
 ·rw [gK ρ hi, ← h.at_ i]
  have : d ≠ i := fun e => hi e.symm
  simp [Act.put, Array.getElem?_setIfInBounds_ne this]
abbrev Kq := Exit → Rf → World → Prop
def fc (N : Nat) (D : List Deferred) (Q : Kq) : Exit → Act → World → Prop := fun e a w => ∃ ρ, fJ N D a ρ ∧ Q e ρ w
abbrev lift (N : Nat) (Q : Kq) : Exit → Act → World → Prop := fc N [] Q
structure Mode where
 round : Option Nat := none
 D : List Deferred := []
 any : Bool := false
abbrev Mode.plain : Mode := {}
def FW (ro : Option Nat) : Fence := { Fence.wide with round := ro }
structure WC (ro : Mode) (P : Program) (N : Nat) (c : Code) (Q : Kq) (ρ : Rf) (w : World) : Prop where
 jQ : ro.any = false → ∀ a, fJ N ro.D a ρ → c.wp P (fc N ro.D Q) a w
 kP : ∀ a, fJ N ro.D a ρ → ∀ n, c.wpIn (FW ro.round) n P (fc N ro.D Q) a w
structure WL (ro : Mode) (P : Program) (N : Nat) (ops : Array Oper) (Q : Kq) (l : List Oper) (ρ : Rf) (w : World) : Prop where
 jQ : ro.any = false → ∀ a, fJ N ro.D a ρ → wpList P ops (fc N ro.D Q) l a w
 kP : ∀ a, fJ N ro.D a ρ → ∀ n, wpListIn (FW ro.round) n P ops (fc N ro.D Q) l a w
def eo (next : Rf → World → Prop) (Q : Kq) : Kq
 | .normal, ρ, w => next ρ w
 | e, ρ, w => Q e ρ w
def m3 (id : Nat) (Q : Kq) : Kq
 | .exit id', ρ, w => if id' = id then Q .normal ρ w else Q (.exit id') ρ w
 | e, ρ, w => Q e ρ w
section code
variable {ro : Mode} {P : Program} {N : Nat} {Q : Kq} {ρ : Rf} {w : World}
theorem WC.lO {D : List Deferred} {c : Code} (h : ∀ a, fJ N D a ρ → c.wp P (fc N D Q) a w) : WC ⟨none, D, false⟩ P N c Q ρ w := ⟨fun _ => h, fun a hf _ => wpIn_wide.2 (h a hf)⟩
theorem WC.out {D : List Deferred} {c : Code} (h : WC ⟨none, D, false⟩ P N c Q ρ w) : ∀ a, fJ N D a ρ → c.wp P (fc N D Q) a w := h.jQ rfl
theorem WL.out {D : List Deferred} {ops : Array Oper} {l : List Oper} (h : WL ⟨none, D, false⟩ P N ops Q l ρ w) : ∀ a, fJ N D a ρ → wpList P ops (fc N D Q) l a w := h.jQ rfl
theorem pU {D : List Deferred} {Q Q' : Kq} (h : ∀ e ρ w, Q e ρ w → Q' e ρ w) (e : Exit) (a : Act) (w : World) : fc N D Q e a w → fc N D Q' e a w :=
 fun ⟨ρ, hf, hq⟩ => ⟨ρ, hf, h _ _ _ hq⟩
theorem WC.mono {c : Code} {Q' : Kq} (h : WC ro P N c Q ρ w) (hq : ∀ e ρ w, Q e ρ w → Q' e ρ w) : WC ro P N c Q' ρ w :=
 ⟨fun hm a hf => wp_mono (h.jQ hm a hf) (pU hq), fun a hf n => wpIn_mono (h.kP a hf n) (pU hq)⟩
theorem ah {x y : Code} (h : WC ro P N x (eo (fun ρ w => WC ro P N y Q ρ w) Q) ρ w) : WC ro P N (.seq x y) Q ρ w :=
 ⟨fun hm a hf => wp_seq (wp_mono (h.jQ hm a hf) fun e a' w' ⟨ρ', hf', hq⟩ => by
  cases e with
  | normal => exact hq.jQ hm a' hf'
  | _ => exact ⟨ρ', hf', hq⟩),
 fun a hf n => wpIn_seq (wpIn_mono (h.kP a hf n) fun e a' w' ⟨ρ', hf', hq⟩ => by
  cases e with
  | normal => exact hq.kP a' hf' n
  | _ => exact ⟨ρ', hf', hq⟩)⟩
theorem aj (h : Q .normal ρ w) : WC ro P N .skip Q ρ w := ⟨fun _ _ hf => wp_skip ⟨ρ, hf, h⟩, fun _ hf _ => wpIn_skip ⟨ρ, hf, h⟩⟩
theorem ao (h : Q .ret ρ w) : WC ro P N .ret Q ρ w := ⟨fun _ _ hf => wp_ret ⟨ρ, hf, h⟩, fun _ hf _ => wpIn_ret ⟨ρ, hf, h⟩⟩
theorem aP {id : Nat} (h : Q (.exit id) ρ w) : WC ro P N (.exit id) Q ρ w := ⟨fun _ _ hf => wp_exit ⟨ρ, hf, h⟩, fun _ hf _ => wpIn_exit ⟨ρ, hf, h⟩⟩
theorem al {id : Nat} {c : Code} (h : WC ro P N c (m3 id Q) ρ w) : WC ro P N (.block id c) Q ρ w :=
 have key : ∀ (D : List Deferred) e a' w', fc N D (m3 id Q) e a' w' → Exit.inBlock id (fc N D Q) e a' w' := fun D e a' w' ⟨ρ', hf', hq⟩ => by
  cases e with
  | exit id' =>
   by_cases hid : id' = id
   ·simp only [m3, hid, if_true] at hq
    simp only [Exit.inBlock, hid, if_true]
    exact ⟨ρ', hf', hq⟩
   ·simp only [m3, hid, if_false] at hq
    simp only [Exit.inBlock, hid, if_false]
    exact ⟨ρ', hf', hq⟩
  | _ => exact ⟨ρ', hf', hq⟩
 ⟨fun hm a hf => wp_block (wp_mono (h.jQ hm a hf) (key _)), fun a hf n => wpIn_block (wpIn_mono (h.kP a hf n) (key _))⟩
theorem xe {c : Operand} {x y : Code} (hc : ev ρ c = .bool true) (h : WC ro P N x Q ρ w) : WC ro P N (.cond c x y) Q ρ w :=
 ⟨fun hm a hf => wp_cond_true (by rw [hf.eval]; exact hc) (h.jQ hm a hf), fun a hf n => wpIn_cond_true (by rw [hf.eval]; exact hc) (h.kP a hf n)⟩
theorem wY {c : Operand} {x y : Code} (hc : ev ρ c = .bool false) (h : WC ro P N y Q ρ w) : WC ro P N (.cond c x y) Q ρ w :=
 ⟨fun hm a hf => wp_cond_false (by rw [hf.eval]; exact hc) (h.jQ hm a hf), fun a hf n => wpIn_cond_false (by rw [hf.eval]; exact hc) (h.kP a hf n)⟩
theorem aq {id : Nat} {l : List Oper} (h : WL ro P N l.toArray Q l ρ w) : WC ro P N (.region id l.toArray false) Q ρ w :=
 ⟨fun hm a hf => wp_region_lit (h.jQ hm a hf), fun a hf n => wpIn_region_lit (h.kP a hf n)⟩
theorem ai {next : Rf → World → Prop} (h : next ρ w) : eo next Q .normal ρ w := h
theorem az {next : Rf → World → Prop} (h : Q .ret ρ w) : eo next Q .ret ρ w := h
theorem ay {next : Rf → World → Prop} {id : Nat} (h : Q (.exit id) ρ w) : eo next Q (.exit id) ρ w := h
theorem aW {id : Nat} (h : Q .normal ρ w) : m3 id Q .normal ρ w := h
theorem br {id : Nat} (h : Q .ret ρ w) : m3 id Q .ret ρ w := h
theorem a6 {id : Nat} (h : Q .normal ρ w) : m3 id Q (.exit id) ρ w := by simpa [m3] using h
def mask (mods : List Nat) (ρ' ρ : Rf) : Rf := fun i => bif mods.contains i then ρ' i else ρ i
def g6 (mods : List Nat) (ρ1 ρ : Rf) : Prop := ∀ i, mods.contains i = false → ρ1 i = ρ i
theorem aw (mods : List Nat) (ρ' ρ : Rf) : g6 mods (mask mods ρ' ρ) ρ := fun i hi => by simp only [mask, hi, cond_false]
theorem ax {mods : List Nat} {ρ1 ρ : Rf} {d : Nat} {v : Value} (hd : mods.contains d = true) (h : g6 mods ρ1 ρ) : g6 mods (cL ρ1 d v) ρ := fun i hi => by
 rw [gK ρ1 (fun e => by rw [e, hd] at hi; cases hi)]
 exact h i hi
theorem ar {mods mods2 : List Nat} {ρ' ρ1 ρ : Rf} (hm : (mods2.all fun i => mods.contains i) = true) (h : g6 mods ρ1 ρ) : g6 mods (mask mods2 ρ' ρ1) ρ := fun i hi => by
 have h2 : mods2.contains i = false := by
  cases hc : mods2.contains i with
  | false => rfl
  | true =>
   have := List.all_eq_true.1 hm i (by simpa using hc)
   rw [this] at hi; cases hi
 simp only [mask, h2, cond_false]
 exact h i hi
theorem iw {mods : List Nat} {ρ1 ρ : Rf} (h : g6 mods ρ1 ρ) : mask mods ρ1 ρ = ρ1 := by
 funext i
 simp only [mask]
 cases hc : mods.contains i with
 | true => rfl
 | false => simpa using (h i hc).symm
theorem iB (ρ : Rf) (d : Nat) : cL ρ d (ρ d) = ρ := by
 funext i
 by_cases h : i = d
 ·subst h; rw [lI]
 ·rw [gK ρ h]
theorem nL {c : Code} (I : Rf → World → Prop) (μ : Rf → World → Nat) (h0 : I ρ w)
  (round : ∀ ρ w, I ρ w → WC ro P N c (eo (fun ρ' w' => I ρ' w' ∧ μ ρ' w' < μ ρ w) Q) ρ w) : WC ro P N (.loop c) Q ρ w := by
 refine ⟨fun hm a hf => ?_, fun a hf n => ?_⟩
 ·refine wp_loop (fun a w => ∃ ρ, fJ N ro.D a ρ ∧ I ρ w) (fun a w => μ (fun i => a.tmps.getD i undef) w) ⟨ρ, hf, h0⟩ ?_
  rintro a w ⟨ρ, hf, hi⟩
  refine wp_mono ((round ρ w hi).jQ hm a hf) ?_
  rintro e a' w' ⟨ρ', hf', hq⟩
  have e1 : (fun i => a.tmps.getD i undef) = ρ := funext hf.at_
  have e2 : (fun i => a'.tmps.getD i undef) = ρ' := funext hf'.at_
  cases e with
  | normal => exact ⟨⟨ρ', hf', hq.1⟩, by rw [e1, e2]; exact hq.2⟩
  | _ => exact ⟨ρ', hf', hq⟩
 ·refine wpIn_loop (fun a w => ∃ ρ, fJ N ro.D a ρ ∧ I ρ w) (fun a w => μ (fun i => a.tmps.getD i undef) w) ⟨ρ, hf, h0⟩ ?_
  rintro a w ⟨ρ, hf, hi⟩
  refine wpIn_mono ((round ρ w hi).kP a hf n) ?_
  rintro e a' w' ⟨ρ', hf', hq⟩
  have e1 : (fun i => a.tmps.getD i undef) = ρ := funext hf.at_
  have e2 : (fun i => a'.tmps.getD i undef) = ρ' := funext hf'.at_
  cases e with
  | normal => exact ⟨⟨ρ', hf', hq.1⟩, by rw [e1, e2]; exact hq.2⟩
  | _ => exact ⟨ρ', hf', hq⟩
theorem pd {c : Code} (mods : List Nat) (I : World → Prop) (μ : World → Nat) (h0 : I  w)
  (round : ∀ ρ' w', I  w' → WC ro P N c (eo (fun ρ2 w2 => I  w2 ∧ μ  w2 < μ  w' ∧ g6 mods ρ2 ρ) Q) (mask mods ρ' ρ) w') : WC ro P N (.loop c) Q ρ w :=
 nL (fun ρ1 w1 => I  w1 ∧ g6 mods ρ1 ρ) (fun ρ1 w1 => μ  w1) ⟨h0, fun _ _ => rfl⟩ fun ρ1 w1 ⟨hi, ha⟩ => by
  have h := round ρ1  w1 hi
  rw [iw ha] at h
  exact h.mono fun e ρ2 w2 hq => by
   cases e with
   | normal => exact ⟨⟨hq.1, hq.2.2⟩, hq.2.1⟩
   | _ => exact hq
theorem bs {c : Code} (mods : List Nat) (s0 : Nat) (I : Value → World → Prop) (μ : Value → World → Nat) (h0 : I (ρ s0) w)
  (round : ∀ ρ' v0 w', I v0 w' → WC ro P N c (eo (fun ρ2 w2 => I (ρ2 s0) w2 ∧ μ (ρ2 s0) w2 < μ v0 w' ∧ g6 mods ρ2 ρ) Q) (cL (mask mods ρ' ρ) s0 v0) w') : WC ro P N (.loop c) Q ρ w :=
 nL (fun ρ1 w1 => I (ρ1 s0) w1 ∧ g6 mods ρ1 ρ) (fun ρ1 w1 => μ (ρ1 s0) w1) ⟨h0, fun _ _ => rfl⟩ fun ρ1 w1 ⟨hi, ha⟩ => by
  have h := round ρ1 (ρ1 s0) w1 hi
  rw [iw ha, iB] at h
  exact h.mono fun e ρ2 w2 hq => by
   cases e with
   | normal => exact ⟨⟨hq.1, hq.2.2⟩, hq.2.1⟩
   | _ => exact hq
theorem ct {c : Code} (mods : List Nat) (s0 s1 : Nat) (I : Value → Value → World → Prop) (μ : Value → Value → World → Nat) (h0 : I (ρ s0) (ρ s1) w)
  (round : ∀ ρ' v0 v1 w', I v0 v1 w' → WC ro P N c (eo (fun ρ2 w2 => I (ρ2 s0) (ρ2 s1) w2 ∧ μ (ρ2 s0) (ρ2 s1) w2 < μ v0 v1 w' ∧ g6 mods ρ2 ρ) Q) (cL (cL (mask mods ρ' ρ) s0 v0) s1 v1) w') : WC ro P N (.loop c) Q ρ w :=
 nL (fun ρ1 w1 => I (ρ1 s0) (ρ1 s1) w1 ∧ g6 mods ρ1 ρ) (fun ρ1 w1 => μ (ρ1 s0) (ρ1 s1) w1) ⟨h0, fun _ _ => rfl⟩ fun ρ1 w1 ⟨hi, ha⟩ => by
  have h := round ρ1 (ρ1 s0) (ρ1 s1) w1 hi
  rw [iw ha, iB, iB] at h
  exact h.mono fun e ρ2 w2 hq => by
   cases e with
   | normal => exact ⟨⟨hq.1, hq.2.2⟩, hq.2.1⟩
   | _ => exact hq
theorem tr {c : Code} (mods : List Nat) (s0 s1 s2 : Nat) (I : Value → Value → Value → World → Prop) (μ : Value → Value → Value → World → Nat) (h0 : I (ρ s0) (ρ s1) (ρ s2) w)
  (round : ∀ ρ' v0 v1 v2 w', I v0 v1 v2 w' → WC ro P N c (eo (fun ρ2 w2 => I (ρ2 s0) (ρ2 s1) (ρ2 s2) w2 ∧ μ (ρ2 s0) (ρ2 s1) (ρ2 s2) w2 < μ v0 v1 v2 w' ∧ g6 mods ρ2 ρ) Q) (cL (cL (cL (mask mods ρ' ρ) s0 v0) s1 v1) s2 v2) w') : WC ro P N (.loop c) Q ρ w :=
 nL (fun ρ1 w1 => I (ρ1 s0) (ρ1 s1) (ρ1 s2) w1 ∧ g6 mods ρ1 ρ) (fun ρ1 w1 => μ (ρ1 s0) (ρ1 s1) (ρ1 s2) w1) ⟨h0, fun _ _ => rfl⟩ fun ρ1 w1 ⟨hi, ha⟩ => by
  have h := round ρ1 (ρ1 s0) (ρ1 s1) (ρ1 s2) w1 hi
  rw [iw ha, iB, iB, iB] at h
  exact h.mono fun e ρ2 w2 hq => by
   cases e with
   | normal => exact ⟨⟨hq.1, hq.2.2⟩, hq.2.1⟩
   | _ => exact hq
end code
inductive yO (P : Program) (ρ : Rf) (w : World) : ResultVar → Value → Prop
 | tmp (t : Tmp) {v : Value} (h : ρ t = v) : yO P ρ w (.tmp t) v
 | cell (p : Tmp) (t : TypeId) {a : Addr} {v : Value} (hp : ρ p = .pointer (some a)) (h : (loadVar t a).run P w = .ok v w) : yO P ρ w (.cell p t) v
def gr (P : Program) (ρ : Rf) (w : World) : List ResultVar → List Value → Prop
 | [], [] => True
 | r :: rs, v :: vs => yO P ρ w r v ∧ gr P ρ w rs vs
 | _, _ => False
def ti : List Value → Value
 | [v] => v
 | vs => .tuple vs.toArray
def kN (P : Program) (fn : Func) (R : Ending → World → Prop) : Kq := fun e ρ w =>
 (e = .normal ∨ e = .ret) ∧ ∃ v, (∀ tmps : Array Value, (∀ i, tmps.getD i undef = ρ i) → (results fn tmps).run P w = .ok v w) ∧ R (.returned v) w
theorem vQ {P : Program} {ρ : Rf} {w : World} {f : ResultVar → Sem Value} (h1 : ∀ t, (f (.tmp t)).run P w = .ok (ρ t) w)
  (h2 : ∀ p t a v, ρ p = .pointer (some a) → (loadVar t a).run P w = .ok v w → (f (.cell p t)).run P w = .ok v w) : ∀ (rs : List ResultVar) (vs : List Value), gr P ρ w rs vs →
  (rs.mapM f).run P w = .ok vs w
 | [], [], _ => by simp
 | [], _ :: _, h => h.elim
 | _ :: _, [], h => h.elim
 | r :: rs, v :: vs, h => by
  have ih := vQ h1 h2 rs vs h.2
  obtain ⟨h3, _⟩ := h
  rw [List.mapM_cons]
  cases h3 with
  | tmp t hv => rw [Sem.run_bind, h1, Result.andThen_ok, Sem.run_bind, ih, Result.andThen_ok, Sem.run_pure, hv]
  | cell p t hp hl => rw [Sem.run_bind, h2 _ _ _ _ hp hl, Result.andThen_ok, Sem.run_bind, ih, Result.andThen_ok, Sem.run_pure]
theorem jD {P : Program} {fn : Func} {R : Ending → World → Prop} {ρ : Rf} {w : World} {rs : List ResultVar} {vs : List Value} {e : Exit} (he : e = .normal ∨ e = .ret) (hr : fn.results = rs.toArray)
  (hv : gr P ρ w rs vs) (h : R (.returned (ti vs)) w) : kN P fn R e ρ w := by
 refine ⟨he, ti vs, fun tmps ht => ?_, h⟩
 unfold results
 rw [hr, Sem.run_bind, List.mapM_toArray, Sem.run_map, vQ (ρ := ρ) (fun t => by simp [ht]) (fun p t a v hp hl => by simp [ht, hp, asAddr, hl]) rs vs hv]
 simp only [Result.andThen_ok]
 match vs with
 | [] => simp [ti]
 | [v] => simp [ti]
 | _ :: _ :: _ => simp [ti]
theorem a7 {P : Program} {ρ : Rf} {w : World} : gr P ρ w [] [] := trivial
theorem bS {P : Program} {ρ : Rf} {w : World} {t : Tmp} {v : Value} {rs : List ResultVar} {vs : List Value} (h : ρ t = v) (k : gr P ρ w rs vs) : gr P ρ w (.tmp t :: rs) (v :: vs) := ⟨.tmp t h, k⟩
theorem aG {P : Program} {ρ : Rf} {w : World} {p : Tmp} {t : TypeId} {a : Addr} {v : Value} {rs : List ResultVar} {vs : List Value} (hp : ρ p = .pointer (some a)) (h : (loadVar t a).run P w = .ok v w) (k : gr P ρ w rs vs) : gr P ρ w (.cell p t :: rs) (v :: vs) := ⟨.cell p t hp h, k⟩
theorem CS {P : Program} {fn : Func} {R : Ending → World → Prop} {ρ : Rf} {w : World} {t : Tmp} {e : Exit} {v : Value} (he : e = .normal ∨ e = .ret) (hr : fn.results = #[.tmp t]) (hv : ρ t = v) (h : R (.returned v) w) : kN P fn R e ρ w :=
 jD he hr (bS hv a7) h
theorem CG {P : Program} {fn : Func} {R : Ending → World → Prop} {ρ : Rf} {w : World} {t u : Tmp} {e : Exit} {v x : Value} (he : e = .normal ∨ e = .ret) (hr : fn.results = #[.tmp t, .tmp u]) (hv : ρ t = v) (hx : ρ u = x) (h : R (.returned (.tuple #[v, x])) w) : kN P fn R e ρ w :=
 jD he hr (bS hv (bS hx a7)) h
theorem CD {P : Program} {fn : Func} {R : Ending → World → Prop} {ρ : Rf} {w : World} {t u s : Tmp} {e : Exit} {v x y : Value} (he : e = .normal ∨ e = .ret) (hr : fn.results = #[.tmp t, .tmp u, .tmp s]) (hv : ρ t = v) (hx : ρ u = x) (hy : ρ s = y) (h : R (.returned (.tuple #[v, x, y])) w) : kN P fn R e ρ w :=
 jD he hr (bS hv (bS hx (bS hy a7))) h
theorem Cl {P : Program} {fn : Func} {R : Ending → World → Prop} {ρ : Rf} {w : World} {e : Exit} (he : e = .normal ∨ e = .ret) (hr : fn.results = #[]) (h : R (.returned (.tuple #[])) w) : kN P fn R e ρ w :=
 jD he hr a7 h
theorem Cc {P : Program} {fn : Func} {R : Ending → World → Prop} {ρ : Rf} {w : World} {r : ResultVar} {e : Exit} {v : Value} (he : e = .normal ∨ e = .ret) (hr : fn.results = #[r]) (h1 : gr P ρ w [r] [v]) (h : R (.returned v) w) : kN P fn R e ρ w :=
 jD he hr h1 h
theorem Cd {P : Program} {fn : Func} {R : Ending → World → Prop} {ρ : Rf} {w : World} {r s : ResultVar} {e : Exit} {v x : Value} (he : e = .normal ∨ e = .ret) (hr : fn.results = #[r, s]) (h1 : gr P ρ w [r, s] [v, x]) (h : R (.returned (.tuple #[v, x])) w) : kN P fn R e ρ w :=
 jD he hr h1 h
theorem Cf {P : Program} {fn : Func} {R : Ending → World → Prop} {ρ : Rf} {w : World} {r s t : ResultVar} {e : Exit} {v x y : Value} (he : e = .normal ∨ e = .ret) (hr : fn.results = #[r, s, t]) (h1 : gr P ρ w [r, s, t] [v, x, y]) (h : R (.returned (.tuple #[v, x, y])) w) : kN P fn R e ρ w :=
 jD he hr h1 h
def AP (l : List Value) : Rf := fun i => l.getD i undef
theorem ak {P : Program} {f : FuncId} {fn : Func} {c : Code} {N : Nat} {l : List Value} {w : World} {R : Ending → World → Prop}
  (hf : P.funcs[f]? = some fn) (hb : fn.body = some c) (hn : fn.ntmps = N) (ha : l.length ≤ N)
  (h : WC .plain P N c (kN P fn R) (AP l) w) : Calls P f l.toArray w R := by
 refine calls_of_wp hf hb ?_
 refine wp_mono (h.out _ ⟨rfl, by simp [hn]; omega, fun i => ?_⟩) ?_
 ·simp only [AP]
  rcases Nat.lt_or_ge i l.length with hi | hi
  ·rw [Array.getD_eq_getD_getElem?, Array.getElem?_append_left (by simpa using hi)]
   simp [List.getD_eq_getElem?_getD]
  ·rw [Array.getD_eq_getD_getElem?, Array.getElem?_append_right (by simpa using hi)]
   simp only [List.getD_eq_getElem?_getD, List.getElem?_eq_none hi, Option.getD_none, Array.getElem?_replicate]
   split <;> rfl
 ·rintro e a w' ⟨ρ', hf', he, v, hr, hR⟩
  rcases he with rfl | rfl <;> exact ⟨hf'.nd, v, hr _ hf'.at_, hR⟩
end Go.Proofs.YtaapkaefelhfcaaGreatDoor
namespace Go.Proofs.YtaapkaefelhfcaaGreatDoor
open Go.RowKit
section
variable {ro : Mode} {P : Program} {N : Nat} {ops : Array Oper} {Q : Kq} {ρ : Rf} {w : World} {rest : List Oper}
theorem kz {f : Operand → Value} {o : Oper} {x : Next} {w' : World} (ro : Option Nat) (h : (execOp f o).run P w = .ok x w') (hx : ∀ d, x ≠ .defer d) : (o.semAt ro f).run P w = .ok x w' := by
 cases hop : o.op with
 | defer c =>
  exfalso
  unfold execOp at h
  rw [hop] at h
  simp only [Sem.run_bind] at h
  cases h2 : (resolve f c o.type).run P w with
  | ok v w2 =>
   rw [h2] at h
   simp at h
   exact hx _ h.1.symm
  | halt e w2 =>
   rw [h2] at h
   simp [Result.andThen] at h
 | _ => rw [Oper.semAt_eq _ _ _ (by rw [hop]; intro c hc; cases hc)]; exact h
theorem sZ {r1 : Option Nat} {n : Nat} {f : FuncId} {args : Array Value} {R : Ending → World → Prop} (h : Calls P f args w R) : CallsIn (FW r1) n P f args w R := (callsIn_wide (n := n)).2 h
theorem aE (h : Q .normal ρ w) : WL ro P N ops Q [] ρ w := ⟨fun _ _ hf => wpList_nil ⟨ρ, hf, h⟩, fun _ hf _ => wpListIn_nil ⟨ρ, hf, h⟩⟩
theorem ae {next : Rf → World → Prop} {Q' : Kq} (h : next ρ w) : WL ro P N ops (eo next Q') [] ρ w := aE h
theorem a8 {o : Oper} {d : Nat} {v : Value} {w' : World} (hg : o.guard = none) (hd : o.dst = some d) (hN : d < N)
  (hr : (execOp (ev ρ) o).run P w = .ok (.value v) w') (k : WL ro P N ops Q rest (cL ρ d v) w') : WL ro P N ops Q (o :: rest) ρ w :=
 ⟨fun hm a hf => wpList_plain hg fun K hK => by
  unfold Oper.wp
  rw [hf.eval, hr]
  show K (a.put o.dst v) w'
  rw [hd]
  exact hK _ _ (k.jQ hm _ (hf.put hN v)),
 fun a hf n => wpListIn_plain hg fun K hK => by
  refine ⟨fun _ _ => trivial, ?_⟩
  rw [hf.eval, kz _ hr (fun _ h => by cases h)]
  show K (a.put o.dst v) w'
  rw [hd]
  exact hK _ _ (k.kP _ (hf.put hN v) n)⟩
theorem wo {o : Oper} {w' : World} (hg : o.guard = none) (hd : o.dst = none)
  (hr : (execOp (ev ρ) o).run P w = .ok .skip w') (k : WL ro P N ops Q rest ρ w') : WL ro P N ops Q (o :: rest) ρ w :=
 ⟨fun hm a hf => wpList_plain hg fun K hK => by
  unfold Oper.wp
  rw [hf.eval, hr]
  show K (a.put o.dst undef) w'
  rw [hd]
  exact hK _ _ (k.jQ hm _ hf),
 fun a hf n => wpListIn_plain hg fun K hK => by
  refine ⟨fun _ _ => trivial, ?_⟩
  rw [hf.eval, kz _ hr (fun _ h => by cases h)]
  show K (a.put o.dst undef) w'
  rw [hd]
  exact hK _ _ (k.kP _ hf n)⟩
theorem tP {o : Oper} {d : Nat} {f : FuncId} {args : Array Value} {w1 : World} {R : Ending → World → Prop} (hg : o.guard = none) (hd : o.dst = some d) (hN : d < N)
  (hr : (execOp (ev ρ) o).run P w = .ok (.enter f args) w1) (hc : Calls P f args w1 R)
  (k : ∀ e w', R e w' → ∃ v, e = .returned v ∧ WL ro P N ops Q rest (cL ρ d v) w') : WL ro P N ops Q (o :: rest) ρ w :=
 ⟨fun hm a hf => wpList_plain hg fun K hK => by
  unfold Oper.wp
  rw [hf.eval, hr]
  show Calls P f args w1 _
  refine hc.mono fun e w' hR => ?_
  obtain ⟨v, rfl, hk⟩ := k e w' hR
  show K (a.put o.dst v) w'
  rw [hd]
  exact hK _ _ (hk.jQ hm _ (hf.put hN v)),
 fun a hf n => wpListIn_plain hg fun K hK => by
  refine ⟨fun _ _ => trivial, ?_⟩
  rw [hf.eval, kz _ hr (fun _ h => by cases h)]
  refine ⟨fun h => (by cases h), ?_⟩
  refine sZ (hc.mono fun e w' hR => ?_)
  obtain ⟨v, rfl, hk⟩ := k e w' hR
  show K (a.put o.dst v) w'
  rw [hd]
  exact hK _ _ (hk.kP _ (hf.put hN v) n)⟩
theorem bu {d : Option Nat} {op : Op} {ty : TypeId} {pos : String} {af : Array Edge} {j dj : Nat} {b : Bool}
  (hj : (ops[j]?).bind (·.dst) = some dj) (hv : ρ dj = .bool b) (k : WL ro P N ops Q (⟨d, op, ty, pos, af, none⟩ :: rest) ρ w) :
  WL ro P N ops Q (⟨d, op, ty, pos, af, some (j, b)⟩ :: rest) ρ w :=
 have h0 : ∀ D a, fJ N D a ρ → Region.wanted ⟨d, op, ty, pos, af, some (j, b)⟩ (yielded ops a.tmps) = true := fun D a hf => by
  have h2 := hf.at_ dj
  rw [hv, Array.getD_eq_getD_getElem?] at h2
  cases h3 : a.tmps[dj]? with
  | none => rw [h3] at h2; cases h2
  | some x =>
   rw [h3] at h2
   simp only [Option.getD_some] at h2
   subst h2
   simp [Region.wanted, yielded, hj, h3]
 ⟨fun hm a hf => by
  have h2 := k.jQ hm a hf
  unfold wpList at h2 ⊢
  rw [if_pos (h0 _ a hf)]
  rw [if_pos (by simp [Region.wanted])] at h2
  exact h2,
 fun a hf n => by
  have h2 := k.kP a hf n
  unfold wpListIn at h2 ⊢
  rw [if_pos (h0 _ a hf)]
  rw [if_pos (by simp [Region.wanted])] at h2
  exact h2⟩
theorem cm {d : Nat} {op : Op} {ty : TypeId} {pos : String} {af : Array Edge} {j dj : Nat} {b c : Bool} (hN : d < N)
  (hj : (ops[j]?).bind (·.dst) = some dj) (hv : ρ dj = .bool c) (hb : c ≠ b) (k : WL ro P N ops Q rest (cL ρ d undef) w) :
  WL ro P N ops Q (⟨some d, op, ty, pos, af, some (j, b)⟩ :: rest) ρ w :=
 have h0 : ∀ D a, fJ N D a ρ → Region.wanted ⟨some d, op, ty, pos, af, some (j, b)⟩ (yielded ops a.tmps) = false := fun D a hf => by
  have h2 := hf.at_ dj
  rw [hv, Array.getD_eq_getD_getElem?] at h2
  cases h3 : a.tmps[dj]? with
  | none => rw [h3] at h2; cases h2
  | some x =>
   rw [h3] at h2
   simp only [Option.getD_some] at h2
   subst h2
   simp [Region.wanted, yielded, hj, h3, hb]
 ⟨fun hm a hf => by
  unfold wpList
  rw [h0 _ a hf]
  exact k.jQ hm _ (hf.put hN undef),
 fun a hf n => by
  unfold wpListIn
  rw [h0 _ a hf]
  exact ⟨fun _ _ => trivial, k.kP _ (hf.put hN undef) n⟩⟩
def nb (v : Value) (b : Bool) : Bool := match v with | .bool c => c != b | _ => true
theorem gj {d : Nat} {op : Op} {ty : TypeId} {pos : String} {af : Array Edge} {j dj : Nat} {b : Bool} (hN : d < N)
  (hj : (ops[j]?).bind (·.dst) = some dj) (hb : nb (ρ dj) b = true) (k : WL ro P N ops Q rest (cL ρ d undef) w) :
  WL ro P N ops Q (⟨some d, op, ty, pos, af, some (j, b)⟩ :: rest) ρ w := by
 cases hv : ρ dj with
 | bool c =>
  rw [hv] at hb
  exact cm hN hj hv (by simpa [nb] using hb) k
 | _ =>
  have h0 : ∀ D a, fJ N D a ρ → Region.wanted ⟨some d, op, ty, pos, af, some (j, b)⟩ (yielded ops a.tmps) = false := fun D a hf => by
   have h2 := hf.at_ dj
   rw [hv, Array.getD_eq_getD_getElem?] at h2
   cases h3 : a.tmps[dj]? with
   | none => simp [Region.wanted, yielded, hj, h3]
   | some x =>
    rw [h3] at h2
    simp only [Option.getD_some] at h2
    subst h2
    simp [Region.wanted, yielded, hj, h3]
  refine ⟨fun hm a hf => ?_, fun a hf n => ?_⟩
  ·unfold wpList
   rw [h0 _ a hf]
   exact k.jQ hm _ (hf.put hN undef)
  ·unfold wpListIn
   rw [h0 _ a hf]
   exact ⟨fun _ _ => trivial, k.kP _ (hf.put hN undef) n⟩
end
section
variable {P : Program} {ρ : Rf} {w : World} {d : Option Nat} {ty : TypeId} {pos : String} {af : Array Edge} {g : Option (Nat × Bool)}
theorem dg {x : Operand} {v : Value} (hx : ev ρ x = v) : (execOp (ev ρ) ⟨d, .move x, ty, pos, af, g⟩).run P w = .ok (.value v) w := by simp [execOp, hx]
theorem sf {x : Operand} {v : Value} (hx : ev ρ x = v) : (execOp (ev ρ) ⟨d, .assign x, ty, pos, af, g⟩).run P w = .ok (.value v) w := by simp [execOp, hx]
theorem sw {c a b : Operand} {v : Value} (hc : ev ρ c = .bool true) (hx : ev ρ a = v) : (execOp (ev ρ) ⟨d, .pick c a b, ty, pos, af, g⟩).run P w = .ok (.value v) w := by simp [execOp, asBool, hc, hx]
theorem so {c a b : Operand} {v : Value} (hc : ev ρ c = .bool false) (hx : ev ρ b = v) : (execOp (ev ρ) ⟨d, .pick c a b, ty, pos, af, g⟩).run P w = .ok (.value v) w := by simp [execOp, asBool, hc, hx]
section ints
variable {t u : TypeId} {x y : Operand} {k : IntKind} {a b : Int}
theorem AU (hx : ev ρ x = .int k a) (hy : ev ρ y = .int k b) : (execOp (ev ρ) ⟨d, .binOp .add t x y u, ty, pos, af, g⟩).run P w = .ok (.value (.int k (k.wrap (a + b)))) w := by
 simp [execOp, hx, hy, eqGuard, binOp, Op.intArith]
theorem Ba (hx : ev ρ x = .int k a) (hy : ev ρ y = .int k b) : (execOp (ev ρ) ⟨d, .binOp .sub t x y u, ty, pos, af, g⟩).run P w = .ok (.value (.int k (k.wrap (a - b)))) w := by
 simp [execOp, hx, hy, eqGuard, binOp, Op.intArith]
theorem AN (hx : ev ρ x = .int k a) (hy : ev ρ y = .int k b) : (execOp (ev ρ) ⟨d, .binOp .mul t x y u, ty, pos, af, g⟩).run P w = .ok (.value (.int k (k.wrap (a * b)))) w := by
 simp [execOp, hx, hy, eqGuard, binOp, Op.intArith]
theorem AX (hx : ev ρ x = .int k a) (hy : ev ρ y = .int k b) (hb : b ≠ 0) : (execOp (ev ρ) ⟨d, .binOp .quo t x y u, ty, pos, af, g⟩).run P w = .ok (.value (.int k (k.wrap (a.tdiv b)))) w := by
 simp [execOp, hx, hy, eqGuard, binOp, Op.intDiv, hb]
theorem A5 (hx : ev ρ x = .int k a) (hy : ev ρ y = .int k b) (hb : b ≠ 0) : (execOp (ev ρ) ⟨d, .binOp .rem t x y u, ty, pos, af, g⟩).run P w = .ok (.value (.int k (a.tmod b))) w := by
 simp [execOp, hx, hy, eqGuard, binOp, Op.intDiv, hb]
theorem BW (hx : ev ρ x = .int k a) (hy : ev ρ y = .int k b) : (execOp (ev ρ) ⟨d, .binOp .and t x y u, ty, pos, af, g⟩).run P w = .ok (.value (.int k (k.wrap (BitVec.ofInt k.bits a &&& BitVec.ofInt k.bits b).toNat))) w := by
 simp [execOp, hx, hy, eqGuard, binOp, Op.intBits]
theorem CJ (hx : ev ρ x = .int k a) (hy : ev ρ y = .int k b) : (execOp (ev ρ) ⟨d, .binOp .or t x y u, ty, pos, af, g⟩).run P w = .ok (.value (.int k (k.wrap (BitVec.ofInt k.bits a ||| BitVec.ofInt k.bits b).toNat))) w := by
 simp [execOp, hx, hy, eqGuard, binOp, Op.intBits]
theorem BT {k' : IntKind} (hx : ev ρ x = .int k a) (hy : ev ρ y = .int k' b) (hb : 0 ≤ b) : (execOp (ev ρ) ⟨d, .binOp .shl t x y u, ty, pos, af, g⟩).run P w = .ok (.value (.int k (k.wrap (a * 2 ^ (min b.toNat k.bits))))) w := by
 simp [execOp, hx, hy, eqGuard, binOp, Op.shift, show ¬ b < 0 by omega]
theorem Cg {k' : IntKind} (hx : ev ρ x = .int k a) (hy : ev ρ y = .int k' b) (hb : 0 ≤ b) : (execOp (ev ρ) ⟨d, .binOp .shr t x y u, ty, pos, af, g⟩).run P w = .ok (.value (.int k (a.fdiv (2 ^ (min b.toNat k.bits))))) w := by
 simp [execOp, hx, hy, eqGuard, binOp, Op.shift, show ¬ b < 0 by omega]
theorem sX {op : BinOp} : (eqGuard op t x y (.int k a) (.int k b)).run P w = .ok () w := by
 unfold eqGuard; cases op <;> simp
theorem j9 {op : BinOp} {r : Bool} (hx : ev ρ x = .int k a) (hy : ev ρ y = .int k b) (hop : (Op.intCmp op a b).run P w = .ok (.bool r) w) (hc : op = .eql ∨ op = .neq ∨ op = .lss ∨ op = .leq ∨ op = .gtr ∨ op = .geq) :
  (execOp (ev ρ) ⟨d, .binOp op t x y u, ty, pos, af, g⟩).run P w = .ok (.value (.bool r)) w := by
 rcases hc with h | h | h | h | h | h <;> subst h <;> simp [execOp, hx, hy, sX, binOp, hop]
theorem Ar (hx : ev ρ x = .int k a) (hy : ev ρ y = .int k b) (h : a < b) : (execOp (ev ρ) ⟨d, .binOp .lss t x y u, ty, pos, af, g⟩).run P w = .ok (.value (.bool true)) w :=
 j9 hx hy (by simp [Op.intCmp, h]) (by simp)
theorem zI (hx : ev ρ x = .int k a) (hy : ev ρ y = .int k b) (h : ¬ a < b) : (execOp (ev ρ) ⟨d, .binOp .lss t x y u, ty, pos, af, g⟩).run P w = .ok (.value (.bool false)) w :=
 j9 hx hy (by simp [Op.intCmp]; omega) (by simp)
theorem z4 (hx : ev ρ x = .int k a) (hy : ev ρ y = .int k b) (h : a ≤ b) : (execOp (ev ρ) ⟨d, .binOp .leq t x y u, ty, pos, af, g⟩).run P w = .ok (.value (.bool true)) w :=
 j9 hx hy (by simp [Op.intCmp, h]) (by simp)
theorem At (hx : ev ρ x = .int k a) (hy : ev ρ y = .int k b) (h : ¬ a ≤ b) : (execOp (ev ρ) ⟨d, .binOp .leq t x y u, ty, pos, af, g⟩).run P w = .ok (.value (.bool false)) w :=
 j9 hx hy (by simp [Op.intCmp]; omega) (by simp)
theorem zQ (hx : ev ρ x = .int k a) (hy : ev ρ y = .int k b) (h : b < a) : (execOp (ev ρ) ⟨d, .binOp .gtr t x y u, ty, pos, af, g⟩).run P w = .ok (.value (.bool true)) w :=
 j9 hx hy (by simp [Op.intCmp, h]) (by simp)
theorem Aj (hx : ev ρ x = .int k a) (hy : ev ρ y = .int k b) (h : ¬ b < a) : (execOp (ev ρ) ⟨d, .binOp .gtr t x y u, ty, pos, af, g⟩).run P w = .ok (.value (.bool false)) w :=
 j9 hx hy (by simp [Op.intCmp]; omega) (by simp)
theorem Af (hx : ev ρ x = .int k a) (hy : ev ρ y = .int k b) (h : b ≤ a) : (execOp (ev ρ) ⟨d, .binOp .geq t x y u, ty, pos, af, g⟩).run P w = .ok (.value (.bool true)) w :=
 j9 hx hy (by simp [Op.intCmp, h]) (by simp)
theorem As (hx : ev ρ x = .int k a) (hy : ev ρ y = .int k b) (h : ¬ b ≤ a) : (execOp (ev ρ) ⟨d, .binOp .geq t x y u, ty, pos, af, g⟩).run P w = .ok (.value (.bool false)) w :=
 j9 hx hy (by simp [Op.intCmp]; omega) (by simp)
theorem zY (hx : ev ρ x = .int k a) (hy : ev ρ y = .int k b) (h : a ≠ b) : (execOp (ev ρ) ⟨d, .binOp .neq t x y u, ty, pos, af, g⟩).run P w = .ok (.value (.bool true)) w :=
 j9 hx hy (by simp [Op.intCmp, h]) (by simp)
theorem zR (hx : ev ρ x = .int k a) (hy : ev ρ y = .int k b) (h : a = b) : (execOp (ev ρ) ⟨d, .binOp .neq t x y u, ty, pos, af, g⟩).run P w = .ok (.value (.bool false)) w :=
 j9 hx hy (by simp [Op.intCmp, h]) (by simp)
theorem vR (hx : ev ρ x = .int k a) (hy : ev ρ y = .int k b) : (execOp (ev ρ) ⟨d, .binOp .eql t x y u, ty, pos, af, g⟩).run P w = .ok (.value (.bool (decide (a = b)))) w :=
 j9 hx hy (by simp [Op.intCmp]; rw [Bool.eq_iff_iff]; simp) (by simp)
theorem AJ (hx : ev ρ x = .int k a) : (execOp (ev ρ) ⟨d, .unOp .neg t x, ty, pos, af, g⟩).run P w = .ok (.value (.int k (k.wrap (-a)))) w := by
 simp [execOp, hx, Op.unary, Op.intArith]
theorem jt {n : Int} (h1 : -9223372036854775808 ≤ n) (h2 : n ≤ 9223372036854775807) : IntKind.i64.wrap n = n := IntWalk.i64_in n ⟨h1, h2⟩
theorem yo (hx : ev ρ x = .int .i64 a) (hy : ev ρ y = .int .i64 b) (h1 : -9223372036854775808 ≤ a + b) (h2 : a + b ≤ 9223372036854775807) : (execOp (ev ρ) ⟨d, .binOp .add t x y u, ty, pos, af, g⟩).run P w = .ok (.value (.int .i64 (a + b))) w := by
 rw [AU hx hy, jt h1 h2]
theorem yh (hx : ev ρ x = .int .i64 a) (hy : ev ρ y = .int .i64 b) (h1 : -9223372036854775808 ≤ a - b) (h2 : a - b ≤ 9223372036854775807) : (execOp (ev ρ) ⟨d, .binOp .sub t x y u, ty, pos, af, g⟩).run P w = .ok (.value (.int .i64 (a - b))) w := by
 rw [Ba hx hy, jt h1 h2]
theorem yq (hx : ev ρ x = .int .i64 a) (hy : ev ρ y = .int .i64 b) (h1 : -9223372036854775808 ≤ a * b) (h2 : a * b ≤ 9223372036854775807) : (execOp (ev ρ) ⟨d, .binOp .mul t x y u, ty, pos, af, g⟩).run P w = .ok (.value (.int .i64 (a * b))) w := by
 rw [AN hx hy, jt h1 h2]
theorem ph (hx : ev ρ x = .int .i64 a) (h1 : -9223372036854775808 ≤ -a) (h2 : -a ≤ 9223372036854775807) : (execOp (ev ρ) ⟨d, .unOp .neg t x, ty, pos, af, g⟩).run P w = .ok (.value (.int .i64 (-a))) w := by
 rw [AJ hx, jt h1 h2]
theorem qO (hx : ev ρ x = .int .i64 a) (hy : ev ρ y = .int .i64 b) (ha : 0 ≤ a) (hb : 0 < b) (h2 : a ≤ 9223372036854775807) : (execOp (ev ρ) ⟨d, .binOp .quo t x y u, ty, pos, af, g⟩).run P w = .ok (.value (.int .i64 (a / b))) w := by
 have h3 : a / b ≤ a := Int.ediv_le_self b ha
 have h4 : 0 ≤ a / b := Int.ediv_nonneg ha (by omega)
 rw [AX hx hy (by omega), Int.tdiv_eq_ediv_of_nonneg ha, jt (by omega) (by omega)]
theorem mQ (hx : ev ρ x = .int .i64 a) (hy : ev ρ y = .int .i64 b) (ha : 0 ≤ a) (hb : 0 < b) : (execOp (ev ρ) ⟨d, .binOp .rem t x y u, ty, pos, af, g⟩).run P w = .ok (.value (.int .i64 (a % b))) w := by
 rw [A5 hx hy (by omega), Int.tmod_eq_emod_of_nonneg ha]
end ints
theorem AQ {t : TypeId} {x : Operand} {b : Bool} (hx : ev ρ x = .bool b) : (execOp (ev ρ) ⟨d, .unOp .not t x, ty, pos, af, g⟩).run P w = .ok (.value (.bool !b)) w := by
 simp [execOp, hx, Op.unary]
section bools
variable {t u : TypeId} {x y : Operand} {a b : Bool}
theorem rE (n : Nat) (ht : P.underlying t = some .bool) : (Op.equalIn (n + 1) t (.bool a) (.bool b)).run P w = .ok (a == b) w := by
 simp [Op.equalIn, run_underlying ht]
theorem oS (ht : P.underlying t = some .bool) : (Op.equal t (.bool a) (.bool b)).run P w = .ok (a == b) w := rE 9999 ht
theorem pf (ht : P.underlying t = some .bool) : (binOp .eql t (.bool a) (.bool b)).run P w = .ok (.bool (a == b)) w := by
 simp only [binOp]
 simp [oS ht]
theorem n9 (ht : P.underlying t = some .bool) : (binOp .neq t (.bool a) (.bool b)).run P w = .ok (.bool (a != b)) w := by
 simp only [binOp]
 simp [oS ht, bne]
theorem oV (ht : P.underlying t = some .bool) (hx : ev ρ x = .bool a) (hy : ev ρ y = .bool b) : (execOp (ev ρ) ⟨d, .binOp .eql t x y u, ty, pos, af, g⟩).run P w = .ok (.value (.bool (a == b))) w := by
 simp only [execOp, hx, hy, eqGuard]
 simp [pf ht]
theorem jx (ht : P.underlying t = some .bool) (hx : ev ρ x = .bool a) (hy : ev ρ y = .bool b) : (execOp (ev ρ) ⟨d, .binOp .neq t x y u, ty, pos, af, g⟩).run P w = .ok (.value (.bool (a != b))) w := by
 simp only [execOp, hx, hy, eqGuard]
 simp [n9 ht]
end bools
section sJ
variable {t u : TypeId} {x y : Operand} {a b : ByteArray}
theorem tk {op : BinOp} : (eqGuard op t x y (.string a) (.string b)).run P w = .ok () w := by
 unfold eqGuard; cases op <;> simp
theorem ql {op : BinOp} {r : Value} (hx : ev ρ x = .string a) (hy : ev ρ y = .string b) (hs : op ≠ .shl ∧ op ≠ .shr) (hop : (Op.stringOp op a b).run P w = .ok r w) :
  (execOp (ev ρ) ⟨d, .binOp op t x y u, ty, pos, af, g⟩).run P w = .ok (.value r) w := by
 cases op <;> simp_all [execOp, tk, binOp]
theorem qf (hx : ev ρ x = .string a) (hy : ev ρ y = .string b) : (execOp (ev ρ) ⟨d, .binOp .eql t x y u, ty, pos, af, g⟩).run P w = .ok (.value (.bool (a.toList == b.toList))) w :=
 ql hx hy (by simp) (by simp [Op.stringOp])
theorem p8 (hx : ev ρ x = .string a) (hy : ev ρ y = .string b) : (execOp (ev ρ) ⟨d, .binOp .neq t x y u, ty, pos, af, g⟩).run P w = .ok (.value (.bool !(a.toList == b.toList))) w :=
 ql hx hy (by simp) (by simp [Op.stringOp])
theorem yd {a b : ByteArray} : (a.toList == b.toList) = decide (a = b) := by
 have key : ∀ s : ByteArray, s.toList = s.data.toList := fun s => by
  unfold ByteArray.toList
  have : ∀ (n i : Nat) (r : List UInt8), s.size - i = n → ByteArray.toList.loop s i r = r.reverse ++ s.data.toList.drop i := by
   intro n
   induction n with
   | zero =>
    intro i r h
    rw [ByteArray.toList.loop, if_neg (by omega), List.drop_of_length_le (by rw [Array.length_toList]; show s.size ≤ i; omega)]
    simp
   | succ n ih =>
    intro i r h
    have hi : i < s.size := by omega
    rw [ByteArray.toList.loop, if_pos hi, ih (i + 1) _ (by omega)]
    have hi2 : i < s.data.toList.length := by rw [Array.length_toList]; exact hi
    rw [List.drop_eq_getElem_cons hi2]
    have : s.get! i = s.data.toList[i] := by
     show s.data[i]! = _
     rw [getElem!_pos s.data i (by simpa using hi2)]
     simp
    simp [this]
  simpa using this (s.size - 0) 0 [] rfl
 rw [Bool.eq_iff_iff, beq_iff_eq, decide_eq_true_eq, key, key]
 constructor
 ·intro h; cases a; cases b; congr 1; exact Array.ext' h
 ·intro h; rw [h]
theorem sj (hx : ev ρ x = .string a) (hy : ev ρ y = .string b) (h : a = b) : (execOp (ev ρ) ⟨d, .binOp .eql t x y u, ty, pos, af, g⟩).run P w = .ok (.value (.bool true)) w := by
 rw [qf hx hy, yd]; simp [h]
theorem tR (hx : ev ρ x = .string a) (hy : ev ρ y = .string b) (h : ¬ a = b) : (execOp (ev ρ) ⟨d, .binOp .eql t x y u, ty, pos, af, g⟩).run P w = .ok (.value (.bool false)) w := by
 rw [qf hx hy, yd]; simp [h]
theorem sK (hx : ev ρ x = .string a) (hy : ev ρ y = .string b) (h : ¬ a = b) : (execOp (ev ρ) ⟨d, .binOp .neq t x y u, ty, pos, af, g⟩).run P w = .ok (.value (.bool true)) w := by
 rw [p8 hx hy, yd]; simp [h]
theorem sy (hx : ev ρ x = .string a) (hy : ev ρ y = .string b) (h : a = b) : (execOp (ev ρ) ⟨d, .binOp .neq t x y u, ty, pos, af, g⟩).run P w = .ok (.value (.bool false)) w := by
 rw [p8 hx hy, yd]; simp [h]
theorem wT (hx : ev ρ x = .string a) (hy : ev ρ y = .string b) : (execOp (ev ρ) ⟨d, .binOp .lss t x y u, ty, pos, af, g⟩).run P w = .ok (.value (.bool (Op.bytesLess a.toList b.toList))) w :=
 ql hx hy (by simp) (by simp [Op.stringOp])
theorem xq (hx : ev ρ x = .string a) (hy : ev ρ y = .string b) : (execOp (ev ρ) ⟨d, .binOp .gtr t x y u, ty, pos, af, g⟩).run P w = .ok (.value (.bool !(Op.bytesLess a.toList b.toList || a.toList == b.toList))) w :=
 ql hx hy (by simp) (by simp [Op.stringOp])
theorem wI (hx : ev ρ x = .string a) (hy : ev ρ y = .string b) : (execOp (ev ρ) ⟨d, .binOp .geq t x y u, ty, pos, af, g⟩).run P w = .ok (.value (.bool !(Op.bytesLess a.toList b.toList))) w :=
 ql hx hy (by simp) (by simp [Op.stringOp])
theorem AL (hx : ev ρ x = .string a) (hy : ev ρ y = .string b) (h : a.size + b.size ≤ 9223372036854775807) : (execOp (ev ρ) ⟨d, .binOp .add t x y u, ty, pos, af, g⟩).run P w = .ok (.value (.string (a ++ b))) w :=
 ql hx hy (by simp) (by
  have : ¬ ((a.size + b.size : Nat) : Int) > IntKind.i64.max := by
   have : IntKind.i64.max = 9223372036854775807 := by decide
   omega
  simp only [Op.stringOp, if_neg this]
  simp)
end sJ
theorem jI {s t : TypeId} {x : Operand} {k k' : IntKind} {a : Int} {sd : TypeDesc} (hs : P.underlying s = some sd) (ht : P.underlying t = some (.int k)) (hx : ev ρ x = .int k' a) :
  (execOp (ev ρ) ⟨d, .convert s t x, ty, pos, af, g⟩).run P w = .ok (.value (.int k (k.wrap a))) w := by
 simp [execOp, hx, convert, run_underlying hs, run_underlying ht, Conv.intToInt]
theorem iG {s t : TypeId} {x : Operand} {k' : IntKind} {a : Int} {sd : TypeDesc} (hs : P.underlying s = some sd) (ht : P.underlying t = some (.int .i64)) (hx : ev ρ x = .int k' a) (h1 : -9223372036854775808 ≤ a) (h2 : a ≤ 9223372036854775807) :
  (execOp (ev ρ) ⟨d, .convert s t x, ty, pos, af, g⟩).run P w = .ok (.value (.int .i64 a)) w := by
 rw [jI hs ht hx, jt h1 h2]
theorem cX {x : Operand} {i : Nat} {vs : List Value} {v : Value} (hx : ev ρ x = .tuple vs.toArray) (hv : vs[i]? = some v) :
  (execOp (ev ρ) ⟨d, .extract x i, ty, pos, af, g⟩).run P w = .ok (.value v) w := by
 simp [execOp, hx, Instr.extract, hv]
def pM (ρ : Rf) : List Operand → List Value
 | [] => []
 | x :: l => ev ρ x :: pM ρ l
theorem lH {ρ : Rf} (args : Array Operand) {vs : List Value} (h : pM ρ args.toList = vs) : args.map (ev ρ) = vs.toArray := by
 have h1 : ∀ l : List Operand, l.map (ev ρ) = pM ρ l := by
  intro l
  induction l with
  | nil => rfl
  | cons a l ih => simp only [List.map_cons, ih]; rfl
 subst h
 rw [← h1]
 apply Array.ext'
 simp
theorem u7 {fn : Fn} {first captured : Array Operand} {fs cs : List Value} (hf : pM ρ first.toList = fs) (hc : pM ρ captured.toList = cs) :
  (execOp (ev ρ) ⟨d, .makeFunc fn first captured, ty, pos, af, g⟩).run P w = .ok (.value (.func fn fs.toArray cs.toArray)) w := by
 simp [execOp, lH _ hf, lH _ hc, Instr.makeFunc]
theorem cf {i : Nat} {k : IntKind} {n : Int} (h : ρ i = .int k n) : ρ i = .int k n := h
theorem fO {i : Nat} {b : Bool} (h : ρ i = .bool b) : ρ i = .bool b := h
theorem p5 {i : Nat} {s : ByteArray} (h : ρ i = .string s) : ρ i = .string s := h
theorem wO {i : Nat} {A : Option Addr} {n c : Nat} (h : ρ i = .slice A n c) : ρ i = .slice A n c := h
theorem cb {x : Operand} {k : IntKind} {n : Int} (h : ev ρ x = .int k n) : ev ρ x = .int k n := h
theorem nK {x : Operand} {b : Bool} (h : ev ρ x = .bool b) : ev ρ x = .bool b := h
theorem yU {x : Operand} {s : ByteArray} (h : ev ρ x = .string s) : ev ρ x = .string s := h
theorem AM {x : Operand} {A : Option Addr} {n c : Nat} (h : ev ρ x = .slice A n c) : ev ρ x = .slice A n c := h
theorem kd {x : Operand} {a : Addr} (h : ev ρ x = .pointer (some a)) : ev ρ x = .pointer (some a) := h
theorem dM {x : Operand} {l : List Value} (h : ev ρ x = .agg l.toArray) : ev ρ x = .agg l.toArray := h
theorem Bu {x : Operand} {l : List Value} (h : ev ρ x = .tuple l.toArray) : ev ρ x = .tuple l.toArray := h
theorem ik {x : Operand} {f : Fn} {a b : List Value} (h : ev ρ x = .func f a.toArray b.toArray) : ev ρ x = .func f a.toArray b.toArray := h
theorem wP {x : Operand} {t : TypeId} {s : ByteArray} (ht : P.underlying t = some .string) (hx : ev ρ x = .string s) :
  (execOp (ev ρ) ⟨d, .call ⟨.builtin .len, #[x], #[t]⟩, ty, pos, af, g⟩).run P w = .ok (.value (.int .i64 s.size)) w := by
 simp [execOp, resolve, invoke, builtin, Builtin.len_, hx, run_underlying ht, goInt]
theorem tG {x : Operand} {t e : TypeId} {A : Option Addr} {n c : Nat} (ht : P.underlying t = some (.slice e)) (hx : ev ρ x = .slice A n c) :
  (execOp (ev ρ) ⟨d, .call ⟨.builtin .len, #[x], #[t]⟩, ty, pos, af, g⟩).run P w = .ok (.value (.int .i64 n)) w := by
 simp [execOp, resolve, invoke, builtin, Builtin.len_, hx, run_underlying ht, goInt]
theorem B5 {x y : Operand} {ts : Array TypeId} {k : IntKind} {a b : Int} (hx : ev ρ x = .int k a) (hy : ev ρ y = .int k b) :
  (execOp (ev ρ) ⟨d, .call ⟨.builtin .min, #[x, y], ts⟩, ty, pos, af, g⟩).run P w = .ok (.value (.int k (if b < a then b else a))) w := by
 simp [execOp, resolve, invoke, builtin, Builtin.min_, Builtin.min2, hx, hy, List.foldlM]
theorem Cn {x y : Operand} {ts : Array TypeId} {k : IntKind} {a b : Int} (hx : ev ρ x = .int k a) (hy : ev ρ y = .int k b) :
  (execOp (ev ρ) ⟨d, .call ⟨.builtin .max, #[x, y], ts⟩, ty, pos, af, g⟩).run P w = .ok (.value (.int k (if b > a then b else a))) w := by
 simp [execOp, resolve, invoke, builtin, Builtin.max_, Builtin.max2, hx, hy, List.foldlM]
theorem gU {t : TypeId} {x i : Operand} {s : ByteArray} {n : Int} {k : IntKind} {c : UInt8} (ht : P.underlying t = some .string) (hx : ev ρ x = .string s) (hi : ev ρ i = .int k n)
  (h0 : 0 ≤ n) (hc : s.data.toList[n.toNat]? = some c) : (execOp (ev ρ) ⟨d, .index t x i, ty, pos, af, g⟩).run P w = .ok (.value (.int .u8 c.toNat)) w := by
 have hs : s[n.toNat]? = some c := by
  rw [← hc]
  obtain ⟨h1, h2⟩ := List.getElem?_eq_some_iff.1 hc
  have h3 : n.toNat < s.size := by simpa using h1
  rw [getElem?_pos s n.toNat h3, getElem?_pos s.data.toList n.toNat h1]
  rfl
 simp [execOp, hx, hi, Instr.index, asIntOf, run_underlying ht, h0, hs]
theorem jX {t : TypeId} {x : Operand} {lo hi : Option Operand} {s : ByteArray} {l h : Nat} (ht : P.underlying t = some .string) (hx : ev ρ x = .string s)
  (hlo : match lo with | none => l = 0 | some o => ∃ (k : IntKind) (n : Int), ev ρ o = .int k n ∧ n = l) (hhi : match hi with | none => h = s.size | some o => ∃ (k : IntKind) (n : Int), ev ρ o = .int k n ∧ n = h)
  (h1 : l ≤ h) (h2 : h ≤ s.size) : (execOp (ev ρ) ⟨d, .slice t x lo hi none, ty, pos, af, g⟩).run P w = .ok (.value (.string (s.extract l h))) w := by
 have e1 : (l : Int) ≤ h := by omega
 have e2 : (h : Int) ≤ s.size := by omega
 cases lo <;> cases hi <;> simp only [] at hlo hhi
 ·subst hlo; subst hhi
  simp [execOp, hx, Instr.sliceAt, Instr.slice, run_underlying ht, Instr.sliceBounds]
 ·obtain ⟨k2, n2, hv2, rfl⟩ := hhi
  subst hlo
  simp [execOp, hx, Instr.sliceAt, Instr.slice, run_underlying ht, Instr.sliceBounds, Instr.sliceBound, asIntOf, hv2, h2]
 ·obtain ⟨k2, n2, hv2, rfl⟩ := hlo
  subst hhi
  simp [execOp, hx, Instr.sliceAt, Instr.slice, run_underlying ht, Instr.sliceBounds, Instr.sliceBound, asIntOf, hv2, h1]
 ·obtain ⟨k2, n2, hv2, rfl⟩ := hhi
  obtain ⟨k3, n3, hv3, rfl⟩ := hlo
  simp [execOp, hx, Instr.sliceAt, Instr.slice, run_underlying ht, Instr.sliceBounds, Instr.sliceBound, asIntOf, hv2, hv3, h1, h2]
theorem gG {t e : TypeId} {x : Operand} {lo hi : Option Operand} {A : Option Addr} {n c l h sz : Nat} (ht : P.underlying t = some (.slice e)) (hsz : (P.info? e).map (·.size) = some sz) (hx : ev ρ x = .slice A n c)
  (hlo : match lo with | none => l = 0 | some o => ∃ (k : IntKind) (n : Int), ev ρ o = .int k n ∧ n = l) (hhi : match hi with | none => h = n | some o => ∃ (k : IntKind) (n : Int), ev ρ o = .int k n ∧ n = h)
  (h1 : l ≤ h) (h2 : h ≤ c) : (execOp (ev ρ) ⟨d, .slice t x lo hi none, ty, pos, af, g⟩).run P w = .ok (.value (.slice (if c = l then A else A.map (·.add (l * sz))) (h - l) (c - l))) w := by
 obtain ⟨i, hi1, hi2⟩ := Option.map_eq_some_iff.1 hsz
 have e1 : (l : Int) ≤ h := by omega
 have e2 : (h : Int) ≤ c := by omega
 cases lo <;> cases hi <;> simp only [] at hlo hhi
 ·subst hlo; subst hhi
  simp [execOp, hx, Instr.sliceAt, Instr.slice, run_underlying ht, Instr.sliceBounds, sizeOf, typeInfo, hi1]
 ·obtain ⟨k2, n2, hv2, rfl⟩ := hhi
  subst hlo
  simp [execOp, hx, Instr.sliceAt, Instr.slice, run_underlying ht, Instr.sliceBounds, Instr.sliceBound, asIntOf, hv2, h2, sizeOf, typeInfo, hi1]
 ·obtain ⟨k2, n2, hv2, rfl⟩ := hlo
  subst hhi
  simp [execOp, hx, Instr.sliceAt, Instr.slice, run_underlying ht, Instr.sliceBounds, Instr.sliceBound, asIntOf, hv2, h1, sizeOf, typeInfo, hi1, hi2]
 ·obtain ⟨k2, n2, hv2, rfl⟩ := hhi
  obtain ⟨k3, n3, hv3, rfl⟩ := hlo
  simp [execOp, hx, Instr.sliceAt, Instr.slice, run_underlying ht, Instr.sliceBounds, Instr.sliceBound, asIntOf, hv2, hv3, h1, h2, sizeOf, typeInfo, hi1, hi2]
theorem eI {t e : TypeId} {x i : Operand} {ad : Addr} {n c sz : Nat} {k : IntKind} {m : Int} (ht : P.underlying t = some (.slice e)) (hsz : (P.info? e).map (·.size) = some sz) (hx : ev ρ x = .slice (some ad) n c) (hi : ev ρ i = .int k m)
  (h0 : 0 ≤ m) (h1 : m < n) : (execOp (ev ρ) ⟨d, .indexAddr t x i, ty, pos, af, g⟩).run P w = .ok (.value (.pointer (some (ad.add (m.toNat * sz))))) w := by
 obtain ⟨i, hi1, hi2⟩ := Option.map_eq_some_iff.1 hsz
 simp [execOp, hx, hi, Instr.indexAt, asIntOf, run_underlying ht, sizeOf, typeInfo, hi1, hi2, h0, h1]
theorem lf {t e : TypeId} {x i : Operand} {b n c sz k : Nat} {kk : IntKind} {m : Int} (ht : P.underlying t = some (.slice e)) (hsz : (P.info? e).map (·.size) = some sz) (hx : ev ρ x = .slice (some ⟨b, 0, none⟩) n c) (hi : ev ρ i = .int kk m)
  (hm : m = (k : Int)) (h1 : k < n) : (execOp (ev ρ) ⟨d, .indexAddr t x i, ty, pos, af, g⟩).run P w = .ok (.value (.pointer (some ⟨b, k * sz, none⟩))) w := by
 have h := eI (P := P) (w := w) (d := d) (ty := ty) (pos := pos) (af := af) (g := g) ht hsz hx hi (by omega) (by omega)
 rw [h, hm]
 have : (⟨b, 0, none⟩ : Addr).add (((k : Int)).toNat * sz) = ⟨b, k * sz, none⟩ := by
  unfold Addr.add
  split
  ·rename_i h0
   rw [Int.toNat_natCast] at h0
   rw [h0]
  ·rw [Int.toNat_natCast]; simp
 rw [this]
theorem yS {x : Operand} {args : Array Operand} {ts : Array TypeId} {f : FuncId} {fn : Func} {first cap : Array Value} {vs : Array Value} (hf : P.funcs[f]? = some fn) (hb : fn.body.isNone = false) (hn : (fn.name == "runtime.NumGoroutine") = false)
  (hx : ev ρ x = .func (.func f) first cap) (ha : args.map (ev ρ) = vs) : (execOp (ev ρ) ⟨d, .call ⟨.value x, args, ts⟩, ty, pos, af, g⟩).run P w = .ok (.enter f (first ++ vs ++ cap)) w := by
 have h1 : ¬ fn.name = "runtime.NumGoroutine" := by simpa using hn
 have h2 : ¬ fn.body = none := by intro h; simp [h] at hb
 simp [execOp, resolve, Deferred.ofValue, hx, ha, invoke, callFunc, program, Sem.run, hf, h1, h2]
end
end Go.Proofs.YtaapkaefelhfcaaGreatDoor
namespace Go.Proofs.YtaapkaefelhfcaaGreatDoor
open Go.RowKit
def db (P : Program) (t : TypeId) : Option (Nat × Bool × Nat × List Value) :=
 match P.info? t, P.underlying t with
 | some i, some d => i.zero.map fun z => (i.size, (match d with | .struct _ | .array _ _ => true | _ => false), i.bytes, z.cells.toList)
 | _, _ => none
theorem ew {P : Program} {t : TypeId} {n by' : Nat} {ag : Bool} {zc : List Value} (h : db P t = some (n, ag, by', zc)) :
  ∃ i z d, P.info? t = some i ∧ P.underlying t = some d ∧ i.zero = some z ∧ i.size = n ∧ i.bytes = by' ∧ z.cells = zc.toArray ∧ (match d with | .struct _ | .array _ _ => true | _ => false) = ag := by
 unfold db at h
 split at h
 ·rename_i i d hi hd
  obtain ⟨z, hz, he⟩ := Option.map_eq_some_iff.1 h
  simp only [Prod.mk.injEq] at he
  exact ⟨i, z, d, hi, hd, hz, he.1, he.2.2.1, by rw [← he.2.2.2], he.2.1⟩
 ·cases h
section
variable {P : Program} {w : World} {t : TypeId} {n by' : Nat} {ag : Bool} {zc : List Value}
theorem dQ (h : db P t = some (n, ag, by', zc)) : (sizeOf t).run P w = .ok n w := by
 obtain ⟨i, z, d, hi, hd, hz, hs, _⟩ := ew h
 simp [sizeOf, typeInfo, hi, hs]
theorem iK (h : db P t = some (n, ag, by', zc)) : (isAgg t).run P w = .ok ag w := by
 obtain ⟨i, z, d, hi, hd, hz, hs, _, _, ha⟩ := ew h
 simp only [isAgg, Sem.run_bind, run_underlying hd, Result.andThen_ok]
 subst ha
 cases d <;> rfl
theorem da (h : db P t = some (n, ag, by', zc)) : ∃ z, (zeroValue t).run P w = .ok z w ∧ z.cells = zc.toArray := by
 obtain ⟨i, z, d, hi, hd, hz, hs, _, hc, _⟩ := ew h
 exact ⟨z, by simp [zeroValue, typeInfo, hi, hz], hc⟩
end
def Rd (w : World) (ad : Addr) (vs : List Value) : Prop := ∀ j u, vs[j]? = some u → w.cell? (ad.add j) = some u
def Sl (w : World) (A : Option Addr) (n k : Nat) (xs : List Value) : Prop := xs.length = n * k ∧ (0 < n → ∃ ad, A = some ad ∧ Rd w ad xs)
theorem eP (b o n : Nat) : (⟨b, o, none⟩ : Addr).add n = ⟨b, o + n, none⟩ := by
 unfold Addr.add
 split
 ·rename_i h; subst h; rfl
 ·rfl
theorem jH (a : Addr) (i j : Nat) : (a.add i).add j = a.add (i + j) := by
 unfold Addr.add
 by_cases hi : i = 0 <;> by_cases hj : j = 0 <;> simp [hi, hj, Nat.add_assoc]
theorem l5 {w : World} {a : Addr} {v : Value} (h : w.cell? a = some v) : a.block < w.heap.size := block_lt_of_cell h
theorem cO {w w' : World} (h : Below w.heap.size w w') {a : Addr} {v : Value} (hc : w.cell? a = some v) : w'.cell? a = some v := (h.cell (l5 hc)).trans hc
theorem Rd.ext {w w' : World} {ad : Addr} {vs : List Value} (h : Rd w ad vs) (hb : Below w.heap.size w w') : Rd w' ad vs := fun j u hu => cO hb (h j u hu)
theorem Sl.ext {w w' : World} {A : Option Addr} {n k : Nat} {xs : List Value} (h : Sl w A n k xs) (hb : Below w.heap.size w w') : Sl w' A n k xs :=
 ⟨h.1, fun hn => let ⟨ad, ha, hr⟩ := h.2 hn; ⟨ad, ha, hr.ext hb⟩⟩
theorem Rd.drop {w : World} {ad : Addr} {vs : List Value} (h : Rd w ad vs) (i : Nat) : Rd w (ad.add i) (vs.drop i) := fun j u hu => by
 rw [jH]
 exact h _ u (by rw [← hu, List.getElem?_drop])
theorem Rd.take {w : World} {ad : Addr} {vs : List Value} (h : Rd w ad vs) (n : Nat) : Rd w ad (vs.take n) := fun j u hu => by
 rw [List.getElem?_take] at hu
 split at hu
 ·exact h _ u hu
 ·cases hu
theorem Rd.cell {w : World} {ad : Addr} {vs : List Value} (h : Rd w ad vs) {i : Nat} {v : Value} (hv : vs[i]? = some v) : w.cell? (ad.add i) = some v := h i v hv
theorem Sl.nil (w : World) (A : Option Addr) (k : Nat) : Sl w A 0 k [] := ⟨by simp, fun h => absurd h (by omega)⟩
theorem Sl.at_ {w : World} {A : Option Addr} {n k : Nat} {xs : List Value} (h : Sl w A n k xs) (hn : 0 < n) : ∃ ad, A = some ad ∧ Rd w ad xs := h.2 hn
theorem Rd.elem {w : World} {ad : Addr} {xs : List Value} (h : Rd w ad xs) (i k : Nat) : Rd w (ad.add (i * k)) ((xs.drop (i * k)).take k) := (h.drop _).take _
theorem Sl.cut {w : World} {A : Option Addr} {n k c l m : Nat} {xs : List Value} (h : Sl w A n k xs) (hl : l ≤ m) (hm : m ≤ n) (hc : n ≤ c) :
  Sl w (if c = l then A else A.map (·.add (l * k))) (m - l) k ((xs.drop (l * k)).take ((m - l) * k)) := by
 have hle : l * k + (m - l) * k ≤ n * k := by
  rw [← Nat.add_mul]
  exact Nat.mul_le_mul_right _ (by omega)
 refine ⟨by rw [List.length_take, List.length_drop, h.1]; omega, fun hn => ?_⟩
 obtain ⟨ad, rfl, hr⟩ := h.2 (by omega)
 rw [if_neg (by omega)]
 exact ⟨_, rfl, (hr.drop _).take _⟩
inductive HE where
 | blk (b : Nat) (t : TypeId) (cs : List Value) (fz : Nat × Nat)
 | row (A : Option Addr) (n c : Nat) (t : TypeId) (sz : Nat) (xs : List Value)
 | ob (b : Nat) (o : Obj)
abbrev HE.it (b : Nat) (s : ByteArray) (pos : Nat) : HE := .ob b (.stringIter s pos)
def HE.id : HE → Option Nat
 | .blk b _ _ _ => some b
 | .row A _ _ _ _ _ => A.map (·.block)
 | .ob b _ => some b
def HE.holds (base : Nat) (w : World) : HE → Prop
 | .blk b t cs fz => base ≤ b ∧ w.heap[b]? = some (.cells cs.toArray t fz) ∧ (cs.length ≤ fz.1 ∨ fz.2 ≤ fz.1)
 | .row A n c t sz xs => w.ownsRow base t sz (.slice A n c) n xs
 | .ob b o => base ≤ b ∧ w.heap[b]? = some o
structure Hp (w0 : World) (H : List HE) (w : World) : Prop where
 below : Below w0.heap.size w0 w
 own : ∀ x ∈ H, x.holds w0.heap.size w
 nd : (H.filterMap HE.id).Nodup
section
variable {w0 w w' : World} {H : List HE}
theorem Hp.start (w : World) : Hp w [] w := ⟨Below.refl _ _, fun _ h => (nomatch h), List.nodup_nil⟩
theorem Hp.size (h : Hp w0 H w) : w0.heap.size ≤ w.heap.size := h.below.size
theorem eQ {base : Nat} {x : HE} (h : x.holds base w) {b : Nat} (hb : x.id = some b) : base ≤ b ∧ b < w.heap.size := by
 cases x with
 | blk b' t cs fz =>
  obtain rfl : b' = b := by simpa [HE.id] using hb
  refine ⟨h.1, ?_⟩
  rcases Nat.lt_or_ge b' w.heap.size with hlt | hge
  ·exact hlt
  ·have := h.2.1; rw [Array.getElem?_eq_none hge] at this; cases this
 | row A n c t sz xs =>
  cases A with
  | none => simp [HE.id] at hb
  | some a => exact World.ownsRow.lt h b (by simpa [HE.id, Value.ownBlock] using hb)
 | ob b' o =>
  obtain rfl : b' = b := by simpa [HE.id] using hb
  refine ⟨h.1, ?_⟩
  rcases Nat.lt_or_ge b' w.heap.size with hlt | hge
  ·exact hlt
  ·have := h.2; rw [Array.getElem?_eq_none hge] at this; cases this
theorem pg {base : Nat} {x : HE} (h : x.holds base w) (hk : ∀ b, x.id = some b → w'.heap[b]? = w.heap[b]?) : x.holds base w' := by
 cases x with
 | blk b t cs fz => exact ⟨h.1, (hk b rfl).trans h.2.1, h.2.2⟩
 | row A n c t sz xs =>
  obtain ⟨h1, h2⟩ := h
  refine ⟨h1, ?_⟩
  rcases h2 with h2 | ⟨g, cap, cur, hv, hg, hh, r⟩
  ·exact .inl h2
  ·have hA : A = some ⟨g, 0, none⟩ := by injection hv
   subst hA
   exact .inr ⟨g, cap, cur, hv, hg, (hk g rfl).trans hh, r⟩
 | ob b o => exact ⟨h.1, (hk b rfl).trans h.2⟩
theorem Hp.ext (h : Hp w0 H w) (hb : Below w.heap.size w w') : Hp w0 H w' :=
 ⟨h.below.trans (hb.mono h.size), fun x hx => pg (h.own x hx) fun _ hi => hb.block _ (eQ (h.own x hx) hi).2, h.nd⟩
theorem Hp.sub (h : Hp w0 H w) {H' : List HE} (hs : H'.Sublist H) : Hp w0 H' w := ⟨h.below, fun x hx => h.own x (hs.subset hx), h.nd.sublist (hs.filterMap _)⟩
theorem Hp.at_ (h : Hp w0 H w) {i : Nat} {x : HE} (hi : H[i]? = some x) : x.holds w0.heap.size w := h.own x (List.mem_of_getElem? hi)
theorem Hp.bk (h : Hp w0 H w) (hb : Below w.heap.size w w') {x : HE} (hx : x.holds w.heap.size w') : Hp w0 (x :: H) w' := by
 have h' := h.ext hb
 refine ⟨h'.below, ?_, ?_⟩
 ·intro y hy
  rcases List.mem_cons.1 hy with rfl | hy
  ·cases y with
   | blk b t cs fz => exact ⟨Nat.le_trans h.size hx.1, hx.2⟩
   | row A n c t sz xs =>
    obtain ⟨h1, h2⟩ := hx
    exact ⟨h1, h2.imp id fun ⟨g, cap, cur, hv, hg, r⟩ => ⟨g, cap, cur, hv, Nat.le_trans h.size hg, r⟩⟩
   | ob b o => exact ⟨Nat.le_trans h.size hx.1, hx.2⟩
  ·exact h'.own y hy
 ·rw [List.filterMap_cons]
  split
  ·exact h'.nd
  ·rename_i b hb'
   refine List.nodup_cons.2 ⟨fun hm => ?_, h'.nd⟩
   obtain ⟨y, hy, hyb⟩ := List.mem_filterMap.1 hm
   have h1 := (eQ hx hb').1
   have h2 := (eQ (h.own y hy) hyb).2
   omega
theorem Hp.Bn (h : Hp w0 H w) {i : Nat} {x y : HE} (hi : H[i]? = some x) (hid : ∀ b, y.id = some b → x.id = some b ∨ w.heap.size ≤ b)
  (hb : Below w0.heap.size w0 w') (hk : ∀ b, b < w.heap.size → x.id ≠ some b → w'.heap[b]? = w.heap[b]?) (hy : y.holds w0.heap.size w') : Hp w0 (H.set i y) w' := by
 obtain ⟨hlt, hx⟩ := List.getElem?_eq_some_iff.1 hi
 have hsplit : H = H.take i ++ x :: H.drop (i + 1) := by
  rw [← hx, ← List.drop_eq_getElem_cons hlt, List.take_append_drop]
 have hset : H.set i y = H.take i ++ y :: H.drop (i + 1) := by rw [List.set_eq_take_append_cons_drop, if_pos hlt]
 have hnd := h.nd
 rw [hsplit, List.filterMap_append] at hnd
 have hother : ∀ z, z ∈ H.take i ∨ z ∈ H.drop (i + 1) → z ∈ H ∧ (∀ b, z.id = some b → x.id ≠ some b) := by
  intro z hz
  refine ⟨hz.elim List.mem_of_mem_take List.mem_of_mem_drop, fun b hzb hxb => ?_⟩
  rw [List.filterMap_cons, hxb] at hnd
  simp only [] at hnd
  rw [List.nodup_append] at hnd
  rcases hz with hz | hz
  ·exact hnd.2.2 b (List.mem_filterMap.2 ⟨z, hz, hzb⟩) b (List.mem_cons_self) rfl
  ·exact (List.nodup_cons.1 hnd.2.1).1 (List.mem_filterMap.2 ⟨z, hz, hzb⟩)
 have hold : ∀ z, z ∈ H.take i ∨ z ∈ H.drop (i + 1) → z.holds w0.heap.size w' := fun z hz => by
  obtain ⟨hm, hne⟩ := hother z hz
  exact pg (h.own z hm) fun b hzb => hk b (eQ (h.own z hm) hzb).2 (hne b hzb)
 rw [hset]
 refine ⟨hb, ?_, ?_⟩
 ·intro z hz
  rcases List.mem_append.1 hz with hz | hz
  ·exact hold z (.inl hz)
  ·rcases List.mem_cons.1 hz with rfl | hz
   ·exact hy
   ·exact hold z (.inr hz)
 ·rw [List.filterMap_append]
  have hsub : ((H.take i).filterMap HE.id ++ (H.drop (i + 1)).filterMap HE.id).Nodup := by
   refine hnd.sublist (List.Sublist.append (List.Sublist.refl _) ?_)
   exact List.Sublist.filterMap _ (List.sublist_cons_self _ _)
  rw [List.filterMap_cons]
  split
  ·exact hsub
  ·rename_i b hyb
   have hfresh : ∀ z, z ∈ H.take i ∨ z ∈ H.drop (i + 1) → z.id ≠ some b := fun z hz hzb => by
    obtain ⟨hm, hne⟩ := hother z hz
    rcases hid b hyb with h1 | h1
    ·exact hne b hzb h1
    ·have := (eQ (h.own z hm) hzb).2; omega
   rw [List.nodup_append] at hsub ⊢
   refine ⟨hsub.1, List.nodup_cons.2 ⟨fun hm => ?_, hsub.2.1⟩, fun u hu v hv => ?_⟩
   ·obtain ⟨z, hz, hzb⟩ := List.mem_filterMap.1 hm
    exact hfresh z (.inr hz) hzb
   ·rcases List.mem_cons.1 hv with rfl | hv
    ·rintro rfl
     obtain ⟨z, hz, hzb⟩ := List.mem_filterMap.1 hu
     exact hfresh z (.inl hz) hzb
    ·exact hsub.2.2 u hu v hv
end
section
variable {w0 w w' : World} {H : List HE}
theorem Hp.vg (h : Hp w0 H w) {i b : Nat} {t : TypeId} {cs : List Value} {fz : Nat × Nat} (hi : H[i]? = some (.blk b t cs fz)) : Rd w ⟨b, 0, none⟩ cs := fun j u hu => by
 have h1 := (h.at_ hi).2.1
 rw [eP, Nat.zero_add, cell_of_row w b j _ t fz h1]
 simpa using hu
theorem Hp.dY (h : Hp w0 H w) {i b o : Nat} {t : TypeId} {cs : List Value} {fz : Nat × Nat} {v : Value} (hi : H[i]? = some (.blk b t cs fz)) (hv : cs[o]? = some v) : w.cell? ⟨b, o, none⟩ = some v := by
 have := h.vg hi o v hv
 rwa [eP, Nat.zero_add] at this
theorem Hp.au (h : Hp w0 H w) {i b o n : Nat} {t : TypeId} {cs vs : List Value} {fz : Nat × Nat} (hi : H[i]? = some (.blk b t cs fz)) (hv : (cs.drop o).take n = vs) : Rd w ⟨b, o, none⟩ vs := by
 have := ((h.vg hi).drop o).take n
 rwa [eP, Nat.zero_add, hv] at this
theorem qY {base : Nat} {t : TypeId} {A : Option Addr} {n c sz : Nat} {xs : List Value} (h : w.ownsRow base t sz (.slice A n c) n xs) : Sl w A n sz xs := by
 refine ⟨h.1, fun hn => ?_⟩
 obtain ⟨g, cap, hv, _, hlt⟩ := h.form hn
 have hA : A = some ⟨g, 0, none⟩ := by injection hv
 subst hA
 exact ⟨_, rfl, h.cells (g := g) rfl⟩
theorem Hp.eO (h : Hp w0 H w) {i n c sz : Nat} {A : Option Addr} {t : TypeId} {xs : List Value} (hi : H[i]? = some (.row A n c t sz xs)) (hn : 0 < n) : ∃ g, A = some ⟨g, 0, none⟩ := by
 obtain ⟨g, cap, hv, _⟩ := World.ownsRow.form (h.at_ hi) hn
 injection hv with hA
 exact ⟨g, hA⟩
theorem Hp.cI (h : Hp w0 H w) {i b n c sz o : Nat} {t : TypeId} {xs : List Value} {v : Value} (hi : H[i]? = some (.row (some ⟨b, 0, none⟩) n c t sz xs)) (hv : xs[o]? = some v) : w.cell? ⟨b, o, none⟩ = some v := by
 have := World.ownsRow.cells (h.at_ hi) (g := b) rfl o v hv
 rwa [eP, Nat.zero_add] at this
theorem Hp.zo (h : Hp w0 H w) {i n c sz : Nat} {A : Option Addr} {t : TypeId} {xs : List Value} (hi : H[i]? = some (.row A n c t sz xs)) : xs.length = n * sz := (h.at_ hi).1
theorem Hp.aK (h : Hp w0 H w) {i n c sz : Nat} {A : Option Addr} {t : TypeId} {xs : List Value} (hi : H[i]? = some (.row A n c t sz xs)) : Sl w A n sz xs := qY (h.at_ hi)
end
section
variable {P : Program} {ρ : Rf} {w : World} {d : Option Nat} {ty : TypeId} {pos : String} {af : Array Edge} {g : Option (Nat × Bool)}
theorem k8 {t : TypeId} {x : Operand} {ad : Addr} {n by' : Nat} {zc vs : List Value} (ht : db P t = some (n, true, by', zc)) (hx : ev ρ x = .pointer (some ad)) (hr : Rd w ad vs) (hl : vs.length = n) :
  (execOp (ev ρ) ⟨d, .load t x, ty, pos, af, g⟩).run P w = .ok (.value (.agg vs.toArray)) w := by
 subst hl
 simp [execOp, hx, Instr.loadAt, Instr.sureAddr, loadVar, iK ht, dQ ht, run_loadCells_list (P := P) w ad vs hr]
theorem ic {t : TypeId} {x : Operand} {ad : Addr} {n by' : Nat} {zc : List Value} {v : Value} (ht : db P t = some (n, false, by', zc)) (hx : ev ρ x = .pointer (some ad)) (hc : w.cell? ad = some v) :
  (execOp (ev ρ) ⟨d, .load t x, ty, pos, af, g⟩).run P w = .ok (.value v) w := by
 simp [execOp, hx, Instr.loadAt, Instr.sureAddr, loadVar, iK ht, run_load, hc]
theorem aH {t : TypeId} {ad : Addr} {n by' : Nat} {zc vs : List Value} (ht : db P t = some (n, true, by', zc)) (hr : Rd w ad vs) (hl : vs.length = n) :
  (loadVar t ad).run P w = .ok (.agg vs.toArray) w := by
 subst hl
 simp [loadVar, iK ht, dQ ht, run_loadCells_list (P := P) w ad vs hr]
def iy (P : Program) (s : TypeId) (i : Nat) : Option (Nat × TypeId) :=
 match P.underlying s with
 | some (.struct fs) => match fs[i]? with
  | some f => if P.cellsOf f.type = 0 then none else some (f.offset, f.type)
  | none => none
 | _ => none
theorem iL {s : TypeId} {x : Operand} {f b o off : Nat} {ft : TypeId} (hf : iy P s f = some (off, ft)) (hx : ev ρ x = .pointer (some ⟨b, o, none⟩)) :
  (execOp (ev ρ) ⟨d, .fieldAddr s x f, ty, pos, af, g⟩).run P w = .ok (.value (.pointer (some ⟨b, o + off, none⟩))) w := by
 unfold iy at hf
 split at hf
 ·rename_i fs hs
  split at hf
  ·rename_i fd hfd
   split at hf
   ·cases hf
   ·rename_i hc
    simp only [Option.some.injEq, Prod.mk.injEq] at hf
    obtain ⟨rfl, rfl⟩ := hf
    have hsz : ∃ i, P.info? fd.type = some i ∧ i.size ≠ 0 := by
     unfold Program.cellsOf at hc
     cases hi : P.info? fd.type with
     | none => simp [hi] at hc
     | some i => exact ⟨i, rfl, by simpa [hi] using hc⟩
    obtain ⟨i, hi, hi0⟩ := hsz
    simp [execOp, hx, Instr.fieldAt, run_underlying hs, hfd, Instr.sureAddr, fieldPlace, sizeOf, typeInfo, hi, hi0, eP]
  ·cases hf
 ·cases hf
theorem lP {s : TypeId} {x : Operand} {f off : Nat} {ad : Addr} {ft : TypeId} (hf : iy P s f = some (off, ft)) (hx : ev ρ x = .pointer (some ad)) :
  (execOp (ev ρ) ⟨d, .fieldAddr s x f, ty, pos, af, g⟩).run P w = .ok (.value (.pointer (some (ad.add off)))) w := by
 unfold iy at hf
 split at hf
 ·rename_i fs hs
  split at hf
  ·rename_i fd hfd
   split at hf
   ·cases hf
   ·rename_i hc
    simp only [Option.some.injEq, Prod.mk.injEq] at hf
    obtain ⟨rfl, rfl⟩ := hf
    have hsz : ∃ i, P.info? fd.type = some i ∧ i.size ≠ 0 := by
     unfold Program.cellsOf at hc
     cases hi : P.info? fd.type with
     | none => simp [hi] at hc
     | some i => exact ⟨i, rfl, by simpa [hi] using hc⟩
    obtain ⟨i, hi, hi0⟩ := hsz
    simp [execOp, hx, Instr.fieldAt, run_underlying hs, hfd, Instr.sureAddr, fieldPlace, sizeOf, typeInfo, hi, hi0]
  ·cases hf
 ·cases hf
end
end Go.Proofs.YtaapkaefelhfcaaGreatDoor
namespace Go.Proofs.YtaapkaefelhfcaaGreatDoor
open Go.RowKit
variable {ro : Mode}
def cB (cs : List Value) (o : Nat) (vs : List Value) : List Value := cs.take o ++ vs ++ cs.drop (o + vs.length)
theorem ez {cs vs : List Value} {o : Nat} (h : o + vs.length ≤ cs.length) : (cB cs o vs).length = cs.length := by
 simp only [cB, List.length_append, List.length_take, List.length_drop]; omega
theorem pB (cs : List Value) (o : Nat) : cB cs o [] = cs := by simp [cB]
theorem m5 {cs vs : List Value} {o : Nat} {v : Value} (h : o + (v :: vs).length ≤ cs.length) : cB cs o (v :: vs) = cB (cs.set o v) (o + 1) vs := by
 simp only [List.length_cons] at h
 have h0 : cs.set o v = cs.take o ++ v :: cs.drop (o + 1) := by rw [List.set_eq_take_append_cons_drop, if_pos (by omega)]
 have h2 : (cs.take o).length = o := by simp; omega
 have h1 : (cs.set o v).take (o + 1) = cs.take o ++ [v] := by
  rw [h0, List.take_append, h2, List.take_of_length_le (by omega)]
  simp
 have h3 : (cs.set o v).drop (o + 1 + vs.length) = cs.drop (o + 1 + vs.length) := List.drop_set_of_lt (by omega)
 unfold cB
 rw [h1, h3]
 simp [Nat.add_assoc, Nat.add_comm 1]
theorem pS {a b c : World} {r : Option Nat} (h : a.grownBy b r) (k : b.grownBy c r) : a.grownBy c r :=
 ⟨k.os.trans h.os, k.tape.trans h.tape, k.output.trans h.output, Nat.le_trans h.size k.size, fun i hi hne => (k.block i (Nat.lt_of_lt_of_le hi h.size) hne).trans (h.block i hi hne)⟩
theorem tt (w : World) (b o : Nat) (v : Value) : w.grownBy (w.setCell ⟨b, o, none⟩ v) (some b) :=
 ⟨rfl, rfl, rfl, by simp [World.setCell], fun k _ hne => Below.heap_setCell w _ v k (fun e => hne (by rw [e]))⟩
section
variable {P : Program}
theorem eS {b : Nat} {t : TypeId} {fz : Nat × Nat} (o : Nat) : ∀ (vs : List Value) (i : Nat) (cs : List Value) (w : World), w.heap[b]? = some (.cells cs.toArray t fz) → (cs.length ≤ fz.1 ∨ fz.2 ≤ fz.1) →
  o + i + vs.length ≤ cs.length → (∀ v ∈ vs, v.oneCell' = true) →
  ∃ w', (storeCells ⟨b, o, none⟩ vs i).run P w = .ok () w' ∧ w'.heap[b]? = some (.cells (cB cs (o + i) vs).toArray t fz) ∧ w.grownBy w' (some b) ∧ w'.heap.size = w.heap.size
 | [], i, cs, w, hw, _, _, _ => ⟨w, by simp [storeCells], by rw [pB]; exact hw, World.grownBy.refl _ _, rfl⟩
 | v :: vs, i, cs, w, hw, hf, hl, h1 => by
  simp only [List.length_cons] at hl
  have hoi : o + i < cs.length := by omega
  have hc : w.cell? ⟨b, o + i, none⟩ = some cs[o + i] := by
   rw [cell_of_row w b (o + i) _ t fz hw]
   simp [List.getElem?_eq_getElem hoi]
  have hfr : w.frozen? ⟨b, o + i, none⟩ = false := by
   simp only [World.frozen?, hw]
   rcases hf with hf | hf <;> simp <;> omega
  have hw2 : (w.setCell ⟨b, o + i, none⟩ v).heap[b]? = some (.cells (cs.set (o + i) v).toArray t fz) := by
   simp [World.setCell, Array.getElem?_modify, hw]
  obtain ⟨w', hr, hb', hg, hs⟩ := eS (b := b) (t := t) (fz := fz) o vs (i + 1) (cs.set (o + i) v) _ hw2 (by simpa using hf) (by simp; omega) (fun u hu => h1 u (List.mem_cons_of_mem _ hu))
  refine ⟨w', ?_, ?_, pS (tt w b (o + i) v) hg, hs.trans (by simp [World.setCell])⟩
  ·simp only [storeCells, Sem.run_bind, eP, run_store P w ⟨b, o + i, none⟩ v .plain (h1 v (List.mem_cons_self)), hc, hfr]
   simpa using hr
  ·rw [m5 (by simp; omega)]
   exact hb'
end
def iP (pl : Nat → Option (Nat × Nat)) : List Value → List (Nat × Value) → Option (List Value)
 | cs, [] => some cs
 | cs, (i, v) :: r =>
  match pl i with
  | none => none
  | some (off, size) => if v.cells.toList.length ≠ size ∨ cs.length < off + v.cells.toList.length then none else iP pl (cB cs off v.cells.toList) r
theorem lM : ∀ (vs : List Value) (k o : Nat) (cs : List Value), o + k + vs.length ≤ cs.length →
  (vs.zipIdx k).foldl (fun (cs : Array Value) (x : Value × Nat) => cs.setIfInBounds (o + x.2) x.1) cs.toArray = (cB cs (o + k) vs).toArray
 | [], k, o, cs, _ => by simp [pB]
 | v :: vs, k, o, cs, h => by
  rw [List.zipIdx_cons, List.foldl_cons]
  simp only [List.setIfInBounds_toArray]
  rw [lM vs (k + 1) o (cs.set (o + k) v) (by simp at h ⊢; omega), m5 (by simp at h ⊢; omega)]
  rfl
theorem mg {pl : Nat → Option (Nat × Nat)} : ∀ (ps : List (Nat × Value)) (zs cs : List Value), iP pl zs ps = some cs → Instr.fill pl zs.toArray ps = some cs.toArray
 | [], zs, cs, h => by simp only [iP, Option.some.injEq] at h; subst h; rfl
 | (i, v) :: r, zs, cs, h => by
  unfold iP at h
  unfold Instr.fill
  split at h
  ·cases h
  ·rename_i off size hpl
   split at h
   ·cases h
   ·rename_i hc
    simp only [ne_eq, not_or, Decidable.not_not, Nat.not_lt] at hc
    simp only [hpl]
    have h1 : ¬ ((v.cells.size ≠ size || decide (off + v.cells.size > zs.toArray.size)) = true) := by
     have e : v.cells.size = v.cells.toList.length := by simp
     simp only [e, hc.1, List.size_toArray, Bool.or_eq_true, decide_eq_true_eq, ne_eq, not_true, decide_false, Bool.false_eq_true, false_or]
     omega
    rw [if_neg h1]
    have h2 : v.cells.zipIdx.foldl (fun (cs : Array Value) (x : Value × Nat) => cs.setIfInBounds (off + x.2) x.1) zs.toArray = (cB zs off v.cells.toList).toArray := by
     have := lM v.cells.toList 0 off zs (by omega)
     rw [Nat.add_zero] at this
     rw [← this, ← Array.foldl_toList, Array.toList_zipIdx]
    exact (congrArg (fun x => Instr.fill pl x r) h2).trans (mg r _ cs h)
def fe : Nat → List Value → List Value
 | 0, _ => []
 | n + 1, zc => zc ++ fe n zc
theorem gY (n : Nat) (zc : List Value) : (fe n zc).length = n * zc.length := by
 induction n with
 | zero => simp [fe]
 | succ n ih => simp [fe, ih, Nat.add_mul, Nat.add_comm]
theorem nC : ∀ (n : Nat) (zc : List Value) (i : Nat), i < n * zc.length → (fe n zc)[i]? = zc[i % zc.length]?
 | 0, zc, i, h => by simp at h
 | n + 1, zc, i, h => by
  unfold fe
  rcases Nat.lt_or_ge i zc.length with hi | hi
  ·rw [List.getElem?_append_left hi, Nat.mod_eq_of_lt hi]
  ·rw [List.getElem?_append_right hi, nC n zc (i - zc.length) (by rw [Nat.add_mul] at h; omega)]
   congr 1
   rw [Nat.mod_eq_sub_mod hi]
theorem iE (n : Nat) (zc : List Value) : (Array.range (n * zc.length)).map (fun i => zc.toArray[i % zc.length]!) = (fe n zc).toArray := by
 apply Array.ext_getElem?
 intro i
 rcases Nat.lt_or_ge i (n * zc.length) with h | h
 ·have hpos : 0 < zc.length := by
   rcases Nat.eq_zero_or_pos zc.length with h0 | h0
   ·rw [h0] at h; omega
   ·exact h0
  have hm : i % zc.length < zc.length := Nat.mod_lt _ hpos
  simp [h, nC n zc i h, List.getElem?_eq_getElem hm]
 ·have h2 : (fe n zc).length ≤ i := by rw [gY]; exact h
  simp [h2, h]
def pE (ρ : Rf) : List (Nat × Operand) → List (Nat × Value)
 | [] => []
 | (i, x) :: l => (i, ev ρ x) :: pE ρ l
theorem nI {ρ : Rf} (parts : Array (Nat × Operand)) {ps : List (Nat × Value)} (h : pE ρ parts.toList = ps) : (parts.map fun (i, x) => (i, ev ρ x)) = ps.toArray := by
 have h1 : ∀ l : List (Nat × Operand), l.map (fun (i, x) => (i, ev ρ x)) = pE ρ l := by
  intro l
  induction l with
  | nil => rfl
  | cons a l ih => simp only [List.map_cons, ih]; rfl
 subst h
 rw [← h1]
 apply Array.ext'
 simp
section
variable {P : Program} {N : Nat} {ops : Array Oper} {Q : Kq} {ρ : Rf} {w w0 : World} {rest : List Oper} {H : List HE} {d : Nat} {ty : TypeId} {pos : String} {af : Array Edge}
theorem oN {w' : World} {r : Option Nat} (h : Below w0.heap.size w0 w) (hg : w.grownBy w' r) (hr : ∀ k, r = some k → w0.heap.size ≤ k) : Below w0.heap.size w0 w' := h.grown hg h.size hr
theorem Hp.grown {w' : World} {x y : HE} {i : Nat} (h : Hp w0 H w) (hi : H[i]? = some x) (hg : w.grownBy w' x.id) (hid : y.id = x.id ∨ y.id = none ∨ y.id = some w.heap.size) (hy : y.holds w0.heap.size w') : Hp w0 (H.set i y) w' := by
 refine h.Bn hi (fun b hb => ?_) (oN h.below hg fun k hk => (eQ (h.at_ hi) hk).1) (fun b hlt hne => hg.block b hlt (fun e => hne e.symm)) hy
 rcases hid with e | e | e
 ·exact .inl (by rw [← e]; exact hb)
 ·rw [e] at hb; cases hb
 ·rw [e] at hb
  injection hb with hb
  exact .inr (by omega)
theorem Hp.di (h : Hp w0 H w) (t : TypeId) (sz : Nat) : Hp w0 (.row none 0 0 t sz [] :: H) w :=
 ⟨h.below, fun x hx => by
  rcases List.mem_cons.1 hx with rfl | hx
  ·exact World.ownsRow_nil _ _ _ _
  ·exact h.own x hx, by show (List.filterMap HE.id H).Nodup; exact h.nd⟩
theorem Hp.rX (h : Hp w0 H w) (t : TypeId) (cs : List Value) : Hp w0 (.blk w.heap.size t cs (0, 0) :: H) (w.alloc (.cells cs.toArray t)) :=
 h.bk ((Below.refl _ _).alloc (Nat.le_refl _) _) ⟨Nat.le_refl _, heap_alloc_new w _, .inr (Nat.le_refl _)⟩
theorem Hp.rQ (h : Hp w0 H w) (t : TypeId) (sz n : Nat) (cs : List Value) (hl : cs.length = n * sz) (hn : n ≤ maxLen) : Hp w0 (.row (some ⟨w.heap.size, 0, none⟩) n n t sz cs :: H) (w.alloc (.cells cs.toArray t)) :=
 h.bk ((Below.refl _ _).alloc (Nat.le_refl _) _) ⟨hl, .inr ⟨w.heap.size, n, cs.toArray, rfl, Nat.le_refl _, heap_alloc_new w _, Nat.le_refl _, hn, by simpa using hl, by simp only [List.take_of_length_le (show cs.length ≤ n * sz by omega)]⟩⟩
theorem Bw (hh : Hp w0 H w) {t : TypeId} {x : Operand} {cs : List Value} {v : Value} (hx : ev ρ x = v) (hc : v.cells = cs.toArray) (hN : d < N)
  (k : ∀ b w', Hp w0 (.blk b t cs (0, 0) :: H) w' → WL ro P N ops Q rest (cL ρ d (.pointer (some ⟨b, 0, none⟩))) w') : WL ro P N ops Q (⟨some d, .box t x, ty, pos, af, none⟩ :: rest) ρ w :=
 a8 rfl rfl hN (w' := w.alloc (.cells cs.toArray t)) (v := .pointer (some ⟨w.heap.size, 0, none⟩)) (by simp [execOp, hx, Instr.box, newVar, newRow, hc]) (k _ _ (hh.rX t cs))
theorem y7 (hh : Hp w0 H w) {t : TypeId} {n by' : Nat} {ag : Bool} {zc : List Value} (ht : db P t = some (n, ag, by', zc)) (hN : d < N)
  (k : ∀ b w', Hp w0 (.blk b t zc (0, 0) :: H) w' → WL ro P N ops Q rest (cL ρ d (.pointer (some ⟨b, 0, none⟩))) w') : WL ro P N ops Q (⟨some d, .alloc t, ty, pos, af, none⟩ :: rest) ρ w := by
 obtain ⟨z, hz, hzc⟩ := da (w := w) ht
 exact a8 rfl rfl hN (w' := w.alloc (.cells zc.toArray t)) (v := .pointer (some ⟨w.heap.size, 0, none⟩)) (by simp [execOp, Instr.alloc, newVar, newRow, hz, hzc]) (k _ _ (hh.rX t zc))
theorem nU (hh : Hp w0 H w) {t t' : TypeId} {x y : Operand} {i b o n by' : Nat} {ag : Bool} {zc cs vs : List Value} {fz : Nat × Nat} {v : Value} (hx : ev ρ x = .pointer (some ⟨b, o, none⟩)) (hi : H[i]? = some (.blk b t' cs fz))
  (hy : ev ρ y = v) (hc : v.cells = vs.toArray) (ht : db P t = some (n, ag, by', zc)) (hl : vs.length = n) (ho : o + n ≤ cs.length) (h1 : (vs.all Value.oneCell') = true)
  (k : ∀ w', Hp w0 (H.set i (.blk b t' (cB cs o vs) fz)) w' → WL ro P N ops Q rest ρ w') : WL ro P N ops Q (⟨none, .store t x y, ty, pos, af, none⟩ :: rest) ρ w := by
 have hb := hh.at_ hi
 obtain ⟨w', hr, hb', hg, hs⟩ := eS (P := P) (b := b) (t := t') (fz := fz) o vs 0 cs w hb.2.1 hb.2.2 (by omega) (by simpa using h1)
 refine wo rfl rfl (w' := w') ?_ (k w' (hh.grown hi hg (.inl rfl) ⟨hb.1, by simpa using hb', by rw [ez (by omega)]; exact hb.2.2⟩))
 simp [execOp, hx, hy, Instr.storeAt, Instr.sureAddr, storeVar, dQ ht, hl, hc, hr]
theorem bP (hh : Hp w0 H w) {t t' : TypeId} {x y : Operand} {i b o n m c sz by' : Nat} {ag : Bool} {zc xs vs : List Value} {v : Value} (hx : ev ρ x = .pointer (some ⟨b, o, none⟩)) (hi : H[i]? = some (.row (some ⟨b, 0, none⟩) m c t' sz xs))
  (hy : ev ρ y = v) (hc : v.cells = vs.toArray) (ht : db P t = some (n, ag, by', zc)) (hl : vs.length = n) (ho : o + n ≤ xs.length) (h1 : (vs.all Value.oneCell') = true)
  (k : ∀ w', Hp w0 (H.set i (.row (some ⟨b, 0, none⟩) m c t' sz (cB xs o vs))) w' → WL ro P N ops Q rest ρ w') : WL ro P N ops Q (⟨none, .store t x y, ty, pos, af, none⟩ :: rest) ρ w := by
 have hrow := hh.at_ hi
 obtain ⟨hlen, h2⟩ := hrow
 rcases h2 with ⟨h2, _⟩ | ⟨g, cap, cur, hv, hg, hheap, hmc, hcm, hcur, htake⟩
 ·injection h2 with h2; cases h2
 ·injection hv with hA hn hcap
  injection hA with hA
  injection hA with hA
  subst hA; subst hcap
  have hcl : cur.size = cur.toList.length := by simp
  have hle : m * sz ≤ c * sz := Nat.mul_le_mul_right _ hmc
  obtain ⟨w', hr, hb', hgr, hs⟩ := eS (P := P) (b := b) (t := t') (fz := (0, 0)) o vs 0 cur.toList w (by simpa using hheap) (.inr (Nat.le_refl _)) (by rw [← hcl]; omega) (by simpa using h1)
  refine wo rfl rfl (w' := w') ?_ (k w' (hh.grown hi hgr (.inl rfl) ⟨by rw [ez (by omega)]; exact hlen, .inr ⟨b, c, (cB cur.toList o vs).toArray, rfl, hg, by simpa using hb', hmc, hcm, ?_, ?_⟩⟩))
  ·simp [execOp, hx, hy, Instr.storeAt, Instr.sureAddr, storeVar, dQ ht, hl, hc, hr]
  ·simp only [List.size_toArray]
   rw [ez (by rw [← hcl]; omega), ← hcl, hcur]
  ·simp only [cB]
   rw [← htake]
   have h5 : o + vs.length ≤ m * sz := by omega
   have h6 : m * sz ≤ cur.toList.length := by rw [← hcl, hcur]; exact hle
   rw [List.take_take, Nat.min_eq_left (by omega), List.drop_take, List.append_assoc, List.append_assoc, List.take_append, List.take_append]
   simp only [List.length_take, Nat.min_eq_left (show o ≤ cur.toList.length by omega)]
   rw [List.take_of_length_le (l := cur.toList.take o) (by simp; omega), List.take_of_length_le (l := vs) (by omega)]
   congr 2
   congr 1
   omega
theorem bB (hh : Hp w0 H w) {t e : TypeId} {len sz by' : Nat} {ag : Bool} {parts : Array (Nat × Operand)} {ps : List (Nat × Value)} {zc cs : List Value} (ht : P.underlying t = some (.slice e)) (hte : db P e = some (sz, ag, by', zc))
  (hp : pE ρ parts.toList = ps) (hzl : zc.length = sz) (hf : iP (fun i => some (i * sz, sz)) (fe len zc) ps = some cs) (h0 : ¬ len * sz = 0) (hle : len ≤ 1000) (hsl : len * sz ≤ 16777216) (hl : cs.length = len * sz) (hN : d < N)
  (k : ∀ b w', Hp w0 (.row (some ⟨b, 0, none⟩) len len e sz cs :: H) w' → WL ro P N ops Q rest (cL ρ d (.slice (some ⟨b, 0, none⟩) len len)) w') : WL ro P N ops Q (⟨some d, .buildSlice t len parts, ty, pos, af, none⟩ :: rest) ρ w := by
 obtain ⟨z, hz, hzc⟩ := da (w := w) hte
 refine a8 rfl rfl hN (w' := w.alloc (.cells cs.toArray e)) (v := .slice (some ⟨w.heap.size, 0, none⟩) len len) ?_ (k _ _ (hh.rQ e sz len cs hl (by unfold maxLen; omega)))
 have h16 : ¬ 2 ^ 24 < len * sz := by omega
 have hf' := mg _ _ _ hf
 rw [← iE, hzl] at hf'
 have hzs : zc.toArray.size = sz := by simpa using hzl
 have hp' := nI parts hp
 simp only [execOp, hp', Instr.buildSlice, Sem.run_bind, run_underlying ht, Result.andThen_ok, dQ hte, gt_iff_lt, if_neg h16, if_neg h0, hz, hzc, Sem.run_pure, hzs, hf']
 simp [newRow]
def mq (P : Program) (t : TypeId) : Option (List (Nat × Nat)) :=
 match P.underlying t with
 | some (.struct fs) => fs.toList.mapM fun f => (P.info? f.type).map fun i => (f.offset, i.size)
 | _ => none
theorem o4 {P : Program} {w : World} : ∀ (l : List Field) (pl : List (Nat × Nat)), (l.mapM fun f => (P.info? f.type).map fun i => (f.offset, i.size)) = some pl →
  (l.mapM (m := Sem) fun f => do pure (f.offset, ← sizeOf f.type)).run P w = .ok pl w
 | [], pl, h => by
  simp at h; subst h; simp
 | f :: l, pl, h => by
  rw [List.mapM_cons] at h
  cases hi : P.info? f.type with
  | none => simp [hi] at h
  | some i =>
   cases hr : l.mapM (fun f => (P.info? f.type).map fun i => (f.offset, i.size)) with
   | none => simp [hr] at h
   | some pl' =>
    simp [hi, hr] at h
    have ih := o4 (w := w) l pl' hr
    have hs : (sizeOf f.type).run P w = .ok i.size w := by simp [sizeOf, typeInfo, hi]
    rw [List.mapM_cons, Sem.run_bind, Sem.run_bind, hs, Result.andThen_ok, Sem.run_pure, Result.andThen_ok, Sem.run_bind, ih, Result.andThen_ok, Sem.run_pure, h]
theorem rT {dd : Option Nat} {g : Option (Nat × Bool)} {t : TypeId} {n by' : Nat} {parts : Array (Nat × Operand)} {ps : List (Nat × Value)} {zc cs : List Value} {pl : List (Nat × Nat)} (hte : db P t = some (n, true, by', zc))
  (hpl : mq P t = some pl)
  (hp : pE ρ parts.toList = ps) (hf : iP (pl[·]?) zc ps = some cs) :
  (execOp (ev ρ) ⟨dd, .build t parts, ty, pos, af, g⟩).run P w = .ok (.value (.agg cs.toArray)) w := by
 obtain ⟨z, hz, hzc⟩ := da (w := w) hte
 unfold mq at hpl
 split at hpl
 ·rename_i fs hfs
  have h1 := o4 (w := w) _ _ hpl
  have h2 : (fs.mapM (m := Sem) fun f => do pure (f.offset, ← sizeOf f.type)).run P w = .ok pl.toArray w := by
   have e : fs = fs.toList.toArray := by simp
   rw [e, List.mapM_toArray, Sem.run_map, h1]
   rfl
  have hf' := mg _ _ _ hf
  have hpp : (fun (x : Nat) => pl.toArray[x]?) = fun x => pl[x]? := by funext x; simp
  have hp' := nI parts hp
  simp only [execOp, hp', Instr.build, Sem.run_bind, hz, Result.andThen_ok, run_underlying hfs, h2, hzc, hpp, hf', Sem.run_pure]
 ·cases hpl
end
end Go.Proofs.YtaapkaefelhfcaaGreatDoor
namespace Go.Proofs.YtaapkaefelhfcaaGreatDoor
open Go.RowKit
variable {ro : Mode}
theorem gk (A : Option Addr) (n c : Nat) : (Value.slice A n c).ownBlock = A.map (·.block) := by cases A <;> rfl
theorem nP (n : Nat) (z : Value) : fe n [z] = List.replicate n z := by
 induction n with
 | zero => rfl
 | succ n ih => simp [fe, ih, List.replicate_succ]
theorem gx {w : World} {ad : Addr} {xs : List Value} {m : Int} {k : Nat} {v : Value} (h : Rd w ad xs) (hx : xs[k]? = some v) (hm : m = (k : Int)) : w.cell? (ad.add (m.toNat * 1)) = some v := by
 subst hm
 simpa using h k v hx
def je (l : List UInt8) : List Value := l.map fun c => .int .u8 c.toNat
theorem gH (l : List UInt8) : (je l).length = l.length := by simp [je]
section
variable {P : Program} {w : World}
theorem lK (base : Nat) (t ty e : TypeId) (i : TypeInfo) (ht : P.underlying t = some (.slice e)) (hi : P.info? e = some i)
  (v : Value) (n : Nat) (xs : List Value) (sz : Nat) (hown : w.ownsRow base e sz v n xs) (c : Nat) : (Builtin.append_ #[t, t] ty #[v, .slice none 0 c]).run P w = .ok v w := by
 rcases hown.2 with ⟨rfl, rfl⟩ | ⟨g, cap, cur, rfl, _, _, hnc, _⟩
 ·simp [Builtin.append_, run_underlying ht, sizeOf, typeInfo, hi, Builtin.lenOf, Builtin.firstCells]
 ·simp [Builtin.append_, run_underlying ht, sizeOf, typeInfo, hi, Builtin.lenOf, Builtin.firstCells, hnc, storeCells]
theorem kQ (base : Nat) (t ty e : TypeId) (sz by' : Nat) (ag : Bool) (zc : List Value) (ht : P.underlying t = some (.slice e)) (hte : db P e = some (sz, ag, by', zc)) (hzl : zc.length = sz) (hsz : 0 < sz)
  (A : Option Addr) (n c : Nat) (xs : List Value) (hown : w.ownsRow base e sz (.slice A n c) n xs) (B : Option Addr) (m c' : Nat) (news : List Value) (hsl : Sl w B m sz news) (h1 : ∀ u ∈ news, u.oneCell' = true)
  (h63 : n + m ≤ maxLen) (hbytes : (n + m) * by' ≤ 140737488355328) (hbase : base ≤ w.heap.size) :
  ∃ A' c2 w', (Builtin.append_ #[t, t] ty #[.slice A n c, .slice B m c']).run P w = .ok (.slice A' (n + m) c2) w' ∧ w'.ownsRow base e sz (.slice A' (n + m) c2) (n + m) (xs ++ news) ∧
   w.grownBy w' (A.map (·.block)) ∧ (A'.map (·.block) = A.map (·.block) ∨ A'.map (·.block) = none ∨ A'.map (·.block) = some w.heap.size) := by
 obtain ⟨i, z, d, hi, hd, hz, hs, hby, hzc, _⟩ := ew hte
 have hzs : z.cells.size = sz := by rw [hzc]; simpa using hzl
 have fin : ∀ (ad : Addr), B = some ad → Rd w ad news → ∃ A' c2 w', (Builtin.append_ #[t, t] ty #[.slice A n c, .slice B m c']).run P w = .ok (.slice A' (n + m) c2) w' ∧ w'.ownsRow base e sz (.slice A' (n + m) c2) (n + m) (xs ++ news) ∧
   w.grownBy w' (A.map (·.block)) ∧ (A'.map (·.block) = A.map (·.block) ∨ A'.map (·.block) = none ∨ A'.map (·.block) = some w.heap.size) := by
  rintro ad rfl hr
  obtain ⟨v', w', hrun, h2, h3, _, h5⟩ := run_append_own_at (P := P) w base t ty e i z sz by' ht hi hz hs hby hzs hsz (.slice A n c) n xs hown ad m c' news hsl.1 hr h1 h63 hbytes hbase
  rw [gk] at h3
  rcases h2.2 with ⟨hv, h0⟩ | ⟨g, cap, cur, hv, r⟩
  ·subst hv
   refine ⟨none, 0, w', by rw [hrun, h0], by rw [h0]; exact h0 ▸ h2, h3, .inr (.inl rfl)⟩
  ·subst hv
   refine ⟨_, _, w', hrun, h2, h3, ?_⟩
   rcases h5 with h5 | h5
   ·exact .inl (by rw [← gk _ (n + m) cap, h5, gk])
   ·exact .inr (.inr (by rw [← gk _ (n + m) cap, h5]))
 rcases Nat.eq_zero_or_pos m with h0 | h0
 ·subst h0
  have hnews : news = [] := List.eq_nil_of_length_eq_zero (by simpa using hsl.1)
  subst hnews
  cases B with
  | none => exact ⟨A, c, w, lK base t ty e i ht hi _ n xs sz hown c', by simpa using hown, World.grownBy.refl _ _, .inl rfl⟩
  | some ad => exact fin ad rfl (fun j u hu => by simp at hu)
 ·obtain ⟨ad, hB, hr⟩ := hsl.2 h0
  exact fin ad hB hr
theorem pO {A : Option Addr} {n c : Nat} {l : List UInt8} (h : Sl w A n 1 (je l)) : (Conv.bytesToString (.slice A n c)).run P w = .ok (.string ⟨l.toArray⟩) w := by
 have hn : l.length = n := by have := h.1; rw [gH] at this; omega
 cases A with
 | none =>
  have h0 : n = 0 := by
   rcases Nat.eq_zero_or_pos n with h0 | h0
   ·exact h0
   ·obtain ⟨ad, h1, _⟩ := h.2 h0; cases h1
  have : l = [] := List.eq_nil_of_length_eq_zero (by omega)
  subst this
  simp [Conv.bytesToString, ByteArray.empty, ByteArray.emptyWithCapacity]
  rfl
 | some a =>
  have hr : Rd w a (je l) := by
   rcases Nat.eq_zero_or_pos n with h0 | h0
   ·have : l = [] := List.eq_nil_of_length_eq_zero (by omega)
    subst this
    intro j u hu; simp [je] at hu
   ·obtain ⟨ad, h1, h2⟩ := h.2 h0
    injection h1 with h1; subst h1; exact h2
  have e1 : je l = (l.map fun c : UInt8 => (c.toNat : Int)).map (Value.int .u8) := by simp [je]
  have hld := run_loadCells_list (P := P) w a (je l) hr
  rw [gH, hn, e1] at hld
  rw [run_bytesToString w a n c _ hld]
  congr 2
  have : ∀ (l : List UInt8) (s : ByteArray), (l.map fun c : UInt8 => (c.toNat : Int)).foldl (fun r n => r.push (UInt8.ofNat n.toNat)) s = ⟨s.data ++ l.toArray⟩ := by
   intro l
   induction l with
   | nil => intro s; simp
   | cons c l ih =>
    intro s
    simp only [List.map_cons, List.foldl_cons]
    rw [ih]
    have : (s.push (UInt8.ofNat ((c.toNat : Int)).toNat)).data = s.data.push c := by simp [ByteArray.push]
    rw [this]
    congr 1
    apply Array.ext'
    simp
  rw [this]
  congr 1
  apply Array.ext'
  simp [ByteArray.empty, ByteArray.emptyWithCapacity]
  rfl
end
section
variable {P : Program} {N : Nat} {ops : Array Oper} {Q : Kq} {ρ : Rf} {w w0 : World} {rest : List Oper} {H : List HE} {d : Nat} {ty : TypeId} {pos : String} {af : Array Edge}
theorem bF (hh : Hp w0 H w) {t e : TypeId} {s x : Operand} {i n c m c' sz by' : Nat} {ag : Bool} {A B : Option Addr} {zc xs news : List Value} (hi : H[i]? = some (.row A n c e sz xs)) (hs : ev ρ s = .slice A n c) (hx : ev ρ x = .slice B m c')
  (hsl : Sl w B m sz news) (ht : P.underlying t = some (.slice e)) (hte : db P e = some (sz, ag, by', zc)) (hzl : zc.length = sz) (hsz : 0 < sz) (h1 : (news.all Value.oneCell') = true)
  (h63 : n + m ≤ 9223372036854775807) (hbytes : (n + m) * by' ≤ 140737488355328) (hN : d < N)
  (k : ∀ A' c2 w', Hp w0 (H.set i (.row A' (n + m) c2 e sz (xs ++ news))) w' → WL ro P N ops Q rest (cL ρ d (.slice A' (n + m) c2)) w') :
  WL ro P N ops Q (⟨some d, .call ⟨.builtin .append, #[s, x], #[t, t]⟩, ty, pos, af, none⟩ :: rest) ρ w := by
 obtain ⟨A', c2, w', hr, hown, hg, hid⟩ := kQ (P := P) w0.heap.size t ty e sz by' ag zc ht hte hzl hsz A n c xs (hh.at_ hi) B m c' news hsl (by simpa using h1) (by unfold maxLen; omega) hbytes hh.size
 refine a8 rfl rfl hN (w' := w') (v := .slice A' (n + m) c2) ?_ (k A' c2 w' (hh.grown hi hg hid hown))
 simp only [execOp, resolve, invoke, builtin, Sem.run_bind, Sem.run_pure, Result.andThen_ok, List.map_toArray, List.map_cons, List.map_nil, hs, hx, hr]
theorem gO (hh : Hp w0 H w) {t e : TypeId} {l cp : Operand} {kl kc : IntKind} {L C : Int} {n sz by' : Nat} {ag : Bool} {zc : List Value} (hl : ev ρ l = .int kl L) (hc : ev ρ cp = .int kc C) (hL : L = (n : Int)) (hC : C = (n : Int))
  (ht : P.underlying t = some (.slice e)) (hte : db P e = some (sz, ag, by', zc)) (hzl : zc.length = sz) (hb : by' * n ≤ 281474976710656) (h63 : n ≤ 9223372036854775807) (hN : d < N)
  (k : ∀ b w', Hp w0 (.row (some ⟨b, 0, none⟩) n n e sz (fe n zc) :: H) w' → WL ro P N ops Q rest (cL ρ d (.slice (some ⟨b, 0, none⟩) n n)) w') :
  WL ro P N ops Q (⟨some d, .makeSlice t l cp, ty, pos, af, none⟩ :: rest) ρ w := by
 obtain ⟨i, z, dd, hi, hd, hz, hs, hby, hzc, _⟩ := ew hte
 subst hL; subst hC
 obtain ⟨w', hr, hown, hg⟩ := run_make_full (P := P) w w.heap.size t e i z sz ht hi hz hs kl kc n (by rw [hby]; exact hb) (by unfold maxLen; omega) (Nat.le_refl _)
 have hzz : (madeCells z.cells (n * sz)).toList = fe n zc := by
  have := iE n zc
  rw [hzl] at this
  unfold madeCells
  rw [hzc]
  have e2 : zc.toArray.size = sz := by simpa using hzl
  rw [e2, this]
 rw [hzz] at hown
 refine a8 rfl rfl hN (w' := w') (v := .slice (some ⟨w.heap.size, 0, none⟩) n n) ?_ (k _ w' (hh.bk ⟨hg.os, hg.tape, hg.output, hg.size, fun j hj => hg.block j hj (by simp)⟩ hown))
 simp [execOp, hl, hc, hr]
theorem iH (hh : Hp w0 H w) {t e : TypeId} {sz by' : Nat} {ag : Bool} {zc : List Value} (ht : P.underlying t = some (.slice e)) (hte : db P e = some (sz, ag, by', zc)) (hN : d < N)
  (k : ∀ b w', Hp w0 (.row (some ⟨b, 0, none⟩) 0 0 e sz [] :: H) w' → WL ro P N ops Q rest (cL ρ d (.slice (some ⟨b, 0, none⟩) 0 0)) w') : WL ro P N ops Q (⟨some d, .buildSlice t 0 #[], ty, pos, af, none⟩ :: rest) ρ w := by
 refine a8 rfl rfl hN (w' := w.alloc (.cells #[] e)) (v := .slice (some ⟨w.heap.size, 0, none⟩) 0 0) ?_ (k _ _ (hh.rQ e sz 0 [] (by simp) (by unfold maxLen; omega)))
 have e0 : Array.range 0 = #[] := rfl
 simp [execOp, Instr.buildSlice, run_underlying ht, dQ hte, Instr.fill, newRow, e0]
theorem iX {dd : Option Nat} {g : Option (Nat × Bool)} {s t e : TypeId} {x : Operand} {A : Option Addr} {n c : Nat} {l : List UInt8} (hs : P.underlying s = some (.slice e)) (he : P.underlying e = some (.int .u8)) (ht : P.underlying t = some .string)
  (hx : ev ρ x = .slice A n c) (h : Sl w A n 1 (je l)) : (execOp (ev ρ) ⟨dd, .convert s t x, ty, pos, af, g⟩).run P w = .ok (.value (.string ⟨l.toArray⟩)) w := by
 simp [execOp, hx, run_convert_bytes_string w s t e A n c hs he ht, pO h]
theorem rW (hh : Hp w0 H w) {s t e : TypeId} {x : Operand} {b : ByteArray} (hs : P.underlying s = some .string) (ht : P.underlying t = some (.slice e)) (he : P.underlying e = some (.int .u8)) (hx : ev ρ x = .string b) (hN : d < N)
  (k : ∀ g c ex w', Hp w0 (.blk g e (je b.data.toList ++ ex) ((je b.data.toList ++ ex).length, (je b.data.toList ++ ex).length + 1) :: H) w' → WL ro P N ops Q rest (cL ρ d (.slice (some ⟨g, 0, none⟩) b.size c)) w') :
  WL ro P N ops Q (⟨some d, .convert s t x, ty, pos, af, none⟩ :: rest) ρ w := by
 let c := grownCap w b.size 0 e
 let ex : List Value := List.replicate (c - b.size) (.int .u8 0)
 let cells : List Value := je b.data.toList ++ ex
 let w1 := w.drew.alloc (.cells cells.toArray e)
 let w' := w1.freeze ⟨w.heap.size, cells.length, none⟩ 1
 have hw1 : w1.heap[w.heap.size]? = some (.cells cells.toArray e (0, 0)) := heap_alloc_new w.drew _
 have hheap : w'.heap[w.heap.size]? = some (.cells cells.toArray e (cells.length, cells.length + 1)) := by
  show (w1.heap.modify w.heap.size _)[w.heap.size]? = _
  rw [Array.getElem?_modify, if_pos rfl, hw1]
  simp
 have hbl : Below w.heap.size w w' := by
  refine ⟨rfl, rfl, rfl, ?_, fun j hj => ?_⟩
  ·show w.heap.size ≤ (w1.heap.modify w.heap.size _).size
   rw [Array.size_modify]
   show w.heap.size ≤ w1.heap.size
   simp [w1]
  ·show (w1.heap.modify w.heap.size _)[j]? = _
   rw [Array.getElem?_modify, if_neg (by omega)]
   exact Below.heap_alloc w.drew _ j hj
 refine a8 rfl rfl hN (w' := w') (v := .slice (some ⟨w.heap.size, 0, none⟩) b.size c) ?_ (k w.heap.size c ex w' (hh.bk hbl ⟨Nat.le_refl _, hheap, .inl (Nat.le_refl _)⟩))
 have harr : (b.data.map fun b => Value.int .u8 b.toNat) ++ Array.replicate (c - b.size) (Value.int .u8 0) = cells.toArray := by
  apply Array.ext'
  simp [cells, ex, je]
 have hsh : w1.shape? w.heap.size = some (e, cells.length) := by simp [World.shape?, hw1]
 have hch : (choose (.appendCap b.size 0 e)).run P w = .ok c w.drew := by simp [choose, Sem.run, Question.forced, grownCap, c]
 have hnr : (newRow e cells.toArray).run P w.drew = .ok ⟨w.heap.size, 0, none⟩ w1 := by simp [newRow, w1]
 have hms : (markStringish ⟨w.heap.size, 0, none⟩).run P w1 = .ok () w' := by simp [markStringish, shape, Sem.run, hsh, freeze, w']
 simp only [execOp, hx, convert, Sem.run_bind, run_underlying hs, run_underlying ht, run_underlying he, Result.andThen_ok, Conv.stringToBytes]
 rw [hch, Result.andThen_ok, harr, hnr, Result.andThen_ok, hms, Result.andThen_ok, Sem.run_pure, Result.andThen_ok, Sem.run_pure]
theorem lZ (hh : Hp w0 H w) {t : TypeId} {x : Operand} {s : ByteArray} (ht : P.underlying t = some .string) (hx : ev ρ x = .string s) (hN : d < N)
  (k : ∀ b w', Hp w0 (.it b s 0 :: H) w' → WL ro P N ops Q rest (cL ρ d (.pointer (some ⟨b, 0, none⟩))) w') : WL ro P N ops Q (⟨some d, .range t x, ty, pos, af, none⟩ :: rest) ρ w := by
 refine a8 rfl rfl hN (w' := w.alloc (.stringIter s 0)) (v := .pointer (some ⟨w.heap.size, 0, none⟩)) (by simp [execOp, hx, Instr.range, run_underlying ht]) (k _ _ (hh.bk ((Below.refl _ _).alloc (Nat.le_refl _) _) ⟨Nat.le_refl _, heap_alloc_new w _⟩))
theorem lS (hh : Hp w0 H w) {x : Operand} {i b p : Nat} {s : ByteArray} (hi : H[i]? = some (.it b s p)) (hx : ev ρ x = .pointer (some ⟨b, 0, none⟩)) (hp : ¬ p < s.size) (hN : d < N)
  (k : WL ro P N ops Q rest (cL ρ d (.tuple #[.bool false])) w) : WL ro P N ops Q (⟨some d, .next x true, ty, pos, af, none⟩ :: rest) ρ w := by
 have h1 := (hh.at_ hi).2
 refine a8 rfl rfl hN (w' := w) (v := .tuple #[.bool false]) ?_ k
 simp [execOp, hx, Instr.next, getObj, Sem.run, h1, hp]
theorem mc (hh : Hp w0 H w) {x : Operand} {i b p : Nat} {s : ByteArray} {c : UInt8} (hi : H[i]? = some (.it b s p)) (hx : ev ρ x = .pointer (some ⟨b, 0, none⟩)) (hc : s.data.toList[p]? = some c) (h128 : c.toNat < 128) (hN : d < N)
  (k : ∀ w', Hp w0 (H.set i (.it b s (p + 1))) w' → WL ro P N ops Q rest (cL ρ d (.tuple #[.bool true, .int .i64 p, .int .i32 c.toNat])) w') : WL ro P N ops Q (⟨some d, .next x true, ty, pos, af, none⟩ :: rest) ρ w := by
 have h1 := (hh.at_ hi).2
 obtain ⟨hlt, hcc⟩ := List.getElem?_eq_some_iff.1 hc
 have hlt' : p < s.size := by simpa using hlt
 have hget : s.get! p = c := by
  have : s.get! p = s.data[p]! := rfl
  rw [this, getElem!_pos s.data p hlt']
  simpa using hcc
 have hdec : Utf8.decode s p = (c.toNat, 1) := by
  unfold Utf8.decode
  simp only [Nat.add_zero, hget]
  rw [if_pos h128]
 let w' : World := { w with heap := w.heap.setIfInBounds b (.stringIter s (p + 1)) }
 have hb := eQ (hh.at_ hi) (b := b) rfl
 have hg : w.grownBy w' (some b) := ⟨rfl, rfl, rfl, by simp [w'], fun k _ hne => by
  show (w.heap.setIfInBounds b _)[k]? = _
  rw [Array.getElem?_setIfInBounds_ne (fun e => hne (by rw [e]))]⟩
 refine a8 rfl rfl hN (w' := w') (v := .tuple #[.bool true, .int .i64 p, .int .i32 c.toNat]) ?_ (k w' (hh.grown hi hg (.inl rfl) ⟨hb.1, ?_⟩))
 ·simp [execOp, hx, Instr.next, getObj, setObj, Sem.run, h1, hlt', hdec, goInt, w']
 ·show (w.heap.setIfInBounds b _)[b]? = _
  simp [hb.2]
end
end Go.Proofs.YtaapkaefelhfcaaGreatDoor
namespace Go.Proofs.YtaapkaefelhfcaaGreatDoor
open Go.RowKit
class UK (k : IntKind) (b : outParam Nat) (M : outParam Nat) : Prop where
 bits : k.bits = b
 sgn : k.signed = false
 pow : 2 ^ b = M
instance : UK .u8 8 256 := ⟨rfl, rfl, rfl⟩
instance : UK .u16 16 65536 := ⟨rfl, rfl, rfl⟩
instance : UK .u32 32 4294967296 := ⟨rfl, rfl, rfl⟩
instance : UK .u64 64 18446744073709551616 := ⟨rfl, rfl, rfl⟩
theorem UK.wrap {k : IntKind} {b M : Nat} [h : UK k b M] (n : Nat) : k.wrap (n : Int) = ((n % M : Nat) : Int) := by
 unfold IntKind.wrap
 have hM : (2 : Int) ^ k.bits = (M : Int) := by rw [h.bits, ← h.pow]; simp
 simp only [h.sgn, hM, Bool.false_and]
 simp
theorem UK.me {k : IntKind} {b M : Nat} [UK k b M] {n : Nat} (hn : n < M) : k.wrap (n : Int) = (n : Int) := by rw [UK.wrap, Nat.mod_eq_of_lt hn]
theorem UK.wrap_add {k : IntKind} {b M : Nat} [h : UK k b M] (z : Int) : k.wrap (z + M) = k.wrap z := by
 unfold IntKind.wrap
 have hM : (2 : Int) ^ k.bits = (M : Int) := by rw [h.bits, ← h.pow]; simp
 simp [hM]
section
variable {P : Program} {ρ : Rf} {w : World} {d : Option Nat} {ty : TypeId} {pos : String} {af : Array Edge} {g : Option (Nat × Bool)}
section unats
variable {t u : TypeId} {x y : Operand} {k : IntKind} {q M : Nat} {a b : Nat}
theorem BQ [UK k q M] (hx : ev ρ x = .int k (a : Int)) (hy : ev ρ y = .int k (b : Int)) : (execOp (ev ρ) ⟨d, .binOp .add t x y u, ty, pos, af, g⟩).run P w = .ok (.value (.int k (((a + b) % M : Nat) : Int))) w := by
 rw [AU hx hy, ← Int.natCast_add, UK.wrap]
theorem BO [UK k q M] (hx : ev ρ x = .int k (a : Int)) (hy : ev ρ y = .int k (b : Int)) (hb : b ≤ M) : (execOp (ev ρ) ⟨d, .binOp .sub t x y u, ty, pos, af, g⟩).run P w = .ok (.value (.int k (((a + M - b) % M : Nat) : Int))) w := by
 rw [Ba hx hy, ← UK.wrap (k := k)]
 have h : ((a + M - b : Nat) : Int) = (a : Int) - b + M := by omega
 rw [h, UK.wrap_add]
theorem BC [UK k q M] (hx : ev ρ x = .int k (a : Int)) (hy : ev ρ y = .int k (b : Int)) : (execOp (ev ρ) ⟨d, .binOp .mul t x y u, ty, pos, af, g⟩).run P w = .ok (.value (.int k (((a * b) % M : Nat) : Int))) w := by
 rw [AN hx hy, ← Int.natCast_mul, UK.wrap]
theorem BE [UK k q M] (hx : ev ρ x = .int k (a : Int)) (hy : ev ρ y = .int k (b : Int)) (hb : 0 < b) (ha : a < M) : (execOp (ev ρ) ⟨d, .binOp .quo t x y u, ty, pos, af, g⟩).run P w = .ok (.value (.int k ((a / b : Nat) : Int))) w := by
 rw [AX hx hy (by omega), ← Int.ofNat_tdiv, UK.me (Nat.lt_of_le_of_lt (Nat.div_le_self _ _) ha)]
theorem Bv (hx : ev ρ x = .int k (a : Int)) (hy : ev ρ y = .int k (b : Int)) (hb : 0 < b) : (execOp (ev ρ) ⟨d, .binOp .rem t x y u, ty, pos, af, g⟩).run P w = .ok (.value (.int k ((a % b : Nat) : Int))) w := by
 rw [A5 hx hy (by omega), ← Int.ofNat_tmod]
theorem kA (n : Nat) (a : Nat) : BitVec.ofInt n (a : Int) = BitVec.ofNat n a := by simp
theorem Cj [h : UK k q M] (hx : ev ρ x = .int k (a : Int)) (hy : ev ρ y = .int k (b : Int)) (ha : a < M) (hb : b < M) : (execOp (ev ρ) ⟨d, .binOp .or t x y u, ty, pos, af, g⟩).run P w = .ok (.value (.int k ((a ||| b : Nat) : Int))) w := by
 rw [CJ hx hy, kA, kA, BitVec.toNat_or, BitVec.toNat_ofNat, BitVec.toNat_ofNat, h.bits, h.pow, Nat.mod_eq_of_lt ha, Nat.mod_eq_of_lt hb, UK.me]
 rw [← h.pow] at ha hb ⊢
 exact Nat.or_lt_two_pow ha hb
theorem BM [h : UK k q M] (hx : ev ρ x = .int k (a : Int)) (hy : ev ρ y = .int k (b : Int)) (ha : a < M) (hb : b < M) : (execOp (ev ρ) ⟨d, .binOp .and t x y u, ty, pos, af, g⟩).run P w = .ok (.value (.int k ((a &&& b : Nat) : Int))) w := by
 rw [BW hx hy, kA, kA, BitVec.toNat_and, BitVec.toNat_ofNat, BitVec.toNat_ofNat, h.bits, h.pow, Nat.mod_eq_of_lt ha, Nat.mod_eq_of_lt hb, UK.me]
 exact Nat.lt_of_le_of_lt Nat.and_le_left ha
theorem rH [h : UK k q M] {k' : IntKind} {s : Int} (hx : ev ρ x = .int k (a : Int)) (hy : ev ρ y = .int k' s) (hs : 0 ≤ s ∧ s ≤ q) : (execOp (ev ρ) ⟨d, .binOp .shl t x y u, ty, pos, af, g⟩).run P w = .ok (.value (.int k (((a * 2 ^ s.toNat) % M : Nat) : Int))) w := by
 have e : (a : Int) * 2 ^ (min s.toNat k.bits) = ((a * 2 ^ s.toNat : Nat) : Int) := by
  rw [h.bits, Nat.min_eq_left (by omega), Int.natCast_mul, Int.natCast_pow]; rfl
 rw [BT hx hy hs.1, e, UK.wrap]
theorem ve [h : UK k q M] {k' : IntKind} {s : Int} (hx : ev ρ x = .int k (a : Int)) (hy : ev ρ y = .int k' s) (hs : 0 ≤ s ∧ s ≤ q) : (execOp (ev ρ) ⟨d, .binOp .shr t x y u, ty, pos, af, g⟩).run P w = .ok (.value (.int k ((a / 2 ^ s.toNat : Nat) : Int))) w := by
 rw [Cg hx hy hs.1, h.bits, Nat.min_eq_left (by omega), Int.fdiv_eq_ediv_of_nonneg _ (Int.le_of_lt (Int.pow_pos (by omega)))]
 simp
theorem zk [UK k q M] {k' : IntKind} {s m : Nat} (hx : ev ρ x = .int k (a : Int)) (hy : ev ρ y = .int k' (s : Int)) (hs : s ≤ q) (hm : 2 ^ s = m) : (execOp (ev ρ) ⟨d, .binOp .shr t x y u, ty, pos, af, g⟩).run P w = .ok (.value (.int k ((a / m : Nat) : Int))) w := by
 rw [ve hx hy (by omega), ← hm]; rfl
theorem BK [h : UK k q M] (hx : ev ρ x = .int k (a : Int)) (ha : a ≤ M) : (execOp (ev ρ) ⟨d, .unOp .neg t x, ty, pos, af, g⟩).run P w = .ok (.value (.int k (((M - a) % M : Nat) : Int))) w := by
 rw [AJ hx, ← UK.wrap (k := k)]
 have e : ((M - a : Nat) : Int) = -(a : Int) + M := by omega
 rw [e, UK.wrap_add]
theorem vU [UK k q M] {s t : TypeId} {k' : IntKind} {sd : TypeDesc} (hs : P.underlying s = some sd) (ht : P.underlying t = some (.int k)) (hx : ev ρ x = .int k' (a : Int)) :
  (execOp (ev ρ) ⟨d, .convert s t x, ty, pos, af, g⟩).run P w = .ok (.value (.int k ((a % M : Nat) : Int))) w := by
 rw [jI hs ht hx, UK.wrap]
theorem oD [UK k q M] {s t : TypeId} {k' : IntKind} {sd : TypeDesc} (hs : P.underlying s = some sd) (ht : P.underlying t = some (.int k)) (hx : ev ρ x = .int k' (a : Int)) (ha : a < M) :
  (execOp (ev ρ) ⟨d, .convert s t x, ty, pos, af, g⟩).run P w = .ok (.value (.int k (a : Int))) w := by
 rw [jI hs ht hx, UK.me ha]
end unats
section ints
variable {t u : TypeId} {x y : Operand} {k : IntKind} {a b : Int}
theorem wC (hx : ev ρ x = .int k a) (hy : ev ρ y = .int k b) : (execOp (ev ρ) ⟨d, .binOp .lss t x y u, ty, pos, af, g⟩).run P w = .ok (.value (.bool (decide (a < b)))) w := by
 by_cases h : a < b
 ·rw [Ar hx hy h, decide_eq_true h]
 ·rw [zI hx hy h, decide_eq_false h]
theorem Am (hx : ev ρ x = .int k a) (hy : ev ρ y = .int k b) : (execOp (ev ρ) ⟨d, .binOp .leq t x y u, ty, pos, af, g⟩).run P w = .ok (.value (.bool (decide (a ≤ b)))) w := by
 by_cases h : a ≤ b
 ·rw [z4 hx hy h, decide_eq_true h]
 ·rw [At hx hy h, decide_eq_false h]
theorem we (hx : ev ρ x = .int k a) (hy : ev ρ y = .int k b) : (execOp (ev ρ) ⟨d, .binOp .gtr t x y u, ty, pos, af, g⟩).run P w = .ok (.value (.bool (decide (b < a)))) w := by
 by_cases h : b < a
 ·rw [zQ hx hy h, decide_eq_true h]
 ·rw [Aj hx hy h, decide_eq_false h]
theorem zK (hx : ev ρ x = .int k a) (hy : ev ρ y = .int k b) : (execOp (ev ρ) ⟨d, .binOp .geq t x y u, ty, pos, af, g⟩).run P w = .ok (.value (.bool (decide (b ≤ a)))) w := by
 by_cases h : b ≤ a
 ·rw [Af hx hy h, decide_eq_true h]
 ·rw [As hx hy h, decide_eq_false h]
theorem Ae (hx : ev ρ x = .int k a) (hy : ev ρ y = .int k b) : (execOp (ev ρ) ⟨d, .binOp .neq t x y u, ty, pos, af, g⟩).run P w = .ok (.value (.bool (decide (a ≠ b)))) w := by
 by_cases h : a = b
 ·rw [zR hx hy h, decide_eq_false (by simpa using h)]
 ·rw [zY hx hy h, decide_eq_true h]
end ints
section bools
variable {t u : TypeId} {x y : Operand} {a b : Bool}
theorem An (ht : P.underlying t = some .bool) (hx : ev ρ x = .bool a) (hy : ev ρ y = .bool b) (h : a = b) : (execOp (ev ρ) ⟨d, .binOp .eql t x y u, ty, pos, af, g⟩).run P w = .ok (.value (.bool true)) w := by
 rw [oV ht hx hy, h, beq_self_eq_true]
theorem Az (ht : P.underlying t = some .bool) (hx : ev ρ x = .bool a) (hy : ev ρ y = .bool b) (h : ¬ a = b) : (execOp (ev ρ) ⟨d, .binOp .eql t x y u, ty, pos, af, g⟩).run P w = .ok (.value (.bool false)) w := by
 rw [oV ht hx hy, beq_false_of_ne h]
theorem rz (ht : P.underlying t = some .bool) (hx : ev ρ x = .bool a) (hy : ev ρ y = .bool b) (h : ¬ a = b) : (execOp (ev ρ) ⟨d, .binOp .neq t x y u, ty, pos, af, g⟩).run P w = .ok (.value (.bool true)) w := by
 rw [jx ht hx hy, bne, beq_false_of_ne h]; rfl
theorem rn (ht : P.underlying t = some .bool) (hx : ev ρ x = .bool a) (hy : ev ρ y = .bool b) (h : a = b) : (execOp (ev ρ) ⟨d, .binOp .neq t x y u, ty, pos, af, g⟩).run P w = .ok (.value (.bool false)) w := by
 rw [jx ht hx hy, bne, h, beq_self_eq_true]; rfl
end bools
theorem eg {t e : TypeId} {x i : Operand} {ad : Addr} {n c sz k : Nat} {kk : IntKind} {m : Int} (ht : P.underlying t = some (.slice e)) (hsz : (P.info? e).map (·.size) = some sz) (hx : ev ρ x = .slice (some ad) n c) (hi : ev ρ i = .int kk m)
  (hm : m = (k : Int)) (h1 : k < n) : (execOp (ev ρ) ⟨d, .indexAddr t x i, ty, pos, af, g⟩).run P w = .ok (.value (.pointer (some (ad.add (k * sz))))) w := by
 rw [eI ht hsz hx hi (by omega) (by omega), hm]; rfl
theorem uL {t e : TypeId} {x i : Operand} {b o n c sz k : Nat} {kk : IntKind} {m : Int} (ht : P.underlying t = some (.slice e)) (hsz : (P.info? e).map (·.size) = some sz) (hx : ev ρ x = .slice (some ⟨b, o, none⟩) n c) (hi : ev ρ i = .int kk m)
  (hm : m = (k : Int)) (h1 : k < n) : (execOp (ev ρ) ⟨d, .indexAddr t x i, ty, pos, af, g⟩).run P w = .ok (.value (.pointer (some ⟨b, o + k * sz, none⟩))) w := by
 rw [eI ht hsz hx hi (by omega) (by omega), hm, eP]; rfl
theorem um {t e : TypeId} {x i : Operand} {ad : Addr} {n sz k : Nat} {kk : IntKind} {m : Int} (ht : P.underlying t = some (.array n e)) (hsz : (P.info? e).map (·.size) = some sz) (hx : ev ρ x = .pointer (some ad)) (hi : ev ρ i = .int kk m)
  (hm : m = (k : Int)) (h1 : k < n) : (execOp (ev ρ) ⟨d, .indexAddr t x i, ty, pos, af, g⟩).run P w = .ok (.value (.pointer (some (ad.add (k * sz))))) w := by
 obtain ⟨i, hi1, hi2⟩ := Option.map_eq_some_iff.1 hsz
 have h2 : (k : Int) < n := by omega
 subst hm
 simp [execOp, hx, hi, Instr.indexAt, asIntOf, run_underlying ht, sizeOf, typeInfo, hi1, hi2, Instr.sureAddr, h1]
theorem sg {t e : TypeId} {x hi : Operand} {A : Option Addr} {n c h sz : Nat} {k : IntKind} {m : Int} (ht : P.underlying t = some (.slice e)) (hsz : (P.info? e).map (·.size) = some sz) (hx : ev ρ x = .slice A n c) (hhi : ev ρ hi = .int k m)
  (hm : m = (h : Int)) (h2 : h ≤ c) : (execOp (ev ρ) ⟨d, .slice t x none (some hi) none, ty, pos, af, g⟩).run P w = .ok (.value (.slice A h c)) w := by
 rw [gG (lo := none) (hi := some hi) (l := 0) (h := h) ht hsz hx rfl ⟨k, m, hhi, hm⟩ (Nat.zero_le _) h2]
 congr 3
 cases A with
 | none => simp
 | some ad => simp [Addr.add]
theorem uT {t e : TypeId} {x lo : Operand} {b o n c l sz : Nat} {k : IntKind} {m : Int} (ht : P.underlying t = some (.slice e)) (hsz : (P.info? e).map (·.size) = some sz) (hx : ev ρ x = .slice (some ⟨b, o, none⟩) n c) (hlo : ev ρ lo = .int k m)
  (hm : m = (l : Int)) (h1 : l ≤ n) (h2 : n ≤ c) (h3 : l < c) : (execOp (ev ρ) ⟨d, .slice t x (some lo) none none, ty, pos, af, g⟩).run P w = .ok (.value (.slice (some ⟨b, o + l * sz, none⟩) (n - l) (c - l))) w := by
 rw [gG (lo := some lo) (hi := none) (l := l) (h := n) ht hsz hx ⟨k, m, hlo, hm⟩ rfl h1 h2, if_neg (by omega)]
 simp only [Option.map_some, eP]
theorem sR {t e : TypeId} {x lo : Operand} {ad : Addr} {n c l sz : Nat} {k : IntKind} {m : Int} (ht : P.underlying t = some (.slice e)) (hsz : (P.info? e).map (·.size) = some sz) (hx : ev ρ x = .slice (some ad) n c) (hlo : ev ρ lo = .int k m)
  (hm : m = (l : Int)) (h1 : l ≤ n) (h2 : n ≤ c) (h3 : l < c) : (execOp (ev ρ) ⟨d, .slice t x (some lo) none none, ty, pos, af, g⟩).run P w = .ok (.value (.slice (some (ad.add (l * sz))) (n - l) (c - l))) w := by
 rw [gG (lo := some lo) (hi := none) (l := l) (h := n) ht hsz hx ⟨k, m, hlo, hm⟩ rfl h1 h2, if_neg (by omega)]
 rfl
end
theorem Rd.nJ {w : World} {ad : Addr} {xs : List Value} {k : Nat} {v : Value} (h : Rd w ad xs) (hx : xs[k]? = some v) : w.cell? (ad.add (k * 1)) = some v := by
 rw [Nat.mul_one]; exact h k v hx
def cW (l : List Nat) : List Value := l.map fun (d : Nat) => .int .u64 (d : Int)
theorem a5 (l : List Nat) : (cW l).length = l.length := by simp [cW]
theorem ea {l : List Nat} {k d : Nat} (h : l[k]? = some d) : (cW l)[k]? = some (.int .u64 (d : Int)) := by simp [cW, h]
theorem fg (l : List Nat) (k d : Nat) : (cW l).set k (.int .u64 (d : Int)) = cW (l.set k d) := by simp [cW, List.map_set]
theorem tS (a b : List Nat) : cW (a ++ b) = cW a ++ cW b := by simp [cW]
theorem qd (a : List Nat) (k : Nat) : cW (a.take k) = (cW a).take k := by simp [cW, List.map_take]
theorem qa (a : List Nat) (k : Nat) : cW (a.drop k) = (cW a).drop k := by simp [cW, List.map_drop]
theorem bI (l : List Nat) : ((cW l).all Value.oneCell') = true := by simp [cW, Value.oneCell']
theorem l7 (n : Nat) : fe n [Value.int .u64 0] = cW (List.replicate n 0) := by rw [nP]; simp [cW]
def fy (l : List Nat) : List Value := l.map fun (d : Nat) => .int .u8 (d : Int)
theorem cH (l : List Nat) : (fy l).length = l.length := by simp [fy]
theorem k7 {l : List Nat} {k d : Nat} (h : l[k]? = some d) : (fy l)[k]? = some (.int .u8 (d : Int)) := by simp [fy, h]
theorem ky (l : List Nat) (k d : Nat) : (fy l).set k (.int .u8 (d : Int)) = fy (l.set k d) := by simp [fy, List.map_set]
theorem pz (a b : List Nat) : fy (a ++ b) = fy a ++ fy b := by simp [fy]
theorem td (a : List Nat) (k : Nat) : fy (a.take k) = (fy a).take k := by simp [fy, List.map_take]
theorem bU (l : List Nat) : ((fy l).all Value.oneCell') = true := by simp [fy, Value.oneCell']
theorem lE (n : Nat) : fe n [Value.int .u8 0] = fy (List.replicate n 0) := by rw [nP]; simp [fy]
theorem pW {l : List Nat} (h : ∀ d ∈ l, d < 256) : fy l = je (l.map UInt8.ofNat) := by
 rw [fy, je, List.map_map]
 apply List.map_congr_left
 intro d hd
 have := h d hd
 simp only [Function.comp, UInt8.toNat_ofNat']
 congr 2
 omega
theorem Sl.Bs {w : World} {ad : Addr} {n : Nat} {ys : List Nat} {k d : Nat} (h : Sl w (some ad) n 1 (cW ys)) (hd : ys[k]? = some d) : w.cell? (ad.add (k * 1)) = some (.int .u64 (d : Int)) := by
 have hl := h.1
 have hk := (List.getElem?_eq_some_iff.1 hd).1
 rw [a5] at hl
 obtain ⟨ad', he, hr⟩ := h.2 (by omega)
 injection he with he
 subst he
 exact hr.nJ (ea hd)
theorem rZ {pre done r post : List Nat} {x : Nat} : (pre ++ (done ++ x :: r) ++ post)[pre.length + done.length]? = some x := by
 rw [List.append_assoc, List.getElem?_append_right (by omega), List.append_assoc, List.getElem?_append_right (by omega)]
 simp
theorem kE {pre done r post : List Nat} {x y : Nat} : (pre ++ (done ++ x :: r) ++ post).set (pre.length + done.length) y = pre ++ ((done ++ [y]) ++ r) ++ post := by
 rw [List.append_assoc, List.set_append_right _ _ (by omega), List.append_assoc, List.set_append_right _ _ (by omega)]
 simp
theorem cz {cs : List Value} {o : Nat} {v : Value} (h : o < cs.length) : cB cs o [v] = cs.set o v := by
 unfold cB
 rw [List.set_eq_take_append_cons_drop, if_pos h]
 simp
theorem Hp.front {w0 w : World} {H : List HE} {x : HE} (h : Hp w0 H w) (i : Nat) (hi : H[i]? = some x) : Hp w0 (x :: H.eraseIdx i) w := by
 have hp : H.Perm (x :: H.eraseIdx i) := by
  clear h
  induction H generalizing i with
  | nil => simp at hi
  | cons y H ih =>
   cases i with
   | zero => simp at hi; subst hi; simp
   | succ i =>
    simp only [List.getElem?_cons_succ] at hi
    simp only [List.eraseIdx_cons_succ]
    exact ((ih i hi).cons y).trans (List.Perm.swap x y _)
 exact ⟨h.below, fun y hy => h.own y (hp.mem_iff.2 hy), (hp.filterMap _).nodup_iff.1 h.nd⟩
theorem Hp.ua {w0 w : World} {H : List HE} {A : Option Addr} {n c : Nat} {t : TypeId} {sz : Nat} {xs : List Value} (h : Hp w0 (.row A n c t sz xs :: H) w) {k : Nat} (hk : k ≤ n) : Hp w0 (.row A k c t sz (xs.take (k * sz)) :: H) w := by
 refine ⟨h.below, fun y hy => ?_, h.nd⟩
 rcases List.mem_cons.1 hy with rfl | hy
 ·have h1 : w.ownsRow w0.heap.size t sz (.slice A n c) n xs := h.own _ List.mem_cons_self
  obtain ⟨h2, h3⟩ := h1
  have hkn : k * sz ≤ n * sz := Nat.mul_le_mul_right _ hk
  refine ⟨by rw [List.length_take]; omega, ?_⟩
  rcases h3 with ⟨h3, h4⟩ | ⟨g, cap, cur, hv, hb, hg, h4, h5, h6, h7⟩
  ·injection h3 with h5 h6 h7
   subst h5 h6 h7
   exact .inl ⟨by rw [show k = 0 by omega], by omega⟩
  ·injection hv with h8 h9 h10
   subst h8
   refine .inr ⟨g, cap, cur, by rw [h10], hb, hg, by omega, h5, h6, ?_⟩
   rw [← h7, List.take_take, Nat.min_eq_left hkn]
 ·exact h.own y (List.mem_cons_of_mem _ hy)
theorem Hp.dv {w0 w : World} {H : List HE} {A : Option Addr} {n c : Nat} {t : TypeId} {sz : Nat} {xs : List Value} {i : Nat} (h : Hp w0 H w) (hi : H[i]? = some (.row A n c t sz xs)) : n ≤ c := by
 have h1 : w.ownsRow w0.heap.size t sz (.slice A n c) n xs := h.at_ hi
 rcases h1.2 with ⟨h3, h4⟩ | ⟨g, cap, cur, hv, hb, hg, h4, h5, h6, h7⟩
 ·omega
 ·injection hv with h8 h9 h10
  omega
end Go.Proofs.YtaapkaefelhfcaaGreatDoor
namespace Go.Proofs.YtaapkaefelhfcaaGreatDoor
open Go.RowKit
variable {ro : Mode}
section
variable {P : Program} {N : Nat} {ops : Array Oper} {Q : Kq} {ρ : Rf} {w w0 : World} {rest : List Oper} {H : List HE} {d : Nat} {ty : TypeId} {pos : String} {af : Array Edge}
theorem fU {x : Operand} {v : Value} (hx : ev ρ x = v) (hN : d < N) (kk : WL ro P N ops Q rest (cL ρ d v) w) :
  WL ro P N ops Q (⟨some d, .move x, ty, pos, af, none⟩ :: rest) ρ w := a8 rfl rfl hN (dg hx) kk
theorem lF {x : Operand} {v : Value} (hx : ev ρ x = v) (hN : d < N) (kk : WL ro P N ops Q rest (cL ρ d v) w) :
  WL ro P N ops Q (⟨some d, .assign x, ty, pos, af, none⟩ :: rest) ρ w := a8 rfl rfl hN (sf hx) kk
theorem yH {c a b : Operand} {v : Value} (hc : ev ρ c = .bool true) (hx : ev ρ a = v) (hN : d < N) (kk : WL ro P N ops Q rest (cL ρ d v) w) :
  WL ro P N ops Q (⟨some d, .pick c a b, ty, pos, af, none⟩ :: rest) ρ w := a8 rfl rfl hN (sw hc hx) kk
theorem xU {c a b : Operand} {v : Value} (hc : ev ρ c = .bool false) (hx : ev ρ b = v) (hN : d < N) (kk : WL ro P N ops Q rest (cL ρ d v) w) :
  WL ro P N ops Q (⟨some d, .pick c a b, ty, pos, af, none⟩ :: rest) ρ w := a8 rfl rfl hN (so hc hx) kk
section
variable {t u : TypeId} {x y : Operand} {k : IntKind} {a b : Int}
theorem rb (hx : ev ρ x = .int k a) (hy : ev ρ y = .int k b) (hN : d < N) (kk : WL ro P N ops Q rest (cL ρ d (.bool (decide (a = b)))) w) :
  WL ro P N ops Q (⟨some d, .binOp .eql t x y u, ty, pos, af, none⟩ :: rest) ρ w := a8 rfl rfl hN (vR hx hy) kk
theorem Bk (hx : ev ρ x = .int .i64 a) (hy : ev ρ y = .int .i64 b) (h1 : -9223372036854775808 ≤ a + b) (h2 : a + b ≤ 9223372036854775807) (hN : d < N) (kk : WL ro P N ops Q rest (cL ρ d (.int .i64 (a + b))) w) :
  WL ro P N ops Q (⟨some d, .binOp .add t x y u, ty, pos, af, none⟩ :: rest) ρ w := a8 rfl rfl hN (yo hx hy h1 h2) kk
theorem Bt (hx : ev ρ x = .int .i64 a) (hy : ev ρ y = .int .i64 b) (h1 : -9223372036854775808 ≤ a - b) (h2 : a - b ≤ 9223372036854775807) (hN : d < N) (kk : WL ro P N ops Q rest (cL ρ d (.int .i64 (a - b))) w) :
  WL ro P N ops Q (⟨some d, .binOp .sub t x y u, ty, pos, af, none⟩ :: rest) ρ w := a8 rfl rfl hN (yh hx hy h1 h2) kk
theorem BF (hx : ev ρ x = .int .i64 a) (hy : ev ρ y = .int .i64 b) (h1 : -9223372036854775808 ≤ a * b) (h2 : a * b ≤ 9223372036854775807) (hN : d < N) (kk : WL ro P N ops Q rest (cL ρ d (.int .i64 (a * b))) w) :
  WL ro P N ops Q (⟨some d, .binOp .mul t x y u, ty, pos, af, none⟩ :: rest) ρ w := a8 rfl rfl hN (yq hx hy h1 h2) kk
theorem mX (hx : ev ρ x = .int .i64 a) (h1 : -9223372036854775808 ≤ -a) (h2 : -a ≤ 9223372036854775807) (hN : d < N) (kk : WL ro P N ops Q rest (cL ρ d (.int .i64 (-a))) w) :
  WL ro P N ops Q (⟨some d, .unOp .neg t x, ty, pos, af, none⟩ :: rest) ρ w := a8 rfl rfl hN (ph hx h1 h2) kk
theorem jd (hx : ev ρ x = .int .i64 a) (hy : ev ρ y = .int .i64 b) (ha : 0 ≤ a) (hb : 0 < b) (h2 : a ≤ 9223372036854775807) (hN : d < N) (kk : WL ro P N ops Q rest (cL ρ d (.int .i64 (a / b))) w) :
  WL ro P N ops Q (⟨some d, .binOp .quo t x y u, ty, pos, af, none⟩ :: rest) ρ w := a8 rfl rfl hN (qO hx hy ha hb h2) kk
theorem jY (hx : ev ρ x = .int .i64 a) (hy : ev ρ y = .int .i64 b) (ha : 0 ≤ a) (hb : 0 < b) (hN : d < N) (kk : WL ro P N ops Q rest (cL ρ d (.int .i64 (a % b))) w) :
  WL ro P N ops Q (⟨some d, .binOp .rem t x y u, ty, pos, af, none⟩ :: rest) ρ w := a8 rfl rfl hN (mQ hx hy ha hb) kk
end
theorem Ch {t : TypeId} {x : Operand} {b : Bool} (hx : ev ρ x = .bool b) (hN : d < N) (kk : WL ro P N ops Q rest (cL ρ d (.bool !b)) w) :
  WL ro P N ops Q (⟨some d, .unOp .not t x, ty, pos, af, none⟩ :: rest) ρ w := a8 rfl rfl hN (AQ hx) kk
section
variable {t u : TypeId} {x y : Operand} {a b : Bool}
end
section
variable {t u : TypeId} {x y : Operand} {a b : ByteArray}
theorem dD (hx : ev ρ x = .string a) (hy : ev ρ y = .string b) (h : a = b) (hN : d < N) (kk : WL ro P N ops Q rest (cL ρ d (.bool true)) w) :
  WL ro P N ops Q (⟨some d, .binOp .eql t x y u, ty, pos, af, none⟩ :: rest) ρ w := a8 rfl rfl hN (sj hx hy h) kk
theorem dy (hx : ev ρ x = .string a) (hy : ev ρ y = .string b) (h : ¬ a = b) (hN : d < N) (kk : WL ro P N ops Q rest (cL ρ d (.bool false)) w) :
  WL ro P N ops Q (⟨some d, .binOp .eql t x y u, ty, pos, af, none⟩ :: rest) ρ w := a8 rfl rfl hN (tR hx hy h) kk
theorem fV (hx : ev ρ x = .string a) (hy : ev ρ y = .string b) (h : ¬ a = b) (hN : d < N) (kk : WL ro P N ops Q rest (cL ρ d (.bool true)) w) :
  WL ro P N ops Q (⟨some d, .binOp .neq t x y u, ty, pos, af, none⟩ :: rest) ρ w := a8 rfl rfl hN (sK hx hy h) kk
theorem gf (hx : ev ρ x = .string a) (hy : ev ρ y = .string b) (h : a = b) (hN : d < N) (kk : WL ro P N ops Q rest (cL ρ d (.bool false)) w) :
  WL ro P N ops Q (⟨some d, .binOp .neq t x y u, ty, pos, af, none⟩ :: rest) ρ w := a8 rfl rfl hN (sy hx hy h) kk
theorem kK (hx : ev ρ x = .string a) (hy : ev ρ y = .string b) (hN : d < N) (kk : WL ro P N ops Q rest (cL ρ d (.bool (Op.bytesLess a.toList b.toList))) w) :
  WL ro P N ops Q (⟨some d, .binOp .lss t x y u, ty, pos, af, none⟩ :: rest) ρ w := a8 rfl rfl hN (wT hx hy) kk
theorem wG (hx : ev ρ x = .string a) (hy : ev ρ y = .string b) (hN : d < N) (kk : WL ro P N ops Q rest (cL ρ d (.bool !(Op.bytesLess a.toList b.toList || a.toList == b.toList))) w) :
  WL ro P N ops Q (⟨some d, .binOp .gtr t x y u, ty, pos, af, none⟩ :: rest) ρ w := a8 rfl rfl hN (xq hx hy) kk
theorem fq (hx : ev ρ x = .string a) (hy : ev ρ y = .string b) (hN : d < N) (kk : WL ro P N ops Q rest (cL ρ d (.bool !(Op.bytesLess a.toList b.toList))) w) :
  WL ro P N ops Q (⟨some d, .binOp .geq t x y u, ty, pos, af, none⟩ :: rest) ρ w := a8 rfl rfl hN (wI hx hy) kk
theorem B2 (hx : ev ρ x = .string a) (hy : ev ρ y = .string b) (h : a.size + b.size ≤ 9223372036854775807) (hN : d < N) (kk : WL ro P N ops Q rest (cL ρ d (.string (a ++ b))) w) :
  WL ro P N ops Q (⟨some d, .binOp .add t x y u, ty, pos, af, none⟩ :: rest) ρ w := a8 rfl rfl hN (AL hx hy h) kk
end
theorem ll {s t : TypeId} {x : Operand} {k k' : IntKind} {a : Int} {sd : TypeDesc} (hs : P.underlying s = some sd) (ht : P.underlying t = some (.int k)) (hx : ev ρ x = .int k' a) (hN : d < N) (kk : WL ro P N ops Q rest (cL ρ d (.int k (k.wrap a))) w) :
  WL ro P N ops Q (⟨some d, .convert s t x, ty, pos, af, none⟩ :: rest) ρ w := a8 rfl rfl hN (jI hs ht hx) kk
theorem cP {s t : TypeId} {x : Operand} {k' : IntKind} {a : Int} {sd : TypeDesc} (hs : P.underlying s = some sd) (ht : P.underlying t = some (.int .i64)) (hx : ev ρ x = .int k' a) (h1 : -9223372036854775808 ≤ a) (h2 : a ≤ 9223372036854775807) (hN : d < N) (kk : WL ro P N ops Q rest (cL ρ d (.int .i64 a)) w) :
  WL ro P N ops Q (⟨some d, .convert s t x, ty, pos, af, none⟩ :: rest) ρ w := a8 rfl rfl hN (iG hs ht hx h1 h2) kk
theorem xj {x : Operand} {i : Nat} {vs : List Value} {v : Value} (hx : ev ρ x = .tuple vs.toArray) (hv : vs[i]? = some v) (hN : d < N) (kk : WL ro P N ops Q rest (cL ρ d v) w) :
  WL ro P N ops Q (⟨some d, .extract x i, ty, pos, af, none⟩ :: rest) ρ w := a8 rfl rfl hN (cX hx hv) kk
theorem ff {fn : Fn} {first captured : Array Operand} {fs cs : List Value} (hf : pM ρ first.toList = fs) (hc : pM ρ captured.toList = cs) (hN : d < N) (kk : WL ro P N ops Q rest (cL ρ d (.func fn fs.toArray cs.toArray)) w) :
  WL ro P N ops Q (⟨some d, .makeFunc fn first captured, ty, pos, af, none⟩ :: rest) ρ w := a8 rfl rfl hN (u7 hf hc) kk
theorem bg {x : Operand} {t : TypeId} {s : ByteArray} (ht : P.underlying t = some .string) (hx : ev ρ x = .string s) (hN : d < N) (kk : WL ro P N ops Q rest (cL ρ d (.int .i64 s.size)) w) :
  WL ro P N ops Q (⟨some d, .call ⟨.builtin .len, #[x], #[t]⟩, ty, pos, af, none⟩ :: rest) ρ w := a8 rfl rfl hN (wP ht hx) kk
theorem y2 {x : Operand} {t e : TypeId} {A : Option Addr} {n c : Nat} (ht : P.underlying t = some (.slice e)) (hx : ev ρ x = .slice A n c) (hN : d < N) (kk : WL ro P N ops Q rest (cL ρ d (.int .i64 n)) w) :
  WL ro P N ops Q (⟨some d, .call ⟨.builtin .len, #[x], #[t]⟩, ty, pos, af, none⟩ :: rest) ρ w := a8 rfl rfl hN (tG ht hx) kk
theorem xS {x y : Operand} {ts : Array TypeId} {k : IntKind} {a b : Int} (hx : ev ρ x = .int k a) (hy : ev ρ y = .int k b) (hN : d < N) (kk : WL ro P N ops Q rest (cL ρ d (.int k (if b < a then b else a))) w) :
  WL ro P N ops Q (⟨some d, .call ⟨.builtin .min, #[x, y], ts⟩, ty, pos, af, none⟩ :: rest) ρ w := a8 rfl rfl hN (B5 hx hy) kk
theorem kq {x y : Operand} {ts : Array TypeId} {k : IntKind} {a b : Int} (hx : ev ρ x = .int k a) (hy : ev ρ y = .int k b) (hN : d < N) (kk : WL ro P N ops Q rest (cL ρ d (.int k (if b > a then b else a))) w) :
  WL ro P N ops Q (⟨some d, .call ⟨.builtin .max, #[x, y], ts⟩, ty, pos, af, none⟩ :: rest) ρ w := a8 rfl rfl hN (Cn hx hy) kk
theorem bo {t : TypeId} {x i : Operand} {s : ByteArray} {n : Int} {k : IntKind} {c : UInt8} (ht : P.underlying t = some .string) (hx : ev ρ x = .string s) (hi : ev ρ i = .int k n)
  (h0 : 0 ≤ n) (hc : s.data.toList[n.toNat]? = some c) (hN : d < N) (kk : WL ro P N ops Q rest (cL ρ d (.int .u8 c.toNat)) w) :
  WL ro P N ops Q (⟨some d, .index t x i, ty, pos, af, none⟩ :: rest) ρ w := a8 rfl rfl hN (gU ht hx hi h0 hc) kk
theorem nu {t : TypeId} {x : Operand} {lo hi : Option Operand} {s : ByteArray} {l h : Nat} (ht : P.underlying t = some .string) (hx : ev ρ x = .string s)
  (hlo : match lo with | none => l = 0 | some o => ∃ (k : IntKind) (n : Int), ev ρ o = .int k n ∧ n = l) (hhi : match hi with | none => h = s.size | some o => ∃ (k : IntKind) (n : Int), ev ρ o = .int k n ∧ n = h)
  (h1 : l ≤ h) (h2 : h ≤ s.size) (hN : d < N) (kk : WL ro P N ops Q rest (cL ρ d (.string (s.extract l h))) w) :
  WL ro P N ops Q (⟨some d, .slice t x lo hi none, ty, pos, af, none⟩ :: rest) ρ w := a8 rfl rfl hN (jX ht hx hlo hhi h1 h2) kk
theorem cJ {t e : TypeId} {x i : Operand} {ad : Addr} {n c sz : Nat} {k : IntKind} {m : Int} (ht : P.underlying t = some (.slice e)) (hsz : (P.info? e).map (·.size) = some sz) (hx : ev ρ x = .slice (some ad) n c) (hi : ev ρ i = .int k m)
  (h0 : 0 ≤ m) (h1 : m < n) (hN : d < N) (kk : WL ro P N ops Q rest (cL ρ d (.pointer (some (ad.add (m.toNat * sz))))) w) :
  WL ro P N ops Q (⟨some d, .indexAddr t x i, ty, pos, af, none⟩ :: rest) ρ w := a8 rfl rfl hN (eI ht hsz hx hi h0 h1) kk
theorem bp {t e : TypeId} {x i : Operand} {b n c sz k : Nat} {kk : IntKind} {m : Int} (ht : P.underlying t = some (.slice e)) (hsz : (P.info? e).map (·.size) = some sz) (hx : ev ρ x = .slice (some ⟨b, 0, none⟩) n c) (hi : ev ρ i = .int kk m)
  (hm : m = (k : Int)) (h1 : k < n) (hN : d < N) (kk : WL ro P N ops Q rest (cL ρ d (.pointer (some ⟨b, k * sz, none⟩))) w) :
  WL ro P N ops Q (⟨some d, .indexAddr t x i, ty, pos, af, none⟩ :: rest) ρ w := a8 rfl rfl hN (lf ht hsz hx hi hm h1) kk
theorem bQ {t : TypeId} {x : Operand} {ad : Addr} {n by' : Nat} {zc vs : List Value} (ht : db P t = some (n, true, by', zc)) (hx : ev ρ x = .pointer (some ad)) (hr : Rd w ad vs) (hl : vs.length = n) (hN : d < N) (kk : WL ro P N ops Q rest (cL ρ d (.agg vs.toArray)) w) :
  WL ro P N ops Q (⟨some d, .load t x, ty, pos, af, none⟩ :: rest) ρ w := a8 rfl rfl hN (k8 ht hx hr hl) kk
theorem bh {t : TypeId} {x : Operand} {ad : Addr} {n by' : Nat} {zc : List Value} {v : Value} (ht : db P t = some (n, false, by', zc)) (hx : ev ρ x = .pointer (some ad)) (hc : w.cell? ad = some v) (hN : d < N) (kk : WL ro P N ops Q rest (cL ρ d v) w) :
  WL ro P N ops Q (⟨some d, .load t x, ty, pos, af, none⟩ :: rest) ρ w := a8 rfl rfl hN (ic ht hx hc) kk
theorem tO {s : TypeId} {x : Operand} {f b o off : Nat} {ft : TypeId} (hf : iy P s f = some (off, ft)) (hx : ev ρ x = .pointer (some ⟨b, o, none⟩)) (hN : d < N) (kk : WL ro P N ops Q rest (cL ρ d (.pointer (some ⟨b, o + off, none⟩))) w) :
  WL ro P N ops Q (⟨some d, .fieldAddr s x f, ty, pos, af, none⟩ :: rest) ρ w := a8 rfl rfl hN (iL hf hx) kk
theorem bz {s : TypeId} {x : Operand} {f off : Nat} {ad : Addr} {ft : TypeId} (hf : iy P s f = some (off, ft)) (hx : ev ρ x = .pointer (some ad)) (hN : d < N) (kk : WL ro P N ops Q rest (cL ρ d (.pointer (some (ad.add off)))) w) :
  WL ro P N ops Q (⟨some d, .fieldAddr s x f, ty, pos, af, none⟩ :: rest) ρ w := a8 rfl rfl hN (lP hf hx) kk
theorem zw {t : TypeId} {n by' : Nat} {parts : Array (Nat × Operand)} {ps : List (Nat × Value)} {zc cs : List Value} {pl : List (Nat × Nat)} (hte : db P t = some (n, true, by', zc))
  (hpl : mq P t = some pl)
  (hp : pE ρ parts.toList = ps) (hf : iP (pl[·]?) zc ps = some cs) (hN : d < N) (kk : WL ro P N ops Q rest (cL ρ d (.agg cs.toArray)) w) :
  WL ro P N ops Q (⟨some d, .build t parts, ty, pos, af, none⟩ :: rest) ρ w := a8 rfl rfl hN (rT hte hpl hp hf) kk
theorem iY {s t e : TypeId} {x : Operand} {A : Option Addr} {n c : Nat} {l : List UInt8} (hs : P.underlying s = some (.slice e)) (he : P.underlying e = some (.int .u8)) (ht : P.underlying t = some .string)
  (hx : ev ρ x = .slice A n c) (h : Sl w A n 1 (je l)) (hN : d < N) (kk : WL ro P N ops Q rest (cL ρ d (.string ⟨l.toArray⟩)) w) :
  WL ro P N ops Q (⟨some d, .convert s t x, ty, pos, af, none⟩ :: rest) ρ w := a8 rfl rfl hN (iX hs he ht hx h) kk
section
variable {t u : TypeId} {x y : Operand} {k : IntKind} {q M : Nat} {a b : Nat}
theorem gm [UK k q M] (hx : ev ρ x = .int k (a : Int)) (hy : ev ρ y = .int k (b : Int)) (hN : d < N) (kk : WL ro P N ops Q rest (cL ρ d (.int k (((a + b) % M : Nat) : Int))) w) :
  WL ro P N ops Q (⟨some d, .binOp .add t x y u, ty, pos, af, none⟩ :: rest) ρ w := a8 rfl rfl hN (BQ hx hy) kk
theorem rA [UK k q M] (hx : ev ρ x = .int k (a : Int)) (hy : ev ρ y = .int k (b : Int)) (hb : b ≤ M) (hN : d < N) (kk : WL ro P N ops Q rest (cL ρ d (.int k (((a + M - b) % M : Nat) : Int))) w) :
  WL ro P N ops Q (⟨some d, .binOp .sub t x y u, ty, pos, af, none⟩ :: rest) ρ w := a8 rfl rfl hN (BO hx hy hb) kk
theorem mw [UK k q M] (hx : ev ρ x = .int k (a : Int)) (hy : ev ρ y = .int k (b : Int)) (hN : d < N) (kk : WL ro P N ops Q rest (cL ρ d (.int k (((a * b) % M : Nat) : Int))) w) :
  WL ro P N ops Q (⟨some d, .binOp .mul t x y u, ty, pos, af, none⟩ :: rest) ρ w := a8 rfl rfl hN (BC hx hy) kk
theorem Be [UK k q M] (hx : ev ρ x = .int k (a : Int)) (hy : ev ρ y = .int k (b : Int)) (hb : 0 < b) (ha : a < M) (hN : d < N) (kk : WL ro P N ops Q rest (cL ρ d (.int k ((a / b : Nat) : Int))) w) :
  WL ro P N ops Q (⟨some d, .binOp .quo t x y u, ty, pos, af, none⟩ :: rest) ρ w := a8 rfl rfl hN (BE hx hy hb ha) kk
theorem uv (hx : ev ρ x = .int k (a : Int)) (hy : ev ρ y = .int k (b : Int)) (hb : 0 < b) (hN : d < N) (kk : WL ro P N ops Q rest (cL ρ d (.int k ((a % b : Nat) : Int))) w) :
  WL ro P N ops Q (⟨some d, .binOp .rem t x y u, ty, pos, af, none⟩ :: rest) ρ w := a8 rfl rfl hN (Bv hx hy hb) kk
theorem vC [h : UK k q M] (hx : ev ρ x = .int k (a : Int)) (hy : ev ρ y = .int k (b : Int)) (ha : a < M) (hb : b < M) (hN : d < N) (kk : WL ro P N ops Q rest (cL ρ d (.int k ((a ||| b : Nat) : Int))) w) :
  WL ro P N ops Q (⟨some d, .binOp .or t x y u, ty, pos, af, none⟩ :: rest) ρ w := a8 rfl rfl hN (Cj hx hy ha hb) kk
theorem j1 [h : UK k q M] (hx : ev ρ x = .int k (a : Int)) (hy : ev ρ y = .int k (b : Int)) (ha : a < M) (hb : b < M) (hN : d < N) (kk : WL ro P N ops Q rest (cL ρ d (.int k ((a &&& b : Nat) : Int))) w) :
  WL ro P N ops Q (⟨some d, .binOp .and t x y u, ty, pos, af, none⟩ :: rest) ρ w := a8 rfl rfl hN (BM hx hy ha hb) kk
theorem uj [h : UK k q M] {k' : IntKind} {s : Int} (hx : ev ρ x = .int k (a : Int)) (hy : ev ρ y = .int k' s) (hs : 0 ≤ s ∧ s ≤ q) (hN : d < N) (kk : WL ro P N ops Q rest (cL ρ d (.int k ((a / 2 ^ s.toNat : Nat) : Int))) w) :
  WL ro P N ops Q (⟨some d, .binOp .shr t x y u, ty, pos, af, none⟩ :: rest) ρ w := a8 rfl rfl hN (ve hx hy hs) kk
theorem eC [UK k q M] {k' : IntKind} {s m : Nat} (hx : ev ρ x = .int k (a : Int)) (hy : ev ρ y = .int k' (s : Int)) (hs : s ≤ q) (hm : 2 ^ s = m) (hN : d < N) (kk : WL ro P N ops Q rest (cL ρ d (.int k ((a / m : Nat) : Int))) w) :
  WL ro P N ops Q (⟨some d, .binOp .shr t x y u, ty, pos, af, none⟩ :: rest) ρ w := a8 rfl rfl hN (zk hx hy hs hm) kk
theorem xO [h : UK k q M] (hx : ev ρ x = .int k (a : Int)) (ha : a ≤ M) (hN : d < N) (kk : WL ro P N ops Q rest (cL ρ d (.int k (((M - a) % M : Nat) : Int))) w) :
  WL ro P N ops Q (⟨some d, .unOp .neg t x, ty, pos, af, none⟩ :: rest) ρ w := a8 rfl rfl hN (BK hx ha) kk
theorem fp [UK k q M] {s t : TypeId} {k' : IntKind} {sd : TypeDesc} (hs : P.underlying s = some sd) (ht : P.underlying t = some (.int k)) (hx : ev ρ x = .int k' (a : Int)) (hN : d < N) (kk : WL ro P N ops Q rest (cL ρ d (.int k ((a % M : Nat) : Int))) w) :
  WL ro P N ops Q (⟨some d, .convert s t x, ty, pos, af, none⟩ :: rest) ρ w := a8 rfl rfl hN (vU hs ht hx) kk
theorem dq [UK k q M] {s t : TypeId} {k' : IntKind} {sd : TypeDesc} (hs : P.underlying s = some sd) (ht : P.underlying t = some (.int k)) (hx : ev ρ x = .int k' (a : Int)) (ha : a < M) (hN : d < N) (kk : WL ro P N ops Q rest (cL ρ d (.int k (a : Int))) w) :
  WL ro P N ops Q (⟨some d, .convert s t x, ty, pos, af, none⟩ :: rest) ρ w := a8 rfl rfl hN (oD hs ht hx ha) kk
end
section
variable {t u : TypeId} {x y : Operand} {k : IntKind} {a b : Int}
theorem zx (hx : ev ρ x = .int k a) (hy : ev ρ y = .int k b) (hN : d < N) (kk : WL ro P N ops Q rest (cL ρ d (.bool (decide (a < b)))) w) :
  WL ro P N ops Q (⟨some d, .binOp .lss t x y u, ty, pos, af, none⟩ :: rest) ρ w := a8 rfl rfl hN (wC hx hy) kk
theorem Ac (hx : ev ρ x = .int k a) (hy : ev ρ y = .int k b) (hN : d < N) (kk : WL ro P N ops Q rest (cL ρ d (.bool (decide (a ≤ b)))) w) :
  WL ro P N ops Q (⟨some d, .binOp .leq t x y u, ty, pos, af, none⟩ :: rest) ρ w := a8 rfl rfl hN (Am hx hy) kk
theorem Ab (hx : ev ρ x = .int k a) (hy : ev ρ y = .int k b) (hN : d < N) (kk : WL ro P N ops Q rest (cL ρ d (.bool (decide (b < a)))) w) :
  WL ro P N ops Q (⟨some d, .binOp .gtr t x y u, ty, pos, af, none⟩ :: rest) ρ w := a8 rfl rfl hN (we hx hy) kk
theorem zu (hx : ev ρ x = .int k a) (hy : ev ρ y = .int k b) (hN : d < N) (kk : WL ro P N ops Q rest (cL ρ d (.bool (decide (b ≤ a)))) w) :
  WL ro P N ops Q (⟨some d, .binOp .geq t x y u, ty, pos, af, none⟩ :: rest) ρ w := a8 rfl rfl hN (zK hx hy) kk
theorem Ao (hx : ev ρ x = .int k a) (hy : ev ρ y = .int k b) (hN : d < N) (kk : WL ro P N ops Q rest (cL ρ d (.bool (decide (a ≠ b)))) w) :
  WL ro P N ops Q (⟨some d, .binOp .neq t x y u, ty, pos, af, none⟩ :: rest) ρ w := a8 rfl rfl hN (Ae hx hy) kk
end
section
variable {t u : TypeId} {x y : Operand} {a b : Bool}
theorem kJ (ht : P.underlying t = some .bool) (hx : ev ρ x = .bool a) (hy : ev ρ y = .bool b) (h : a = b) (hN : d < N) (kk : WL ro P N ops Q rest (cL ρ d (.bool true)) w) :
  WL ro P N ops Q (⟨some d, .binOp .eql t x y u, ty, pos, af, none⟩ :: rest) ρ w := a8 rfl rfl hN (An ht hx hy h) kk
theorem kI (ht : P.underlying t = some .bool) (hx : ev ρ x = .bool a) (hy : ev ρ y = .bool b) (h : ¬ a = b) (hN : d < N) (kk : WL ro P N ops Q rest (cL ρ d (.bool false)) w) :
  WL ro P N ops Q (⟨some d, .binOp .eql t x y u, ty, pos, af, none⟩ :: rest) ρ w := a8 rfl rfl hN (Az ht hx hy h) kk
theorem rY (ht : P.underlying t = some .bool) (hx : ev ρ x = .bool a) (hy : ev ρ y = .bool b) (h : ¬ a = b) (hN : d < N) (kk : WL ro P N ops Q rest (cL ρ d (.bool true)) w) :
  WL ro P N ops Q (⟨some d, .binOp .neq t x y u, ty, pos, af, none⟩ :: rest) ρ w := a8 rfl rfl hN (rz ht hx hy h) kk
theorem qR (ht : P.underlying t = some .bool) (hx : ev ρ x = .bool a) (hy : ev ρ y = .bool b) (h : a = b) (hN : d < N) (kk : WL ro P N ops Q rest (cL ρ d (.bool false)) w) :
  WL ro P N ops Q (⟨some d, .binOp .neq t x y u, ty, pos, af, none⟩ :: rest) ρ w := a8 rfl rfl hN (rn ht hx hy h) kk
end
theorem aR {t e : TypeId} {x i : Operand} {ad : Addr} {n c sz k : Nat} {kk : IntKind} {m : Int} (ht : P.underlying t = some (.slice e)) (hsz : (P.info? e).map (·.size) = some sz) (hx : ev ρ x = .slice (some ad) n c) (hi : ev ρ i = .int kk m)
  (hm : m = (k : Int)) (h1 : k < n) (hN : d < N) (kk : WL ro P N ops Q rest (cL ρ d (.pointer (some (ad.add (k * sz))))) w) :
  WL ro P N ops Q (⟨some d, .indexAddr t x i, ty, pos, af, none⟩ :: rest) ρ w := a8 rfl rfl hN (eg ht hsz hx hi hm h1) kk
theorem dH {t e : TypeId} {x i : Operand} {b o n c sz k : Nat} {kk : IntKind} {m : Int} (ht : P.underlying t = some (.slice e)) (hsz : (P.info? e).map (·.size) = some sz) (hx : ev ρ x = .slice (some ⟨b, o, none⟩) n c) (hi : ev ρ i = .int kk m)
  (hm : m = (k : Int)) (h1 : k < n) (hN : d < N) (kk : WL ro P N ops Q rest (cL ρ d (.pointer (some ⟨b, o + k * sz, none⟩))) w) :
  WL ro P N ops Q (⟨some d, .indexAddr t x i, ty, pos, af, none⟩ :: rest) ρ w := a8 rfl rfl hN (uL ht hsz hx hi hm h1) kk
theorem uM {t e : TypeId} {x i : Operand} {ad : Addr} {n sz k : Nat} {kk : IntKind} {m : Int} (ht : P.underlying t = some (.array n e)) (hsz : (P.info? e).map (·.size) = some sz) (hx : ev ρ x = .pointer (some ad)) (hi : ev ρ i = .int kk m)
  (hm : m = (k : Int)) (h1 : k < n) (hN : d < N) (kk : WL ro P N ops Q rest (cL ρ d (.pointer (some (ad.add (k * sz))))) w) :
  WL ro P N ops Q (⟨some d, .indexAddr t x i, ty, pos, af, none⟩ :: rest) ρ w := a8 rfl rfl hN (um ht hsz hx hi hm h1) kk
theorem jg {t e : TypeId} {x hi : Operand} {A : Option Addr} {n c h sz : Nat} {k : IntKind} {m : Int} (ht : P.underlying t = some (.slice e)) (hsz : (P.info? e).map (·.size) = some sz) (hx : ev ρ x = .slice A n c) (hhi : ev ρ hi = .int k m)
  (hm : m = (h : Int)) (h2 : h ≤ c) (hN : d < N) (kk : WL ro P N ops Q rest (cL ρ d (.slice A h c)) w) :
  WL ro P N ops Q (⟨some d, .slice t x none (some hi) none, ty, pos, af, none⟩ :: rest) ρ w := a8 rfl rfl hN (sg ht hsz hx hhi hm h2) kk
theorem o9 {t e : TypeId} {x lo : Operand} {b o n c l sz : Nat} {k : IntKind} {m : Int} (ht : P.underlying t = some (.slice e)) (hsz : (P.info? e).map (·.size) = some sz) (hx : ev ρ x = .slice (some ⟨b, o, none⟩) n c) (hlo : ev ρ lo = .int k m)
  (hm : m = (l : Int)) (h1 : l ≤ n) (h2 : n ≤ c) (h3 : l < c) (hN : d < N) (kk : WL ro P N ops Q rest (cL ρ d (.slice (some ⟨b, o + l * sz, none⟩) (n - l) (c - l))) w) :
  WL ro P N ops Q (⟨some d, .slice t x (some lo) none none, ty, pos, af, none⟩ :: rest) ρ w := a8 rfl rfl hN (uT ht hsz hx hlo hm h1 h2 h3) kk
theorem nj {t e : TypeId} {x lo : Operand} {ad : Addr} {n c l sz : Nat} {k : IntKind} {m : Int} (ht : P.underlying t = some (.slice e)) (hsz : (P.info? e).map (·.size) = some sz) (hx : ev ρ x = .slice (some ad) n c) (hlo : ev ρ lo = .int k m)
  (hm : m = (l : Int)) (h1 : l ≤ n) (h2 : n ≤ c) (h3 : l < c) (hN : d < N) (kk : WL ro P N ops Q rest (cL ρ d (.slice (some (ad.add (l * sz))) (n - l) (c - l))) w) :
  WL ro P N ops Q (⟨some d, .slice t x (some lo) none none, ty, pos, af, none⟩ :: rest) ρ w := a8 rfl rfl hN (sR ht hsz hx hlo hm h1 h2 h3) kk
theorem a9 : pM ρ [] = [] := rfl
theorem aA {x : Operand} {l : List Operand} {v : Value} {r : List Value} (hx : ev ρ x = v) (h : pM ρ l = r) : pM ρ (x :: l) = v :: r := by simp only [pM, hx, h]
theorem cn : pE ρ [] = [] := rfl
theorem bm {i : Nat} {x : Operand} {l : List (Nat × Operand)} {v : Value} {r : List (Nat × Value)} (hx : ev ρ x = v) (h : pE ρ l = r) : pE ρ ((i, x) :: l) = (i, v) :: r := by simp only [pE, hx, h]
def uC (P : Program) (f : FuncId) : Bool := match P.funcs[f]? with | some fn => !fn.body.isNone && !(fn.name == "runtime.NumGoroutine") | none => false
theorem qE {P : Program} {f : FuncId} (h : uC P f = true) : ∃ fn, P.funcs[f]? = some fn ∧ fn.body.isNone = false ∧ (fn.name == "runtime.NumGoroutine") = false := by
 unfold uC at h
 split at h
 ·rename_i fn hf
  simp only [Bool.and_eq_true, Bool.not_eq_true'] at h
  exact ⟨fn, hf, h.1, h.2⟩
 ·cases h
theorem a3 {dd : Option Nat} {g : Option (Nat × Bool)} {f : FuncId} {args : Array Operand} {ts : Array TypeId} {vs : List Value} (hf : uC P f = true) (ha : pM ρ args.toList = vs) :
  (execOp (ev ρ) ⟨dd, .call ⟨.value (.func f), args, ts⟩, ty, pos, af, g⟩).run P w = .ok (.enter f vs.toArray) w := by
 obtain ⟨fn, h1, h2, h3⟩ := qE hf
 have := yS (P := P) (w := w) (d := dd) (ty := ty) (pos := pos) (af := af) (g := g) (ts := ts) h1 h2 h3 (show ev ρ (.func f) = .func (.func f) #[] #[] from rfl) (lH args ha)
 simpa using this
theorem xp {dd : Option Nat} {g : Option (Nat × Bool)} {x : Operand} {f : FuncId} {args : Array Operand} {ts : Array TypeId} {first cap vs : List Value} (hf : uC P f = true) (hx : ev ρ x = .func (.func f) first.toArray cap.toArray) (ha : first ++ (pM ρ args.toList ++ cap) = vs) :
  (execOp (ev ρ) ⟨dd, .call ⟨.value x, args, ts⟩, ty, pos, af, g⟩).run P w = .ok (.enter f vs.toArray) w := by
 obtain ⟨fn, h1, h2, h3⟩ := qE hf
 have := yS (P := P) (w := w) (d := dd) (ty := ty) (pos := pos) (af := af) (g := g) (ts := ts) h1 h2 h3 hx (lH args rfl)
 subst ha
 simpa using this
theorem aV {f : FuncId} {args : Array Operand} {ts : Array TypeId} {vs : List Value} {R : Ending → World → Prop} (hc : Calls P f vs.toArray w R) (hf : uC P f = true) (ha : pM ρ args.toList = vs) (hN : d < N)
  (kk : ∀ e w', R e w' → ∃ v, e = .returned v ∧ WL ro P N ops Q rest (cL ρ d v) w') : WL ro P N ops Q (⟨some d, .call ⟨.value (.func f), args, ts⟩, ty, pos, af, none⟩ :: rest) ρ w :=
 tP rfl rfl hN (a3 hf ha) hc kk
theorem fL {x : Operand} {f : FuncId} {args : Array Operand} {ts : Array TypeId} {first cap vs : List Value} {R : Ending → World → Prop} (hc : Calls P f vs.toArray w R) (hf : uC P f = true) (hx : ev ρ x = .func (.func f) first.toArray cap.toArray) (ha : first ++ (pM ρ args.toList ++ cap) = vs) (hN : d < N)
  (kk : ∀ e w', R e w' → ∃ v, e = .returned v ∧ WL ro P N ops Q rest (cL ρ d v) w') : WL ro P N ops Q (⟨some d, .call ⟨.value x, args, ts⟩, ty, pos, af, none⟩ :: rest) ρ w :=
 tP rfl rfl hN (xp hf hx ha) hc kk
end
end Go.Proofs.YtaapkaefelhfcaaGreatDoor
/- mG facts on the seat's types and functions, as instances that the rules find by themselves (printed by wip/gen/types.py). -/
namespace Go.Proofs.YtaapkaefelhfcaaGreatDoor
set_option maxRecDepth 100000
class aF (P : Program) (t : TypeId) (d : outParam TypeDesc) : Prop where out : P.underlying t = some d
class aC (P : Program) (t : TypeId) (n : outParam Nat) (ag : outParam Bool) (b : outParam Nat) (zc : outParam (List Value)) : Prop where out : db P t = some (n, ag, b, zc)
class dE (P : Program) (s : TypeId) (f : Nat) (off : outParam Nat) (ft : outParam TypeId) : Prop where out : iy P s f = some (off, ft)
class jk (P : Program) (s : TypeId) (pl : outParam (List (Nat × Nat))) : Prop where out : mq P s = some pl
class av (P : Program) (f : FuncId) : Prop where out : uC P f = true
theorem aC.size {P : Program} {t : TypeId} {n b : Nat} {ag : Bool} {zc : List Value} [h : aC P t n ag b zc] : (P.info? t).map (·.size) = some n := by
 obtain ⟨i, z, d, hi, hd, hz, hs, _⟩ := ew h.out
 rw [hi, Option.map_some, hs]
instance : aF Tryz.prog 2 (.int .i64) := ⟨by kernel_rfl⟩
instance : aC Tryz.prog 2 1 false 8 [.int .i64 0] := ⟨by kernel_rfl⟩
instance : aF Tryz.prog 3 (.int .i64) := ⟨by kernel_rfl⟩
instance : aC Tryz.prog 3 1 false 8 [.int .i64 0] := ⟨by kernel_rfl⟩
instance : aF Tryz.prog 4 (.bool) := ⟨by kernel_rfl⟩
instance : aC Tryz.prog 4 1 false 1 [.bool false] := ⟨by kernel_rfl⟩
instance : aF Tryz.prog 5 (.int .u8) := ⟨by kernel_rfl⟩
instance : aC Tryz.prog 5 1 false 1 [.int .u8 0] := ⟨by kernel_rfl⟩
instance : aF Tryz.prog 6 (.int .u8) := ⟨by kernel_rfl⟩
instance : aC Tryz.prog 6 1 false 1 [.int .u8 0] := ⟨by kernel_rfl⟩
instance : aC Tryz.prog 7 4 true 24 [.int .i64 0, .int .i64 0, .bool false, .int .u8 0] := ⟨by kernel_rfl⟩
instance : dE Tryz.prog 7 0 0 2 := ⟨by kernel_rfl⟩
instance : dE Tryz.prog 7 1 1 3 := ⟨by kernel_rfl⟩
instance : dE Tryz.prog 7 2 2 4 := ⟨by kernel_rfl⟩
instance : dE Tryz.prog 7 3 3 6 := ⟨by kernel_rfl⟩
instance : jk Tryz.prog 7 [(0, 1), (1, 1), (2, 1), (3, 1)] := ⟨by kernel_rfl⟩
instance : aC Tryz.prog 8 4 true 24 [.int .i64 0, .int .i64 0, .bool false, .int .u8 0] := ⟨by kernel_rfl⟩
instance : dE Tryz.prog 8 0 0 2 := ⟨by kernel_rfl⟩
instance : dE Tryz.prog 8 1 1 3 := ⟨by kernel_rfl⟩
instance : dE Tryz.prog 8 2 2 4 := ⟨by kernel_rfl⟩
instance : dE Tryz.prog 8 3 3 6 := ⟨by kernel_rfl⟩
instance : jk Tryz.prog 8 [(0, 1), (1, 1), (2, 1), (3, 1)] := ⟨by kernel_rfl⟩
instance : aF Tryz.prog 9 (.string) := ⟨by kernel_rfl⟩
instance : aC Tryz.prog 9 1 false 16 [.string { data := #[] }] := ⟨by kernel_rfl⟩
instance : aF Tryz.prog 10 (.string) := ⟨by kernel_rfl⟩
instance : aC Tryz.prog 10 1 false 16 [.string { data := #[] }] := ⟨by kernel_rfl⟩
instance : aF Tryz.prog 11 (.string) := ⟨by kernel_rfl⟩
instance : aC Tryz.prog 11 1 false 16 [.string { data := #[] }] := ⟨by kernel_rfl⟩
instance : aF Tryz.prog 12 (.int .u64) := ⟨by kernel_rfl⟩
instance : aC Tryz.prog 12 1 false 8 [.int .u64 0] := ⟨by kernel_rfl⟩
instance : aC Tryz.prog 13 2 true 24 [.string { data := #[] }, .int .u64 0] := ⟨by kernel_rfl⟩
instance : dE Tryz.prog 13 0 0 9 := ⟨by kernel_rfl⟩
instance : dE Tryz.prog 13 1 1 12 := ⟨by kernel_rfl⟩
instance : jk Tryz.prog 13 [(0, 1), (1, 1)] := ⟨by kernel_rfl⟩
instance : aC Tryz.prog 14 2 true 24 [.string { data := #[] }, .int .u64 0] := ⟨by kernel_rfl⟩
instance : dE Tryz.prog 14 0 0 9 := ⟨by kernel_rfl⟩
instance : dE Tryz.prog 14 1 1 12 := ⟨by kernel_rfl⟩
instance : jk Tryz.prog 14 [(0, 1), (1, 1)] := ⟨by kernel_rfl⟩
instance : aF Tryz.prog 15 (.pointer 293) := ⟨by kernel_rfl⟩
instance : aC Tryz.prog 15 1 false 8 [.pointer none] := ⟨by kernel_rfl⟩
instance : aF Tryz.prog 16 (.pointer 296) := ⟨by kernel_rfl⟩
instance : aC Tryz.prog 16 1 false 8 [.pointer none] := ⟨by kernel_rfl⟩
instance : aF Tryz.prog 17 (.pointer 305) := ⟨by kernel_rfl⟩
instance : aC Tryz.prog 17 1 false 8 [.pointer none] := ⟨by kernel_rfl⟩
instance : aC Tryz.prog 18 1 true 8 [.pointer none] := ⟨by kernel_rfl⟩
instance : dE Tryz.prog 18 0 0 17 := ⟨by kernel_rfl⟩
instance : jk Tryz.prog 18 [(0, 1)] := ⟨by kernel_rfl⟩
instance : aC Tryz.prog 19 1 true 8 [.pointer none] := ⟨by kernel_rfl⟩
instance : dE Tryz.prog 19 0 0 17 := ⟨by kernel_rfl⟩
instance : jk Tryz.prog 19 [(0, 1)] := ⟨by kernel_rfl⟩
instance : aF Tryz.prog 21 (.int .i32) := ⟨by kernel_rfl⟩
instance : aC Tryz.prog 21 1 false 4 [.int .i32 0] := ⟨by kernel_rfl⟩
instance : aF Tryz.prog 22 (.slice 55) := ⟨by kernel_rfl⟩
instance : aC Tryz.prog 22 1 false 24 [.slice none 0 0] := ⟨by kernel_rfl⟩
instance : aC Tryz.prog 23 2 true 32 [.int .i64 0, .slice none 0 0] := ⟨by kernel_rfl⟩
instance : dE Tryz.prog 23 0 0 3 := ⟨by kernel_rfl⟩
instance : dE Tryz.prog 23 1 1 22 := ⟨by kernel_rfl⟩
instance : jk Tryz.prog 23 [(0, 1), (1, 1)] := ⟨by kernel_rfl⟩
instance : aC Tryz.prog 24 2 true 32 [.int .i64 0, .slice none 0 0] := ⟨by kernel_rfl⟩
instance : dE Tryz.prog 24 0 0 3 := ⟨by kernel_rfl⟩
instance : dE Tryz.prog 24 1 1 22 := ⟨by kernel_rfl⟩
instance : jk Tryz.prog 24 [(0, 1), (1, 1)] := ⟨by kernel_rfl⟩
instance : aF Tryz.prog 25 (.slice 29) := ⟨by kernel_rfl⟩
instance : aC Tryz.prog 25 1 false 24 [.slice none 0 0] := ⟨by kernel_rfl⟩
instance : aC Tryz.prog 26 2 true 24 [.bool false, .string { data := #[] }] := ⟨by kernel_rfl⟩
instance : dE Tryz.prog 26 0 0 4 := ⟨by kernel_rfl⟩
instance : dE Tryz.prog 26 1 1 9 := ⟨by kernel_rfl⟩
instance : jk Tryz.prog 26 [(0, 1), (1, 1)] := ⟨by kernel_rfl⟩
instance : aC Tryz.prog 27 2 true 24 [.bool false, .string { data := #[] }] := ⟨by kernel_rfl⟩
instance : dE Tryz.prog 27 0 0 4 := ⟨by kernel_rfl⟩
instance : dE Tryz.prog 27 1 1 9 := ⟨by kernel_rfl⟩
instance : jk Tryz.prog 27 [(0, 1), (1, 1)] := ⟨by kernel_rfl⟩
instance : aC Tryz.prog 28 3 true 32 [.bool false, .string { data := #[] }, .int .i64 0] := ⟨by kernel_rfl⟩
instance : dE Tryz.prog 28 0 0 27 := ⟨by kernel_rfl⟩
instance : dE Tryz.prog 28 1 2 3 := ⟨by kernel_rfl⟩
instance : jk Tryz.prog 28 [(0, 2), (2, 1)] := ⟨by kernel_rfl⟩
instance : aC Tryz.prog 29 3 true 32 [.bool false, .string { data := #[] }, .int .i64 0] := ⟨by kernel_rfl⟩
instance : dE Tryz.prog 29 0 0 27 := ⟨by kernel_rfl⟩
instance : dE Tryz.prog 29 1 2 3 := ⟨by kernel_rfl⟩
instance : jk Tryz.prog 29 [(0, 2), (2, 1)] := ⟨by kernel_rfl⟩
instance : aF Tryz.prog 35 (.int .i64) := ⟨by kernel_rfl⟩
instance : aC Tryz.prog 35 1 false 8 [.int .i64 0] := ⟨by kernel_rfl⟩
instance : aF Tryz.prog 44 (.slice 24) := ⟨by kernel_rfl⟩
instance : aC Tryz.prog 44 1 false 24 [.slice none 0 0] := ⟨by kernel_rfl⟩
instance : aF Tryz.prog 50 (.slice 57) := ⟨by kernel_rfl⟩
instance : aC Tryz.prog 50 1 false 24 [.slice none 0 0] := ⟨by kernel_rfl⟩
instance : aF Tryz.prog 51 (.slice 57) := ⟨by kernel_rfl⟩
instance : aC Tryz.prog 51 1 false 24 [.slice none 0 0] := ⟨by kernel_rfl⟩
instance : aF Tryz.prog 52 (.slice 3) := ⟨by kernel_rfl⟩
instance : aC Tryz.prog 52 1 false 24 [.slice none 0 0] := ⟨by kernel_rfl⟩
instance : aC Tryz.prog 54 4 true 48 [.string { data := #[] }, .bool false, .string { data := #[] }, .int .i64 0] := ⟨by kernel_rfl⟩
instance : dE Tryz.prog 54 0 0 9 := ⟨by kernel_rfl⟩
instance : dE Tryz.prog 54 1 1 29 := ⟨by kernel_rfl⟩
instance : jk Tryz.prog 54 [(0, 1), (1, 3)] := ⟨by kernel_rfl⟩
instance : aC Tryz.prog 55 4 true 48 [.string { data := #[] }, .bool false, .string { data := #[] }, .int .i64 0] := ⟨by kernel_rfl⟩
instance : dE Tryz.prog 55 0 0 9 := ⟨by kernel_rfl⟩
instance : dE Tryz.prog 55 1 1 29 := ⟨by kernel_rfl⟩
instance : jk Tryz.prog 55 [(0, 1), (1, 3)] := ⟨by kernel_rfl⟩
instance : aC Tryz.prog 56 6 true 64 [.bool false, .string { data := #[] }, .int .i64 0, .bool false, .string { data := #[] }, .int .i64 0] := ⟨by kernel_rfl⟩
instance : dE Tryz.prog 56 0 0 29 := ⟨by kernel_rfl⟩
instance : dE Tryz.prog 56 1 3 29 := ⟨by kernel_rfl⟩
instance : jk Tryz.prog 56 [(0, 3), (3, 3)] := ⟨by kernel_rfl⟩
instance : aC Tryz.prog 57 6 true 64 [.bool false, .string { data := #[] }, .int .i64 0, .bool false, .string { data := #[] }, .int .i64 0] := ⟨by kernel_rfl⟩
instance : dE Tryz.prog 57 0 0 29 := ⟨by kernel_rfl⟩
instance : dE Tryz.prog 57 1 3 29 := ⟨by kernel_rfl⟩
instance : jk Tryz.prog 57 [(0, 3), (3, 3)] := ⟨by kernel_rfl⟩
instance : aC Tryz.prog 60 2 true 48 [.slice none 0 0, .slice none 0 0] := ⟨by kernel_rfl⟩
instance : dE Tryz.prog 60 0 0 52 := ⟨by kernel_rfl⟩
instance : dE Tryz.prog 60 1 1 25 := ⟨by kernel_rfl⟩
instance : jk Tryz.prog 60 [(0, 1), (1, 1)] := ⟨by kernel_rfl⟩
instance : aC Tryz.prog 61 2 true 48 [.slice none 0 0, .slice none 0 0] := ⟨by kernel_rfl⟩
instance : dE Tryz.prog 61 0 0 52 := ⟨by kernel_rfl⟩
instance : dE Tryz.prog 61 1 1 25 := ⟨by kernel_rfl⟩
instance : jk Tryz.prog 61 [(0, 1), (1, 1)] := ⟨by kernel_rfl⟩
instance : aF Tryz.prog 101 (.slice 29) := ⟨by kernel_rfl⟩
instance : aC Tryz.prog 101 1 false 24 [.slice none 0 0] := ⟨by kernel_rfl⟩
instance : aF Tryz.prog 107 (.slice 109) := ⟨by kernel_rfl⟩
instance : aC Tryz.prog 107 1 false 24 [.slice none 0 0] := ⟨by kernel_rfl⟩
instance : aC Tryz.prog 108 1 true 24 [.slice none 0 0] := ⟨by kernel_rfl⟩
instance : dE Tryz.prog 108 0 0 25 := ⟨by kernel_rfl⟩
instance : jk Tryz.prog 108 [(0, 1)] := ⟨by kernel_rfl⟩
instance : aC Tryz.prog 109 1 true 24 [.slice none 0 0] := ⟨by kernel_rfl⟩
instance : dE Tryz.prog 109 0 0 25 := ⟨by kernel_rfl⟩
instance : jk Tryz.prog 109 [(0, 1)] := ⟨by kernel_rfl⟩
instance : aF Tryz.prog 111 (.slice 5) := ⟨by kernel_rfl⟩
instance : aC Tryz.prog 111 1 false 24 [.slice none 0 0] := ⟨by kernel_rfl⟩
instance : aC Tryz.prog 131 2 true 16 [.int .i64 0, .int .i64 0] := ⟨by kernel_rfl⟩
instance : dE Tryz.prog 131 0 0 3 := ⟨by kernel_rfl⟩
instance : dE Tryz.prog 131 1 1 3 := ⟨by kernel_rfl⟩
instance : jk Tryz.prog 131 [(0, 1), (1, 1)] := ⟨by kernel_rfl⟩
instance : aC Tryz.prog 132 2 true 16 [.int .i64 0, .int .i64 0] := ⟨by kernel_rfl⟩
instance : dE Tryz.prog 132 0 0 3 := ⟨by kernel_rfl⟩
instance : dE Tryz.prog 132 1 1 3 := ⟨by kernel_rfl⟩
instance : jk Tryz.prog 132 [(0, 1), (1, 1)] := ⟨by kernel_rfl⟩
instance : aC Tryz.prog 140 9 true 96 [.bool false, .string { data := #[] }, .int .i64 0, .bool false, .string { data := #[] }, .int .i64 0, .bool false, .string { data := #[] }, .int .i64 0] := ⟨by kernel_rfl⟩
instance : dE Tryz.prog 140 0 0 57 := ⟨by kernel_rfl⟩
instance : dE Tryz.prog 140 1 6 29 := ⟨by kernel_rfl⟩
instance : jk Tryz.prog 140 [(0, 6), (6, 3)] := ⟨by kernel_rfl⟩
instance : aC Tryz.prog 141 9 true 96 [.bool false, .string { data := #[] }, .int .i64 0, .bool false, .string { data := #[] }, .int .i64 0, .bool false, .string { data := #[] }, .int .i64 0] := ⟨by kernel_rfl⟩
instance : dE Tryz.prog 141 0 0 57 := ⟨by kernel_rfl⟩
instance : dE Tryz.prog 141 1 6 29 := ⟨by kernel_rfl⟩
instance : jk Tryz.prog 141 [(0, 6), (6, 3)] := ⟨by kernel_rfl⟩
instance : aF Tryz.prog 146 (.int .u64) := ⟨by kernel_rfl⟩
instance : aC Tryz.prog 146 1 false 8 [.int .u64 0] := ⟨by kernel_rfl⟩
instance : aF Tryz.prog 153 (.slice 9) := ⟨by kernel_rfl⟩
instance : aC Tryz.prog 153 1 false 24 [.slice none 0 0] := ⟨by kernel_rfl⟩
instance : aF Tryz.prog 168 (.int .i64) := ⟨by kernel_rfl⟩
instance : aC Tryz.prog 168 1 false 8 [.int .i64 0] := ⟨by kernel_rfl⟩
instance : aC Tryz.prog 169 5 true 56 [.int .i64 0, .bool false, .string { data := #[] }, .bool false, .string { data := #[] }] := ⟨by kernel_rfl⟩
instance : dE Tryz.prog 169 0 0 168 := ⟨by kernel_rfl⟩
instance : dE Tryz.prog 169 1 1 27 := ⟨by kernel_rfl⟩
instance : dE Tryz.prog 169 2 3 27 := ⟨by kernel_rfl⟩
instance : jk Tryz.prog 169 [(0, 1), (1, 2), (3, 2)] := ⟨by kernel_rfl⟩
instance : aC Tryz.prog 170 5 true 56 [.int .i64 0, .bool false, .string { data := #[] }, .bool false, .string { data := #[] }] := ⟨by kernel_rfl⟩
instance : dE Tryz.prog 170 0 0 168 := ⟨by kernel_rfl⟩
instance : dE Tryz.prog 170 1 1 27 := ⟨by kernel_rfl⟩
instance : dE Tryz.prog 170 2 3 27 := ⟨by kernel_rfl⟩
instance : jk Tryz.prog 170 [(0, 1), (1, 2), (3, 2)] := ⟨by kernel_rfl⟩
instance : aF Tryz.prog 183 (.pointer 109) := ⟨by kernel_rfl⟩
instance : aC Tryz.prog 183 1 false 8 [.pointer none] := ⟨by kernel_rfl⟩
instance : aF Tryz.prog 194 (.slice 2) := ⟨by kernel_rfl⟩
instance : aC Tryz.prog 194 1 false 24 [.slice none 0 0] := ⟨by kernel_rfl⟩
instance : aF Tryz.prog 195 (.slice 61) := ⟨by kernel_rfl⟩
instance : aC Tryz.prog 195 1 false 24 [.slice none 0 0] := ⟨by kernel_rfl⟩
instance : aC Tryz.prog 201 6 true 64 [.bool false, .string { data := #[] }, .int .i64 0, .bool false, .string { data := #[] }, .int .i64 0] := ⟨by kernel_rfl⟩
instance : dE Tryz.prog 201 0 0 29 := ⟨by kernel_rfl⟩
instance : dE Tryz.prog 201 1 3 29 := ⟨by kernel_rfl⟩
instance : jk Tryz.prog 201 [(0, 3), (3, 3)] := ⟨by kernel_rfl⟩
instance : aC Tryz.prog 202 6 true 64 [.bool false, .string { data := #[] }, .int .i64 0, .bool false, .string { data := #[] }, .int .i64 0] := ⟨by kernel_rfl⟩
instance : dE Tryz.prog 202 0 0 29 := ⟨by kernel_rfl⟩
instance : dE Tryz.prog 202 1 3 29 := ⟨by kernel_rfl⟩
instance : jk Tryz.prog 202 [(0, 3), (3, 3)] := ⟨by kernel_rfl⟩
instance : aF Tryz.prog 213 (.slice 27) := ⟨by kernel_rfl⟩
instance : aC Tryz.prog 213 1 false 24 [.slice none 0 0] := ⟨by kernel_rfl⟩
instance : aF Tryz.prog 214 (.string) := ⟨by kernel_rfl⟩
instance : aC Tryz.prog 214 1 false 16 [.string { data := #[] }] := ⟨by kernel_rfl⟩
instance : aC Tryz.prog 215 2 true 24 [.string { data := #[] }, .bool false] := ⟨by kernel_rfl⟩
instance : dE Tryz.prog 215 0 0 214 := ⟨by kernel_rfl⟩
instance : dE Tryz.prog 215 1 1 4 := ⟨by kernel_rfl⟩
instance : jk Tryz.prog 215 [(0, 1), (1, 1)] := ⟨by kernel_rfl⟩
instance : aC Tryz.prog 216 2 true 24 [.string { data := #[] }, .bool false] := ⟨by kernel_rfl⟩
instance : dE Tryz.prog 216 0 0 214 := ⟨by kernel_rfl⟩
instance : dE Tryz.prog 216 1 1 4 := ⟨by kernel_rfl⟩
instance : jk Tryz.prog 216 [(0, 1), (1, 1)] := ⟨by kernel_rfl⟩
instance : aF Tryz.prog 221 (.int .u64) := ⟨by kernel_rfl⟩
instance : aC Tryz.prog 221 1 false 8 [.int .u64 0] := ⟨by kernel_rfl⟩
instance : aC Tryz.prog 222 6 true 64 [.bool false, .string { data := #[] }, .int .i64 0, .bool false, .string { data := #[] }, .int .i64 0] := ⟨by kernel_rfl⟩
instance : dE Tryz.prog 222 0 0 57 := ⟨by kernel_rfl⟩
instance : jk Tryz.prog 222 [(0, 6)] := ⟨by kernel_rfl⟩
instance : aC Tryz.prog 223 6 true 64 [.bool false, .string { data := #[] }, .int .i64 0, .bool false, .string { data := #[] }, .int .i64 0] := ⟨by kernel_rfl⟩
instance : dE Tryz.prog 223 0 0 57 := ⟨by kernel_rfl⟩
instance : jk Tryz.prog 223 [(0, 6)] := ⟨by kernel_rfl⟩
instance : aF Tryz.prog 240 (.slice 221) := ⟨by kernel_rfl⟩
instance : aC Tryz.prog 240 1 false 24 [.slice none 0 0] := ⟨by kernel_rfl⟩
instance : aF Tryz.prog 241 (.slice 221) := ⟨by kernel_rfl⟩
instance : aC Tryz.prog 241 1 false 24 [.slice none 0 0] := ⟨by kernel_rfl⟩
instance : aF Tryz.prog 259 (.array 64 5) := ⟨by kernel_rfl⟩
instance : aC Tryz.prog 259 64 true 64 [.int .u8 0, .int .u8 0, .int .u8 0, .int .u8 0, .int .u8 0, .int .u8 0, .int .u8 0, .int .u8 0, .int .u8 0, .int .u8 0, .int .u8 0, .int .u8 0, .int .u8 0, .int .u8 0, .int .u8 0, .int .u8 0, .int .u8 0, .int .u8 0, .int .u8 0, .int .u8 0, .int .u8 0, .int .u8 0, .int .u8 0, .int .u8 0, .int .u8 0, .int .u8 0, .int .u8 0, .int .u8 0, .int .u8 0, .int .u8 0, .int .u8 0, .int .u8 0, .int .u8 0, .int .u8 0, .int .u8 0, .int .u8 0, .int .u8 0, .int .u8 0, .int .u8 0, .int .u8 0, .int .u8 0, .int .u8 0, .int .u8 0, .int .u8 0, .int .u8 0, .int .u8 0, .int .u8 0, .int .u8 0, .int .u8 0, .int .u8 0, .int .u8 0, .int .u8 0, .int .u8 0, .int .u8 0, .int .u8 0, .int .u8 0, .int .u8 0, .int .u8 0, .int .u8 0, .int .u8 0, .int .u8 0, .int .u8 0, .int .u8 0, .int .u8 0] := ⟨by kernel_rfl⟩
instance : aF Tryz.prog 271 (.array 256 4) := ⟨by kernel_rfl⟩
instance : aF Tryz.prog 272 (.array 256 4) := ⟨by kernel_rfl⟩
instance : aF Tryz.prog 276 (.pointer 272) := ⟨by kernel_rfl⟩
instance : aC Tryz.prog 276 1 false 8 [.pointer none] := ⟨by kernel_rfl⟩
instance : aF Tryz.prog 285 (.array 256 5) := ⟨by kernel_rfl⟩
instance : aC Tryz.prog 286 2 true 2 [.int .u8 0, .int .u8 0] := ⟨by kernel_rfl⟩
instance : dE Tryz.prog 286 0 0 5 := ⟨by kernel_rfl⟩
instance : dE Tryz.prog 286 1 1 5 := ⟨by kernel_rfl⟩
instance : jk Tryz.prog 286 [(0, 1), (1, 1)] := ⟨by kernel_rfl⟩
instance : aC Tryz.prog 287 2 true 2 [.int .u8 0, .int .u8 0] := ⟨by kernel_rfl⟩
instance : dE Tryz.prog 287 0 0 5 := ⟨by kernel_rfl⟩
instance : dE Tryz.prog 287 1 1 5 := ⟨by kernel_rfl⟩
instance : jk Tryz.prog 287 [(0, 1), (1, 1)] := ⟨by kernel_rfl⟩
instance : aF Tryz.prog 288 (.array 16 287) := ⟨by kernel_rfl⟩
instance : aC Tryz.prog 288 32 true 32 [.int .u8 0, .int .u8 0, .int .u8 0, .int .u8 0, .int .u8 0, .int .u8 0, .int .u8 0, .int .u8 0, .int .u8 0, .int .u8 0, .int .u8 0, .int .u8 0, .int .u8 0, .int .u8 0, .int .u8 0, .int .u8 0, .int .u8 0, .int .u8 0, .int .u8 0, .int .u8 0, .int .u8 0, .int .u8 0, .int .u8 0, .int .u8 0, .int .u8 0, .int .u8 0, .int .u8 0, .int .u8 0, .int .u8 0, .int .u8 0, .int .u8 0, .int .u8 0] := ⟨by kernel_rfl⟩
instance : aC Tryz.prog 292 4 true 40 [.pointer none, .pointer none, .pointer none, .string { data := #[] }] := ⟨by kernel_rfl⟩
instance : dE Tryz.prog 292 0 0 17 := ⟨by kernel_rfl⟩
instance : dE Tryz.prog 292 1 1 17 := ⟨by kernel_rfl⟩
instance : dE Tryz.prog 292 2 2 17 := ⟨by kernel_rfl⟩
instance : dE Tryz.prog 292 3 3 9 := ⟨by kernel_rfl⟩
instance : jk Tryz.prog 292 [(0, 1), (1, 1), (2, 1), (3, 1)] := ⟨by kernel_rfl⟩
instance : aC Tryz.prog 293 4 true 40 [.pointer none, .pointer none, .pointer none, .string { data := #[] }] := ⟨by kernel_rfl⟩
instance : dE Tryz.prog 293 0 0 17 := ⟨by kernel_rfl⟩
instance : dE Tryz.prog 293 1 1 17 := ⟨by kernel_rfl⟩
instance : dE Tryz.prog 293 2 2 17 := ⟨by kernel_rfl⟩
instance : dE Tryz.prog 293 3 3 9 := ⟨by kernel_rfl⟩
instance : jk Tryz.prog 293 [(0, 1), (1, 1), (2, 1), (3, 1)] := ⟨by kernel_rfl⟩
instance : aF Tryz.prog 294 (.array 0 16) := ⟨by kernel_rfl⟩
instance : aC Tryz.prog 294 0 true 0 [] := ⟨by kernel_rfl⟩
instance : aC Tryz.prog 295 0 true 0 [] := ⟨by kernel_rfl⟩
instance : jk Tryz.prog 295 [(0, 0)] := ⟨by kernel_rfl⟩
instance : aC Tryz.prog 296 0 true 0 [] := ⟨by kernel_rfl⟩
instance : jk Tryz.prog 296 [(0, 0)] := ⟨by kernel_rfl⟩
instance : aF Tryz.prog 297 (.int .u32) := ⟨by kernel_rfl⟩
instance : aC Tryz.prog 297 1 false 4 [.int .u32 0] := ⟨by kernel_rfl⟩
instance : aF Tryz.prog 298 (.int .u8) := ⟨by kernel_rfl⟩
instance : aC Tryz.prog 298 1 false 1 [.int .u8 0] := ⟨by kernel_rfl⟩
instance : aF Tryz.prog 299 (.int .u8) := ⟨by kernel_rfl⟩
instance : aC Tryz.prog 299 1 false 1 [.int .u8 0] := ⟨by kernel_rfl⟩
instance : aF Tryz.prog 301 (.pointer 5) := ⟨by kernel_rfl⟩
instance : aC Tryz.prog 301 1 false 8 [.pointer none] := ⟨by kernel_rfl⟩
instance : aF Tryz.prog 302 (.int .i32) := ⟨by kernel_rfl⟩
instance : aC Tryz.prog 302 1 false 4 [.int .i32 0] := ⟨by kernel_rfl⟩
instance : aF Tryz.prog 303 (.int .i32) := ⟨by kernel_rfl⟩
instance : aC Tryz.prog 303 1 false 4 [.int .i32 0] := ⟨by kernel_rfl⟩
instance : aC Tryz.prog 304 11 true 48 [.int .u64 0, .int .u64 0, .int .u32 0, .int .u8 0, .int .u8 0, .int .u8 0, .int .u8 0, .nilFunc, .pointer none, .int .i32 0, .int .i32 0] := ⟨by kernel_rfl⟩
instance : aC Tryz.prog 305 11 true 48 [.int .u64 0, .int .u64 0, .int .u32 0, .int .u8 0, .int .u8 0, .int .u8 0, .int .u8 0, .nilFunc, .pointer none, .int .i32 0, .int .i32 0] := ⟨by kernel_rfl⟩
theorem mixed : Tryz.prog.follows .mixedOrders = true := by kernel_rfl
instance : av Tryz.prog 3 := ⟨by kernel_rfl⟩
instance : av Tryz.prog 4 := ⟨by kernel_rfl⟩
instance : av Tryz.prog 5 := ⟨by kernel_rfl⟩
instance : av Tryz.prog 6 := ⟨by kernel_rfl⟩
instance : av Tryz.prog 7 := ⟨by kernel_rfl⟩
instance : av Tryz.prog 8 := ⟨by kernel_rfl⟩
instance : av Tryz.prog 9 := ⟨by kernel_rfl⟩
instance : av Tryz.prog 10 := ⟨by kernel_rfl⟩
instance : av Tryz.prog 11 := ⟨by kernel_rfl⟩
instance : av Tryz.prog 12 := ⟨by kernel_rfl⟩
instance : av Tryz.prog 13 := ⟨by kernel_rfl⟩
instance : av Tryz.prog 14 := ⟨by kernel_rfl⟩
instance : av Tryz.prog 15 := ⟨by kernel_rfl⟩
instance : av Tryz.prog 16 := ⟨by kernel_rfl⟩
instance : av Tryz.prog 17 := ⟨by kernel_rfl⟩
instance : av Tryz.prog 18 := ⟨by kernel_rfl⟩
instance : av Tryz.prog 19 := ⟨by kernel_rfl⟩
instance : av Tryz.prog 20 := ⟨by kernel_rfl⟩
instance : av Tryz.prog 21 := ⟨by kernel_rfl⟩
instance : av Tryz.prog 22 := ⟨by kernel_rfl⟩
instance : av Tryz.prog 23 := ⟨by kernel_rfl⟩
instance : av Tryz.prog 24 := ⟨by kernel_rfl⟩
instance : av Tryz.prog 25 := ⟨by kernel_rfl⟩
instance : av Tryz.prog 26 := ⟨by kernel_rfl⟩
instance : av Tryz.prog 27 := ⟨by kernel_rfl⟩
instance : av Tryz.prog 28 := ⟨by kernel_rfl⟩
instance : av Tryz.prog 29 := ⟨by kernel_rfl⟩
instance : av Tryz.prog 30 := ⟨by kernel_rfl⟩
instance : av Tryz.prog 31 := ⟨by kernel_rfl⟩
instance : av Tryz.prog 32 := ⟨by kernel_rfl⟩
instance : av Tryz.prog 33 := ⟨by kernel_rfl⟩
instance : av Tryz.prog 34 := ⟨by kernel_rfl⟩
instance : av Tryz.prog 35 := ⟨by kernel_rfl⟩
instance : av Tryz.prog 36 := ⟨by kernel_rfl⟩
instance : av Tryz.prog 37 := ⟨by kernel_rfl⟩
instance : av Tryz.prog 38 := ⟨by kernel_rfl⟩
instance : av Tryz.prog 39 := ⟨by kernel_rfl⟩
instance : av Tryz.prog 40 := ⟨by kernel_rfl⟩
instance : av Tryz.prog 41 := ⟨by kernel_rfl⟩
instance : av Tryz.prog 42 := ⟨by kernel_rfl⟩
instance : av Tryz.prog 43 := ⟨by kernel_rfl⟩
instance : av Tryz.prog 44 := ⟨by kernel_rfl⟩
instance : av Tryz.prog 45 := ⟨by kernel_rfl⟩
instance : av Tryz.prog 46 := ⟨by kernel_rfl⟩
instance : av Tryz.prog 47 := ⟨by kernel_rfl⟩
instance : av Tryz.prog 48 := ⟨by kernel_rfl⟩
instance : av Tryz.prog 49 := ⟨by kernel_rfl⟩
instance : av Tryz.prog 50 := ⟨by kernel_rfl⟩
instance : av Tryz.prog 51 := ⟨by kernel_rfl⟩
instance : av Tryz.prog 52 := ⟨by kernel_rfl⟩
instance : av Tryz.prog 53 := ⟨by kernel_rfl⟩
instance : av Tryz.prog 54 := ⟨by kernel_rfl⟩
instance : av Tryz.prog 55 := ⟨by kernel_rfl⟩
instance : av Tryz.prog 56 := ⟨by kernel_rfl⟩
instance : av Tryz.prog 57 := ⟨by kernel_rfl⟩
instance : av Tryz.prog 58 := ⟨by kernel_rfl⟩
instance : av Tryz.prog 59 := ⟨by kernel_rfl⟩
instance : av Tryz.prog 60 := ⟨by kernel_rfl⟩
instance : av Tryz.prog 61 := ⟨by kernel_rfl⟩
instance : av Tryz.prog 62 := ⟨by kernel_rfl⟩
instance : av Tryz.prog 63 := ⟨by kernel_rfl⟩
instance : av Tryz.prog 64 := ⟨by kernel_rfl⟩
instance : av Tryz.prog 65 := ⟨by kernel_rfl⟩
instance : av Tryz.prog 66 := ⟨by kernel_rfl⟩
instance : av Tryz.prog 67 := ⟨by kernel_rfl⟩
instance : av Tryz.prog 68 := ⟨by kernel_rfl⟩
instance : av Tryz.prog 69 := ⟨by kernel_rfl⟩
instance : av Tryz.prog 70 := ⟨by kernel_rfl⟩
instance : av Tryz.prog 71 := ⟨by kernel_rfl⟩
instance : av Tryz.prog 72 := ⟨by kernel_rfl⟩
instance : av Tryz.prog 73 := ⟨by kernel_rfl⟩
instance : av Tryz.prog 74 := ⟨by kernel_rfl⟩
instance : av Tryz.prog 75 := ⟨by kernel_rfl⟩
instance : av Tryz.prog 76 := ⟨by kernel_rfl⟩
instance : av Tryz.prog 77 := ⟨by kernel_rfl⟩
instance : av Tryz.prog 78 := ⟨by kernel_rfl⟩
instance : av Tryz.prog 79 := ⟨by kernel_rfl⟩
instance : av Tryz.prog 80 := ⟨by kernel_rfl⟩
instance : av Tryz.prog 81 := ⟨by kernel_rfl⟩
instance : av Tryz.prog 82 := ⟨by kernel_rfl⟩
instance : av Tryz.prog 83 := ⟨by kernel_rfl⟩
instance : av Tryz.prog 84 := ⟨by kernel_rfl⟩
instance : av Tryz.prog 85 := ⟨by kernel_rfl⟩
instance : av Tryz.prog 86 := ⟨by kernel_rfl⟩
instance : av Tryz.prog 87 := ⟨by kernel_rfl⟩
instance : av Tryz.prog 88 := ⟨by kernel_rfl⟩
instance : av Tryz.prog 89 := ⟨by kernel_rfl⟩
instance : av Tryz.prog 90 := ⟨by kernel_rfl⟩
instance : av Tryz.prog 91 := ⟨by kernel_rfl⟩
instance : av Tryz.prog 92 := ⟨by kernel_rfl⟩
instance : av Tryz.prog 93 := ⟨by kernel_rfl⟩
instance : av Tryz.prog 94 := ⟨by kernel_rfl⟩
instance : av Tryz.prog 95 := ⟨by kernel_rfl⟩
instance : av Tryz.prog 96 := ⟨by kernel_rfl⟩
instance : av Tryz.prog 97 := ⟨by kernel_rfl⟩
instance : av Tryz.prog 98 := ⟨by kernel_rfl⟩
instance : av Tryz.prog 99 := ⟨by kernel_rfl⟩
instance : av Tryz.prog 100 := ⟨by kernel_rfl⟩
instance : av Tryz.prog 101 := ⟨by kernel_rfl⟩
instance : av Tryz.prog 102 := ⟨by kernel_rfl⟩
instance : av Tryz.prog 103 := ⟨by kernel_rfl⟩
instance : av Tryz.prog 104 := ⟨by kernel_rfl⟩
instance : av Tryz.prog 105 := ⟨by kernel_rfl⟩
instance : av Tryz.prog 106 := ⟨by kernel_rfl⟩
instance : av Tryz.prog 107 := ⟨by kernel_rfl⟩
instance : av Tryz.prog 108 := ⟨by kernel_rfl⟩
instance : av Tryz.prog 109 := ⟨by kernel_rfl⟩
instance : av Tryz.prog 110 := ⟨by kernel_rfl⟩
instance : av Tryz.prog 111 := ⟨by kernel_rfl⟩
instance : av Tryz.prog 112 := ⟨by kernel_rfl⟩
instance : av Tryz.prog 113 := ⟨by kernel_rfl⟩
instance : av Tryz.prog 114 := ⟨by kernel_rfl⟩
instance : av Tryz.prog 115 := ⟨by kernel_rfl⟩
instance : av Tryz.prog 116 := ⟨by kernel_rfl⟩
instance : av Tryz.prog 117 := ⟨by kernel_rfl⟩
instance : av Tryz.prog 118 := ⟨by kernel_rfl⟩
instance : av Tryz.prog 119 := ⟨by kernel_rfl⟩
instance : av Tryz.prog 120 := ⟨by kernel_rfl⟩
instance : av Tryz.prog 121 := ⟨by kernel_rfl⟩
instance : av Tryz.prog 122 := ⟨by kernel_rfl⟩
instance : av Tryz.prog 123 := ⟨by kernel_rfl⟩
instance : av Tryz.prog 124 := ⟨by kernel_rfl⟩
instance : av Tryz.prog 125 := ⟨by kernel_rfl⟩
instance : av Tryz.prog 126 := ⟨by kernel_rfl⟩
instance : av Tryz.prog 127 := ⟨by kernel_rfl⟩
instance : av Tryz.prog 128 := ⟨by kernel_rfl⟩
instance : av Tryz.prog 129 := ⟨by kernel_rfl⟩
instance : av Tryz.prog 130 := ⟨by kernel_rfl⟩
instance : av Tryz.prog 131 := ⟨by kernel_rfl⟩
instance : av Tryz.prog 132 := ⟨by kernel_rfl⟩
instance : av Tryz.prog 133 := ⟨by kernel_rfl⟩
instance : av Tryz.prog 134 := ⟨by kernel_rfl⟩
instance : av Tryz.prog 135 := ⟨by kernel_rfl⟩
instance : av Tryz.prog 136 := ⟨by kernel_rfl⟩
instance : av Tryz.prog 137 := ⟨by kernel_rfl⟩
instance : av Tryz.prog 138 := ⟨by kernel_rfl⟩
instance : av Tryz.prog 139 := ⟨by kernel_rfl⟩
instance : av Tryz.prog 140 := ⟨by kernel_rfl⟩
instance : av Tryz.prog 141 := ⟨by kernel_rfl⟩
instance : av Tryz.prog 142 := ⟨by kernel_rfl⟩
instance : av Tryz.prog 143 := ⟨by kernel_rfl⟩
instance : av Tryz.prog 144 := ⟨by kernel_rfl⟩
instance : av Tryz.prog 145 := ⟨by kernel_rfl⟩
instance : av Tryz.prog 146 := ⟨by kernel_rfl⟩
instance : av Tryz.prog 147 := ⟨by kernel_rfl⟩
instance : av Tryz.prog 148 := ⟨by kernel_rfl⟩
instance : av Tryz.prog 149 := ⟨by kernel_rfl⟩
instance : av Tryz.prog 150 := ⟨by kernel_rfl⟩
instance : av Tryz.prog 151 := ⟨by kernel_rfl⟩
instance : av Tryz.prog 152 := ⟨by kernel_rfl⟩
instance : av Tryz.prog 153 := ⟨by kernel_rfl⟩
instance : av Tryz.prog 154 := ⟨by kernel_rfl⟩
instance : av Tryz.prog 155 := ⟨by kernel_rfl⟩
instance : av Tryz.prog 156 := ⟨by kernel_rfl⟩
instance : av Tryz.prog 157 := ⟨by kernel_rfl⟩
instance : av Tryz.prog 158 := ⟨by kernel_rfl⟩
instance : av Tryz.prog 159 := ⟨by kernel_rfl⟩
instance : av Tryz.prog 160 := ⟨by kernel_rfl⟩
instance : av Tryz.prog 161 := ⟨by kernel_rfl⟩
instance : av Tryz.prog 162 := ⟨by kernel_rfl⟩
instance : av Tryz.prog 163 := ⟨by kernel_rfl⟩
instance : av Tryz.prog 164 := ⟨by kernel_rfl⟩
instance : av Tryz.prog 165 := ⟨by kernel_rfl⟩
instance : av Tryz.prog 166 := ⟨by kernel_rfl⟩
instance : av Tryz.prog 167 := ⟨by kernel_rfl⟩
instance : av Tryz.prog 168 := ⟨by kernel_rfl⟩
instance : av Tryz.prog 169 := ⟨by kernel_rfl⟩
instance : av Tryz.prog 170 := ⟨by kernel_rfl⟩
instance : av Tryz.prog 171 := ⟨by kernel_rfl⟩
instance : av Tryz.prog 172 := ⟨by kernel_rfl⟩
instance : av Tryz.prog 173 := ⟨by kernel_rfl⟩
instance : av Tryz.prog 174 := ⟨by kernel_rfl⟩
instance : av Tryz.prog 175 := ⟨by kernel_rfl⟩
instance : av Tryz.prog 176 := ⟨by kernel_rfl⟩
instance : av Tryz.prog 177 := ⟨by kernel_rfl⟩
instance : av Tryz.prog 178 := ⟨by kernel_rfl⟩
instance : av Tryz.prog 179 := ⟨by kernel_rfl⟩
instance : av Tryz.prog 180 := ⟨by kernel_rfl⟩
instance : av Tryz.prog 181 := ⟨by kernel_rfl⟩
instance : av Tryz.prog 182 := ⟨by kernel_rfl⟩
instance : av Tryz.prog 183 := ⟨by kernel_rfl⟩
instance : av Tryz.prog 184 := ⟨by kernel_rfl⟩
instance : av Tryz.prog 185 := ⟨by kernel_rfl⟩
instance : av Tryz.prog 186 := ⟨by kernel_rfl⟩
instance : av Tryz.prog 187 := ⟨by kernel_rfl⟩
instance : av Tryz.prog 188 := ⟨by kernel_rfl⟩
instance : av Tryz.prog 189 := ⟨by kernel_rfl⟩
instance : av Tryz.prog 190 := ⟨by kernel_rfl⟩
instance : av Tryz.prog 191 := ⟨by kernel_rfl⟩
instance : av Tryz.prog 192 := ⟨by kernel_rfl⟩
instance : av Tryz.prog 193 := ⟨by kernel_rfl⟩
instance : av Tryz.prog 194 := ⟨by kernel_rfl⟩
instance : av Tryz.prog 195 := ⟨by kernel_rfl⟩
instance : av Tryz.prog 196 := ⟨by kernel_rfl⟩
instance : av Tryz.prog 197 := ⟨by kernel_rfl⟩
instance : av Tryz.prog 198 := ⟨by kernel_rfl⟩
instance : av Tryz.prog 199 := ⟨by kernel_rfl⟩
instance : av Tryz.prog 200 := ⟨by kernel_rfl⟩
instance : av Tryz.prog 201 := ⟨by kernel_rfl⟩
instance : av Tryz.prog 202 := ⟨by kernel_rfl⟩
instance : av Tryz.prog 203 := ⟨by kernel_rfl⟩
instance : av Tryz.prog 204 := ⟨by kernel_rfl⟩
instance : av Tryz.prog 205 := ⟨by kernel_rfl⟩
instance : av Tryz.prog 206 := ⟨by kernel_rfl⟩
instance : av Tryz.prog 207 := ⟨by kernel_rfl⟩
instance : av Tryz.prog 208 := ⟨by kernel_rfl⟩
instance : av Tryz.prog 209 := ⟨by kernel_rfl⟩
instance : av Tryz.prog 210 := ⟨by kernel_rfl⟩
instance : av Tryz.prog 211 := ⟨by kernel_rfl⟩
instance : av Tryz.prog 212 := ⟨by kernel_rfl⟩
instance : av Tryz.prog 213 := ⟨by kernel_rfl⟩
instance : av Tryz.prog 214 := ⟨by kernel_rfl⟩
instance : av Tryz.prog 215 := ⟨by kernel_rfl⟩
instance : av Tryz.prog 216 := ⟨by kernel_rfl⟩
instance : av Tryz.prog 217 := ⟨by kernel_rfl⟩
instance : av Tryz.prog 218 := ⟨by kernel_rfl⟩
instance : av Tryz.prog 219 := ⟨by kernel_rfl⟩
instance : av Tryz.prog 220 := ⟨by kernel_rfl⟩
instance : av Tryz.prog 221 := ⟨by kernel_rfl⟩
instance : av Tryz.prog 222 := ⟨by kernel_rfl⟩
instance : av Tryz.prog 223 := ⟨by kernel_rfl⟩
instance : av Tryz.prog 224 := ⟨by kernel_rfl⟩
instance : av Tryz.prog 225 := ⟨by kernel_rfl⟩
instance : av Tryz.prog 226 := ⟨by kernel_rfl⟩
instance : av Tryz.prog 227 := ⟨by kernel_rfl⟩
instance : av Tryz.prog 228 := ⟨by kernel_rfl⟩
instance : av Tryz.prog 229 := ⟨by kernel_rfl⟩
instance : av Tryz.prog 230 := ⟨by kernel_rfl⟩
instance : av Tryz.prog 231 := ⟨by kernel_rfl⟩
instance : av Tryz.prog 232 := ⟨by kernel_rfl⟩
instance : av Tryz.prog 233 := ⟨by kernel_rfl⟩
instance : av Tryz.prog 234 := ⟨by kernel_rfl⟩
instance : av Tryz.prog 235 := ⟨by kernel_rfl⟩
instance : av Tryz.prog 236 := ⟨by kernel_rfl⟩
instance : av Tryz.prog 237 := ⟨by kernel_rfl⟩
instance : av Tryz.prog 238 := ⟨by kernel_rfl⟩
instance : av Tryz.prog 239 := ⟨by kernel_rfl⟩
instance : av Tryz.prog 240 := ⟨by kernel_rfl⟩
instance : av Tryz.prog 241 := ⟨by kernel_rfl⟩
instance : av Tryz.prog 242 := ⟨by kernel_rfl⟩
instance : av Tryz.prog 243 := ⟨by kernel_rfl⟩
instance : av Tryz.prog 244 := ⟨by kernel_rfl⟩
instance : av Tryz.prog 245 := ⟨by kernel_rfl⟩
instance : av Tryz.prog 246 := ⟨by kernel_rfl⟩
instance : av Tryz.prog 247 := ⟨by kernel_rfl⟩
instance : av Tryz.prog 248 := ⟨by kernel_rfl⟩
instance : av Tryz.prog 249 := ⟨by kernel_rfl⟩
instance : av Tryz.prog 250 := ⟨by kernel_rfl⟩
instance : av Tryz.prog 251 := ⟨by kernel_rfl⟩
instance : av Tryz.prog 252 := ⟨by kernel_rfl⟩
instance : av Tryz.prog 253 := ⟨by kernel_rfl⟩
instance : av Tryz.prog 254 := ⟨by kernel_rfl⟩
instance : av Tryz.prog 255 := ⟨by kernel_rfl⟩
instance : av Tryz.prog 256 := ⟨by kernel_rfl⟩
instance : av Tryz.prog 257 := ⟨by kernel_rfl⟩
instance : av Tryz.prog 258 := ⟨by kernel_rfl⟩
instance : av Tryz.prog 259 := ⟨by kernel_rfl⟩
instance : av Tryz.prog 260 := ⟨by kernel_rfl⟩
instance : av Tryz.prog 261 := ⟨by kernel_rfl⟩
instance : av Tryz.prog 262 := ⟨by kernel_rfl⟩
instance : av Tryz.prog 263 := ⟨by kernel_rfl⟩
instance : av Tryz.prog 264 := ⟨by kernel_rfl⟩
instance : av Tryz.prog 265 := ⟨by kernel_rfl⟩
instance : av Tryz.prog 266 := ⟨by kernel_rfl⟩
instance : av Tryz.prog 267 := ⟨by kernel_rfl⟩
instance : av Tryz.prog 268 := ⟨by kernel_rfl⟩
instance : av Tryz.prog 269 := ⟨by kernel_rfl⟩
instance : av Tryz.prog 270 := ⟨by kernel_rfl⟩
instance : av Tryz.prog 271 := ⟨by kernel_rfl⟩
instance : av Tryz.prog 272 := ⟨by kernel_rfl⟩
instance : av Tryz.prog 273 := ⟨by kernel_rfl⟩
instance : av Tryz.prog 274 := ⟨by kernel_rfl⟩
instance : av Tryz.prog 275 := ⟨by kernel_rfl⟩
instance : av Tryz.prog 276 := ⟨by kernel_rfl⟩
instance : av Tryz.prog 277 := ⟨by kernel_rfl⟩
instance : av Tryz.prog 278 := ⟨by kernel_rfl⟩
instance : av Tryz.prog 279 := ⟨by kernel_rfl⟩
instance : av Tryz.prog 280 := ⟨by kernel_rfl⟩
instance : av Tryz.prog 281 := ⟨by kernel_rfl⟩
instance : av Tryz.prog 282 := ⟨by kernel_rfl⟩
instance : av Tryz.prog 283 := ⟨by kernel_rfl⟩
instance : av Tryz.prog 284 := ⟨by kernel_rfl⟩
instance : av Tryz.prog 285 := ⟨by kernel_rfl⟩
instance : av Tryz.prog 286 := ⟨by kernel_rfl⟩
instance : av Tryz.prog 287 := ⟨by kernel_rfl⟩
instance : av Tryz.prog 290 := ⟨by kernel_rfl⟩
instance : av Tryz.prog 291 := ⟨by kernel_rfl⟩
instance : av Tryz.prog 292 := ⟨by kernel_rfl⟩
instance : av Tryz.prog 293 := ⟨by kernel_rfl⟩
instance : av Tryz.prog 294 := ⟨by kernel_rfl⟩
instance : av Tryz.prog 295 := ⟨by kernel_rfl⟩
instance : av Tryz.prog 296 := ⟨by kernel_rfl⟩
instance : av Tryz.prog 297 := ⟨by kernel_rfl⟩
instance : av Tryz.prog 298 := ⟨by kernel_rfl⟩
instance : av Tryz.prog 300 := ⟨by kernel_rfl⟩
instance : av Tryz.prog 301 := ⟨by kernel_rfl⟩
instance : av Tryz.prog 302 := ⟨by kernel_rfl⟩
instance : av Tryz.prog 303 := ⟨by kernel_rfl⟩
instance : av Tryz.prog 304 := ⟨by kernel_rfl⟩
instance : av Tryz.prog 305 := ⟨by kernel_rfl⟩
end Go.Proofs.YtaapkaefelhfcaaGreatDoor
/- The rules of Steps once more, short to write: what they can find by themselves they look for. Plain lemmas, no program in sight. -/
namespace Go.Proofs.YtaapkaefelhfcaaGreatDoor
open Go.RowKit
section
variable {ro : Mode} {P : Program} {N d : Nat} {ops : Array Oper} {Q : Kq} {ρ : Rf} {w w0 : World} {rest : List Oper} {H : List HE} {ty : TypeId} {pos : String} {af : Array Edge} {x y : Operand} {t u : TypeId}
theorem mI {k : IntKind} {a : Int} (kk : WL ro P N ops Q rest (cL ρ d (.int k a)) w) (hx : ev ρ x = .int k a := by exact cb rfl) (hN : d < N := by decide) : WL ro P N ops Q (⟨some d, .move x, ty, pos, af, none⟩ :: rest) ρ w := fU hx hN kk
theorem aI {k : IntKind} {a : Int} (kk : WL ro P N ops Q rest (cL ρ d (.int k a)) w) (hx : ev ρ x = .int k a := by exact cb rfl) (hN : d < N := by decide) : WL ro P N ops Q (⟨some d, .assign x, ty, pos, af, none⟩ :: rest) ρ w := lF hx hN kk
theorem mB {a : Bool} (kk : WL ro P N ops Q rest (cL ρ d (.bool a)) w) (hx : ev ρ x = .bool a := by exact nK rfl) (hN : d < N := by decide) : WL ro P N ops Q (⟨some d, .move x, ty, pos, af, none⟩ :: rest) ρ w := fU hx hN kk
theorem aB {a : Bool} (kk : WL ro P N ops Q rest (cL ρ d (.bool a)) w) (hx : ev ρ x = .bool a := by exact nK rfl) (hN : d < N := by decide) : WL ro P N ops Q (⟨some d, .assign x, ty, pos, af, none⟩ :: rest) ρ w := lF hx hN kk
theorem mS {a : ByteArray} (kk : WL ro P N ops Q rest (cL ρ d (.string a)) w) (hx : ev ρ x = .string a := by exact yU rfl) (hN : d < N := by decide) : WL ro P N ops Q (⟨some d, .move x, ty, pos, af, none⟩ :: rest) ρ w := fU hx hN kk
theorem aS {a : ByteArray} (kk : WL ro P N ops Q rest (cL ρ d (.string a)) w) (hx : ev ρ x = .string a := by exact yU rfl) (hN : d < N := by decide) : WL ro P N ops Q (⟨some d, .assign x, ty, pos, af, none⟩ :: rest) ρ w := lF hx hN kk
theorem mL {A : Option Addr} {n c : Nat} (kk : WL ro P N ops Q rest (cL ρ d (.slice A n c)) w) (hx : ev ρ x = .slice A n c := by exact AM rfl) (hN : d < N := by decide) : WL ro P N ops Q (⟨some d, .move x, ty, pos, af, none⟩ :: rest) ρ w := fU hx hN kk
theorem aL {A : Option Addr} {n c : Nat} (kk : WL ro P N ops Q rest (cL ρ d (.slice A n c)) w) (hx : ev ρ x = .slice A n c := by exact AM rfl) (hN : d < N := by decide) : WL ro P N ops Q (⟨some d, .assign x, ty, pos, af, none⟩ :: rest) ρ w := lF hx hN kk
theorem mT {l : List Value} (kk : WL ro P N ops Q rest (cL ρ d (.tuple l.toArray)) w) (hx : ev ρ x = .tuple l.toArray := by exact Bu rfl) (hN : d < N := by decide) : WL ro P N ops Q (⟨some d, .move x, ty, pos, af, none⟩ :: rest) ρ w := fU hx hN kk
theorem mP {a : Option Addr} (kk : WL ro P N ops Q rest (cL ρ d (.pointer a)) w) (hx : ev ρ x = .pointer a := by exact rfl) (hN : d < N := by decide) : WL ro P N ops Q (⟨some d, .move x, ty, pos, af, none⟩ :: rest) ρ w := fU hx hN kk
theorem aU {k : IntKind} {a b : Int} {r : Bool} (kk : WL ro P N ops Q rest (cL ρ d (.bool r)) w) (hx : ev ρ x = .int k a := by exact rfl) (hy : ev ρ y = .int k b := by exact rfl) (hr : decide (a < b) = r := by first | exact decide_eq_true (by omega) | exact decide_eq_false (by omega) | exact rfl) (hN : d < N := by decide) : WL ro P N ops Q (⟨some d, .binOp .lss t x y u, ty, pos, af, none⟩ :: rest) ρ w := zx hx hy hN (by rw [hr]; exact kk)
theorem uI {k : IntKind} {a b : Int} {r : Bool} (kk : WL ro P N ops Q rest (cL ρ d (.bool r)) w) (hx : ev ρ x = .int k a := by exact rfl) (hy : ev ρ y = .int k b := by exact rfl) (hr : decide (a ≤ b) = r := by first | exact decide_eq_true (by omega) | exact decide_eq_false (by omega) | exact rfl) (hN : d < N := by decide) : WL ro P N ops Q (⟨some d, .binOp .leq t x y u, ty, pos, af, none⟩ :: rest) ρ w := Ac hx hy hN (by rw [hr]; exact kk)
theorem bY {k : IntKind} {a b : Int} {r : Bool} (kk : WL ro P N ops Q rest (cL ρ d (.bool r)) w) (hx : ev ρ x = .int k a := by exact rfl) (hy : ev ρ y = .int k b := by exact rfl) (hr : decide (b < a) = r := by first | exact decide_eq_true (by omega) | exact decide_eq_false (by omega) | exact rfl) (hN : d < N := by decide) : WL ro P N ops Q (⟨some d, .binOp .gtr t x y u, ty, pos, af, none⟩ :: rest) ρ w := Ab hx hy hN (by rw [hr]; exact kk)
theorem dn {k : IntKind} {a b : Int} {r : Bool} (kk : WL ro P N ops Q rest (cL ρ d (.bool r)) w) (hx : ev ρ x = .int k a := by exact rfl) (hy : ev ρ y = .int k b := by exact rfl) (hr : decide (b ≤ a) = r := by first | exact decide_eq_true (by omega) | exact decide_eq_false (by omega) | exact rfl) (hN : d < N := by decide) : WL ro P N ops Q (⟨some d, .binOp .geq t x y u, ty, pos, af, none⟩ :: rest) ρ w := zu hx hy hN (by rw [hr]; exact kk)
theorem ck {k : IntKind} {a b : Int} {r : Bool} (kk : WL ro P N ops Q rest (cL ρ d (.bool r)) w) (hx : ev ρ x = .int k a := by exact rfl) (hy : ev ρ y = .int k b := by exact rfl) (hr : decide (a = b) = r := by first | exact decide_eq_true (by omega) | exact decide_eq_false (by omega) | exact rfl) (hN : d < N := by decide) : WL ro P N ops Q (⟨some d, .binOp .eql t x y u, ty, pos, af, none⟩ :: rest) ρ w := rb hx hy hN (by rw [hr]; exact kk)
theorem cE {k : IntKind} {a b : Int} {r : Bool} (kk : WL ro P N ops Q rest (cL ρ d (.bool r)) w) (hx : ev ρ x = .int k a := by exact rfl) (hy : ev ρ y = .int k b := by exact rfl) (hr : decide (a ≠ b) = r := by first | exact decide_eq_true (by omega) | exact decide_eq_false (by omega) | exact rfl) (hN : d < N := by decide) : WL ro P N ops Q (⟨some d, .binOp .neq t x y u, ty, pos, af, none⟩ :: rest) ρ w := Ao hx hy hN (by rw [hr]; exact kk)
theorem bL {a b : Int} (kk : WL ro P N ops Q rest (cL ρ d (.int .i64 (a + b))) w) (hx : ev ρ x = .int .i64 a := by exact rfl) (hy : ev ρ y = .int .i64 b := by exact rfl) (h1 : -9223372036854775808 ≤ a + b := by omega) (h2 : a + b ≤ 9223372036854775807 := by omega) (hN : d < N := by decide) : WL ro P N ops Q (⟨some d, .binOp .add t x y u, ty, pos, af, none⟩ :: rest) ρ w := Bk hx hy h1 h2 hN kk
theorem eB {a b : Int} (kk : WL ro P N ops Q rest (cL ρ d (.int .i64 (a - b))) w) (hx : ev ρ x = .int .i64 a := by exact rfl) (hy : ev ρ y = .int .i64 b := by exact rfl) (h1 : -9223372036854775808 ≤ a - b := by omega) (h2 : a - b ≤ 9223372036854775807 := by omega) (hN : d < N := by decide) : WL ro P N ops Q (⟨some d, .binOp .sub t x y u, ty, pos, af, none⟩ :: rest) ρ w := Bt hx hy h1 h2 hN kk
theorem mulC {a b : Int} (kk : WL ro P N ops Q rest (cL ρ d (.int .i64 (a * b))) w) (hx : ev ρ x = .int .i64 a := by exact rfl) (hy : ev ρ y = .int .i64 b := by exact rfl) (h1 : -9223372036854775808 ≤ a * b := by omega) (h2 : a * b ≤ 9223372036854775807 := by omega) (hN : d < N := by decide) : WL ro P N ops Q (⟨some d, .binOp .mul t x y u, ty, pos, af, none⟩ :: rest) ρ w := BF hx hy h1 h2 hN kk
theorem dp {i : Nat} {vs : List Value} {v : Value} (kk : WL ro P N ops Q rest (cL ρ d (v)) w) (hx : ev ρ x = .tuple vs.toArray := by exact rfl) (hv : vs[i]? = some v := by exact rfl) (hN : d < N := by decide) : WL ro P N ops Q (⟨some d, .extract x i, ty, pos, af, none⟩ :: rest) ρ w := xj hx hv hN kk
theorem fi {b : Bool} (kk : WL ro P N ops Q rest (cL ρ d (.bool !b)) w) (hx : ev ρ x = .bool b := by exact rfl) (hN : d < N := by decide) : WL ro P N ops Q (⟨some d, .unOp .not t x, ty, pos, af, none⟩ :: rest) ρ w := Ch hx hN kk
theorem aO {e : TypeId} {A : Option Addr} {n c : Nat} [ht : aF P t (.slice e)] (kk : WL ro P N ops Q rest (cL ρ d (.int .i64 n)) w) (hx : ev ρ x = .slice A n c := by exact rfl) (hN : d < N := by decide) : WL ro P N ops Q (⟨some d, .call ⟨.builtin .len, #[x], #[t]⟩, ty, pos, af, none⟩ :: rest) ρ w := y2 ht.out hx hN kk
theorem bC {s : TypeId} {f b o off : Nat} {ft : TypeId} [hf : dE P s f off ft] (kk : WL ro P N ops Q rest (cL ρ d (.pointer (some ⟨b, o + off, none⟩))) w) (hx : ev ρ x = .pointer (some ⟨b, o, none⟩) := by exact rfl) (hN : d < N := by decide) : WL ro P N ops Q (⟨some d, .fieldAddr s x f, ty, pos, af, none⟩ :: rest) ρ w := tO hf.out hx hN kk
theorem bH {b o n by' : Nat} {zc cs : List Value} {fz : Nat × Nat} {t' : TypeId} {v : Value} (hh : Hp w0 H w) (i : Nat) [ht : aC P t n false by' zc] (kk : WL ro P N ops Q rest (cL ρ d (v)) w) (hx : ev ρ x = .pointer (some ⟨b, o, none⟩) := by exact rfl) (hi : H[i]? = some (.blk b t' cs fz) := by exact rfl) (hv : cs[o]? = some v := by exact rfl) (hN : d < N := by decide) : WL ro P N ops Q (⟨some d, .load t x, ty, pos, af, none⟩ :: rest) ρ w := bh ht.out hx (hh.dY hi hv) hN kk
theorem dh {b o n by' : Nat} {zc cs : List Value} {fz : Nat × Nat} {t' : TypeId} (hh : Hp w0 H w) (i : Nat) (vs : List Value) [ht : aC P t n true by' zc] (kk : WL ro P N ops Q rest (cL ρ d (.agg vs.toArray)) w) (hx : ev ρ x = .pointer (some ⟨b, o, none⟩) := by exact rfl) (hi : H[i]? = some (.blk b t' cs fz) := by exact rfl) (hv : (cs.drop o).take n = vs := by exact rfl) (hl : vs.length = n := by exact rfl) (hN : d < N := by decide) : WL ro P N ops Q (⟨some d, .load t x, ty, pos, af, none⟩ :: rest) ρ w := bQ ht.out hx (hh.au hi hv) hl hN kk
theorem cv {n by' : Nat} {ag : Bool} {zc : List Value} (hh : Hp w0 H w) [ht : aC P t n ag by' zc] (kk : ∀ b w', Hp w0 (.blk b t zc (0, 0) :: H) w' → WL ro P N ops Q rest (cL ρ d (.pointer (some ⟨b, 0, none⟩))) w') (hN : d < N := by decide) : WL ro P N ops Q (⟨some d, .alloc t, ty, pos, af, none⟩ :: rest) ρ w := y7 hh ht.out hN kk
theorem cK {v : Value} (hh : Hp w0 H w) (cs : List Value) (kk : ∀ b w', Hp w0 (.blk b t cs (0, 0) :: H) w' → WL ro P N ops Q rest (cL ρ d (.pointer (some ⟨b, 0, none⟩))) w') (hx : ev ρ x = v := by exact rfl) (hc : v.cells = cs.toArray := by exact rfl) (hN : d < N := by decide) : WL ro P N ops Q (⟨some d, .box t x, ty, pos, af, none⟩ :: rest) ρ w := Bw hh hx hc hN kk
theorem bE {t' : TypeId} {b o n by' : Nat} {ag : Bool} {zc cs : List Value} {fz : Nat × Nat} {v : Value} (hh : Hp w0 H w) (i : Nat) (vs : List Value) [ht : aC P t n ag by' zc] (kk : ∀ w', Hp w0 (H.set i (.blk b t' (cB cs o vs) fz)) w' → WL ro P N ops Q rest ρ w') (hx : ev ρ x = .pointer (some ⟨b, o, none⟩) := by exact rfl) (hi : H[i]? = some (.blk b t' cs fz) := by exact rfl) (hy : ev ρ y = v := by exact rfl) (hc : v.cells = vs.toArray := by exact rfl) (hl : vs.length = n := by exact rfl) (ho : o + n ≤ cs.length := by simp) (h1 : (vs.all Value.oneCell') = true := by exact rfl) : WL ro P N ops Q (⟨none, .store t x y, ty, pos, af, none⟩ :: rest) ρ w := nU hh hx hi hy hc ht.out hl ho h1 kk
theorem ep {n by' : Nat} {parts : Array (Nat × Operand)} {ps : List (Nat × Value)} {zc : List Value} {pl : List (Nat × Nat)} (cs : List Value) [hte : aC P t n true by' zc] [hpl : jk P t pl] (kk : WL ro P N ops Q rest (cL ρ d (.agg cs.toArray)) w) (hp : pE ρ parts.toList = ps := by exact rfl) (hf : iP (pl[·]?) zc ps = some cs := by exact rfl) (hN : d < N := by decide) : WL ro P N ops Q (⟨some d, .build t parts, ty, pos, af, none⟩ :: rest) ρ w := zw hte.out hpl.out hp hf hN kk
theorem cR {c a b : Operand} {v : Bool} (kk : WL ro P N ops Q rest (cL ρ d (.bool v)) w) (hc : ev ρ c = .bool true := by exact rfl) (hx : ev ρ a = .bool v := by exact nK rfl) (hN : d < N := by decide) : WL ro P N ops Q (⟨some d, .pick c a b, ty, pos, af, none⟩ :: rest) ρ w := yH hc hx hN kk
theorem cQ {c a b : Operand} {v : Bool} (kk : WL ro P N ops Q rest (cL ρ d (.bool v)) w) (hc : ev ρ c = .bool false := by exact rfl) (hx : ev ρ b = .bool v := by exact nK rfl) (hN : d < N := by decide) : WL ro P N ops Q (⟨some d, .pick c a b, ty, pos, af, none⟩ :: rest) ρ w := xU hc hx hN kk
theorem gS {op : Op} {j dj : Nat} {b c : Bool} (kk : WL ro P N ops Q rest (cL ρ d undef) w) (hN : d < N := by decide) (hj : (ops[j]?).bind (·.dst) = some dj := by exact rfl) (hv : ρ dj = .bool c := by exact rfl) (hb : c ≠ b := by decide) : WL ro P N ops Q (⟨some d, op, ty, pos, af, some (j, b)⟩ :: rest) ρ w := cm hN hj hv hb kk
theorem gV {op : Op} {j dj : Nat} {b : Bool} (kk : WL ro P N ops Q rest (cL ρ d undef) w) (hN : d < N := by decide) (hj : (ops[j]?).bind (·.dst) = some dj := by exact rfl) (hb : nb (ρ dj) b = true := by exact rfl) : WL ro P N ops Q (⟨some d, op, ty, pos, af, some (j, b)⟩ :: rest) ρ w := gj hN hj hb kk
theorem gT {dd : Option Nat} {op : Op} {j dj : Nat} {b : Bool} (kk : WL ro P N ops Q (⟨dd, op, ty, pos, af, none⟩ :: rest) ρ w) (hj : (ops[j]?).bind (·.dst) = some dj := by exact rfl) (hv : ρ dj = .bool b := by exact rfl) : WL ro P N ops Q (⟨dd, op, ty, pos, af, some (j, b)⟩ :: rest) ρ w := bu hj hv kk
theorem bG {f : FuncId} {args : Array Operand} {ts : Array TypeId} {vs : List Value} {v : Value} (hh : Hp w0 H w) (hc : Calls P f vs.toArray w fun e w' => e = .returned v ∧ Below w.heap.size w w') [hf : av P f] (ha : pM ρ args.toList = vs) (kk : ∀ w', Hp w0 H w' → WL ro P N ops Q rest (cL ρ d v) w') (hN : d < N := by decide) : WL ro P N ops Q (⟨some d, .call ⟨.value (.func f), args, ts⟩, ty, pos, af, none⟩ :: rest) ρ w := aV hc hf.out ha hN fun _ _ hq => ⟨_, hq.1, kk _ (hh.ext hq.2)⟩
theorem sr {id : Nat} {y : Code} {l : List Oper} (h : WL ro P N l.toArray (eo (fun ρ w => WC ro P N y Q ρ w) Q) l ρ w) : WC ro P N (.seq (.region id l.toArray false) y) Q ρ w := ah (aq h)
theorem cT {c : Operand} {x y : Code} (h : WC ro P N x Q ρ w) (hc : ev ρ c = .bool true := by exact rfl) : WC ro P N (.cond c x y) Q ρ w := xe hc h
theorem cF {c : Operand} {x y : Code} (h : WC ro P N y Q ρ w) (hc : ev ρ c = .bool false := by exact rfl) : WC ro P N (.cond c x y) Q ρ w := wY hc h
theorem cA {P : Program} {fn : Func} {R : Ending → World → Prop} {ρ : Rf} {w : World} {e : Exit} {t0 : Tmp} {v0 : Value} (h : R (.returned v0) w) (hr : fn.results = #[.tmp t0] := by exact rfl) (h0 : ρ t0 = v0 := by first | exact cf rfl | exact fO rfl | exact p5 rfl | exact wO rfl | exact v_agg rfl | exact rfl) (he : e = .normal ∨ e = .ret := by first | exact .inr rfl | exact .inl rfl) : kN P fn R e ρ w := CS he hr h0 h
theorem q5 {P : Program} {fn : Func} {R : Ending → World → Prop} {ρ : Rf} {w : World} {e : Exit} {t0 t1 : Tmp} {v0 v1 : Value} (h : R (.returned (.tuple #[v0, v1])) w) (hr : fn.results = #[.tmp t0, .tmp t1] := by exact rfl) (h0 : ρ t0 = v0 := by first | exact cf rfl | exact fO rfl | exact p5 rfl | exact wO rfl | exact v_agg rfl | exact rfl) (h1 : ρ t1 = v1 := by first | exact cf rfl | exact fO rfl | exact p5 rfl | exact wO rfl | exact v_agg rfl | exact rfl) (he : e = .normal ∨ e = .ret := by first | exact .inr rfl | exact .inl rfl) : kN P fn R e ρ w := CG he hr h0 h1 h
theorem C8 {P : Program} {fn : Func} {R : Ending → World → Prop} {ρ : Rf} {w : World} {e : Exit} {t0 t1 t2 : Tmp} {v0 v1 v2 : Value} (h : R (.returned (.tuple #[v0, v1, v2])) w) (hr : fn.results = #[.tmp t0, .tmp t1, .tmp t2] := by exact rfl) (h0 : ρ t0 = v0 := by first | exact cf rfl | exact fO rfl | exact p5 rfl | exact wO rfl | exact v_agg rfl | exact rfl) (h1 : ρ t1 = v1 := by first | exact cf rfl | exact fO rfl | exact p5 rfl | exact wO rfl | exact v_agg rfl | exact rfl) (h2 : ρ t2 = v2 := by first | exact cf rfl | exact fO rfl | exact p5 rfl | exact wO rfl | exact v_agg rfl | exact rfl) (he : e = .normal ∨ e = .ret := by first | exact .inr rfl | exact .inl rfl) : kN P fn R e ρ w := CD he hr h0 h1 h2 h
theorem gI {P : Program} {fn : Func} {R : Ending → World → Prop} {ρ : Rf} {w : World} {e : Exit} {r0 : ResultVar} {v0 : Value} (h1 : gr P ρ w [r0] [v0]) (h : R (.returned v0) w) (hr : fn.results = #[r0] := by exact rfl) (he : e = .normal ∨ e = .ret := by first | exact .inr rfl | exact .inl rfl) : kN P fn R e ρ w := Cc he hr h1 h
theorem gL {P : Program} {fn : Func} {R : Ending → World → Prop} {ρ : Rf} {w : World} {e : Exit} {r0 r1 : ResultVar} {v0 v1 : Value} (h1 : gr P ρ w [r0, r1] [v0, v1]) (h : R (.returned (.tuple #[v0, v1])) w) (hr : fn.results = #[r0, r1] := by exact rfl) (he : e = .normal ∨ e = .ret := by first | exact .inr rfl | exact .inl rfl) : kN P fn R e ρ w := Cd he hr h1 h
theorem ze {P : Program} {fn : Func} {R : Ending → World → Prop} {ρ : Rf} {w : World} {e : Exit} {r0 r1 r2 : ResultVar} {v0 v1 v2 : Value} (h1 : gr P ρ w [r0, r1, r2] [v0, v1, v2]) (h : R (.returned (.tuple #[v0, v1, v2])) w) (hr : fn.results = #[r0, r1, r2] := by exact rfl) (he : e = .normal ∨ e = .ret := by first | exact .inr rfl | exact .inl rfl) : kN P fn R e ρ w := Cf he hr h1 h
end
class TS (P : Program) (t : TypeId) (n : outParam Nat) : Prop where out : (P.info? t).map (·.size) = some n
instance {P : Program} {t n b : Nat} {ag : Bool} {zc : List Value} [aC P t n ag b zc] : TS P t n := ⟨aC.size⟩
end Go.Proofs.YtaapkaefelhfcaaGreatDoor
