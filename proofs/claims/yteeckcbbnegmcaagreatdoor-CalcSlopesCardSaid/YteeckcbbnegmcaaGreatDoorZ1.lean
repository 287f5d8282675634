/- Lemmas for calcSlopes, part 1. -/
import Derived.KernelRfl
import Derived.Test.YteeckcbbnegmcaaGreatDoorRows
import Derived.WalkKit
import Derived.ProofKit
import Derived.OpenShut
import Derived.Carry
import Derived.WalkLawsBesides
import Derived.Below
import Derived.Laws.OwnMore
import Derived.Laws.Rows
import Derived.RegionTactic
import Derived.ControlIn
import Derived.TacticsIn
import Derived.AtR
import Derived.Deep.AppendLies
import Derived.Maps.AppendAt
import Derived.OwnWalk
import Derived.Test.YteeckcbbnegmcaaGreatDoorProg
/- From a walk to a law's row: the arguments read behind the call as they did before. Plain lemmas. -/
namespace Go.Proofs.YteeckcbbnegmcaaGreatDoor
open Go.ChangeShapes Go.WideShapes Go.ChangeAt Go.RowKit
theorem Dq {p : Prop} (h : p := by omega) : p := h
theorem Dr {p : Prop} (h : p := by decide) : p := h
theorem Dt {p : Prop} (h : p := by kernel_rfl) : p := h
section
variable {H : Type} {enc : TypeId × Value → H} {P : Program}
theorem kr (hl : laidOutB P = true) {W W' : World} (hb : Below W.heap.size W W') (sp : Nat → Bool) : ∀ (ts : List TypeId) (vs : List Value) (ds : List (DataW H)) (ps : List MemPlace), (∀ t ∈ ts, P.readableRec t = true ∧ t < P.types.size) →
  (∀ x ∈ ps, x.block < W.heap.size) → (∀ x ∈ ps, sp x.block = true) → DataW.TrodAll enc P W 0 (fun _ => true) true ts vs ds ps → DataW.TrodAll enc P W' 0 sp true ts vs ds ps
 | [], vs, ds, ps, _, _, _, h => by
  obtain ⟨rfl, rfl, rfl⟩ := trodAll_nil h;exact trodAll_mk0
 | t :: ts, vs, ds, ps, hr, hlt, hsp, h => by
  obtain ⟨v, vs', d, ds', p, q, rfl, rfl, rfl, h0, r0⟩ := trodAll_cons h;refine trodAll_cons_mk (WideElems.Trod_stays hl (hr t List.mem_cons_self).1 (hr t List.mem_cons_self).2 h0 (fun x hx => hb.same (hlt x (List.mem_append_left _ hx))) (fun x hx => hsp x (List.mem_append_left _ hx)))
   (kr hl hb sp ts vs' ds' q (fun t ht => hr t (List.mem_cons_of_mem _ ht)) (fun x hx => hlt x (List.mem_append_right _ hx)) (fun x hx => hsp x (List.mem_append_right _ hx)) r0)
theorem yq {f : Func} {s : ChangeSpec} {W W' : World} {args : Array Value} {ds : List (DataW H)} {before : List MemPlace} {tb : TypeId}
  (hW : DataW.Whole enc P f.params.toList s.vars false W args.toList ds [] before) (hv : s.vars = []) (hl : laidOutB P = true) (hr : ∀ t ∈ f.params.toList, P.readableRec t = true ∧ t < P.types.size)
  (hres : f.resultTypes = #[tb]) (hbool : P.underlying tb = some .bool) (hs1 : (s.fn H (ds ++ [])).results = [.lit (.bool true)]) (hs2 : (s.fn H (ds ++ [])).args = ds) (hs3 : (s.fn H (ds ++ [])).vars = []) (hb : Below W.heap.size W W') :
  s.post enc P f false true false false W args (.bool true) W' := by
 have hlt : ∀ p ∈ before, p.block < W.heap.size := fun p hp => by simpa using hW.lt p hp
 have hold : ∀ p ∈ before, (fun b => decide (b < W.heap.size)) p.block = true := fun p hp => by simpa using hlt p hp
 have hW0 := hW;obtain ⟨pa, pv, hA, hV, hps, hz, hn⟩ := hW0;rw [hv] at hV;obtain ⟨_, rfl⟩ := trodVars_none hV;have hbp : before = pa := by rw [hps, List.append_nil]
 subst hbp;have hA' : ∀ sp : Nat → Bool, (∀ p ∈ before, sp p.block = true) → DataW.TrodAll enc P W' 0 sp true f.params.toList args.toList (s.fn H (ds ++ [])).args before := fun sp hsp => by
  rw [hs2];exact kr hl hb sp _ _ _ _ hr hlt hsp hA
 have hV' : ∀ sp : Nat → Bool, DataW.TrodVars enc P W' sp s.vars (s.fn H (ds ++ [])).vars [] := fun sp => by
  rw [hv, hs3]; rfl
 have hR : ∀ (b : Nat) (sp : Nat → Bool) (hd : Bool), DataW.TrodAll enc P W' b sp hd f.resultTypes.toList ((Value.bool true).resultList f.resultTypes.size) (s.fn H (ds ++ [])).results [] := fun b sp hd => by
  rw [hres, hs1];exact trodAll_cons_mk (shut_bool hbool _) trodAll_mk0
 refine ⟨ds, [], before, [], before, [], hW, hR _ _ _, hA' _ hold, hV' _, World.keptBut_mono (fun p hp => ⟨hp, ?_⟩) (hb.frame (· ∈ before)), fun _ => ?_⟩
 ·exact .inr (.inl hp)
 ·refine ⟨ok_one hres rfl (okWide_bool_mk hbool _), _, _, ([] ++ before) ++ [], ⟨[] ++ before, [], trodAll_append (hA' _ (fun _ _ => rfl)) (hR _ _ _), hV' _, rfl, ?_, ?_⟩, ?_⟩
  ·intro b off hp;have hp2 := hz b off (by simpa using hp);rw [hb.frozen (hlt _ (by simpa using hp))];exact hp2
  ·intro ha
   cases ha
  ·intro p hp _;simpa using hp
end
end Go.Proofs.YteeckcbbnegmcaaGreatDoor
/- Several texts in one: Vc, Ops, Mem, Mem2, Mem3, OpsU, Steps. -/
namespace Go.Proofs.YteeckcbbnegmcaaGreatDoor
open Go.RowKit
abbrev Rf := Nat → Value
def cx (ρ : Rf) (d : Nat) (v : Value) : Rf := fun i => bif Nat.beq i d then v else ρ i
def ev (ρ : Rf) : Operand → Value
 | .tmp t => ρ t
 | .const v => v
 | .global g => .pointer (some ⟨g, 0, none⟩)
 | .func f => .func (.func f) #[] #[]
structure fi (N : Nat) (D : List Deferred) (a : Act) (ρ : Rf) : Prop where
 nd : a.defers = D
 sz : a.tmps.size = N
 at_ : ∀ i, a.tmps.getD i undef = ρ i
abbrev Fits (N : Nat) (a : Act) (ρ : Rf) : Prop := fi N [] a ρ
theorem fi.eval {N : Nat} {D : List Deferred} {a : Act} {ρ : Rf} (h : fi N D a ρ) : a.eval = ev ρ := by
 funext x
 cases x with
 | tmp t => exact h.at_ t
 | _ => rfl
theorem lK (ρ : Rf) (d : Nat) (v : Value) : cx ρ d v d = v := by simp [cx]
theorem gm (ρ : Rf) {d i : Nat} (h : i ≠ d) (v : Value) : cx ρ d v i = ρ i := by
 have hb : Nat.beq i d = false := by
  cases hb : Nat.beq i d
  ·rfl
  ·exact absurd (Nat.eq_of_beq_eq_true hb) h
 simp only [cx, hb, cond_false]
theorem fi.put {N : Nat} {D : List Deferred} {a : Act} {ρ : Rf} (h : fi N D a ρ) {d : Nat} (hd : d < N) (v : Value) : fi N D (a.put (some d) v) (cx ρ d v) := by
 refine ⟨h.nd, by simp [Act.put, h.sz], fun i => ?_⟩;by_cases hi : i = d
 ·subst hi;rw [lK];simp [Act.put, h.sz, hd]
 ·rw [gm ρ hi, ← h.at_ i];have : d ≠ i := fun e => hi e.symm;simp [Act.put, Array.getElem?_setIfInBounds_ne this]
abbrev Kq := Exit → Rf → World → Prop
def eO (N : Nat) (D : List Deferred) (Q : Kq) : Exit → Act → World → Prop := fun e a w => ∃ ρ, fi N D a ρ ∧ Q e ρ w
abbrev lift (N : Nat) (Q : Kq) : Exit → Act → World → Prop := eO N [] Q
structure Mode where
 round : Option Nat := none
 D : List Deferred := []
 any : Bool := false
abbrev Mode.plain : Mode := {}
def FW (ro : Option Nat) : Fence := { Fence.wide with round := ro }
structure WC (ro : Mode) (P : Program) (N : Nat) (c : Code) (Q : Kq) (ρ : Rf) (w : World) : Prop where
 jt : ro.any = false → ∀ a, fi N ro.D a ρ → c.wp P (eO N ro.D Q) a w
 ko : ∀ a, fi N ro.D a ρ → ∀ n, c.wpIn (FW ro.round) n P (eO N ro.D Q) a w
structure WL (ro : Mode) (P : Program) (N : Nat) (ops : Array Oper) (Q : Kq) (l : List Oper) (ρ : Rf) (w : World) : Prop where
 jt : ro.any = false → ∀ a, fi N ro.D a ρ → wpList P ops (eO N ro.D Q) l a w
 ko : ∀ a, fi N ro.D a ρ → ∀ n, wpListIn (FW ro.round) n P ops (eO N ro.D Q) l a w
def dQ (next : Rf → World → Prop) (Q : Kq) : Kq
 | .normal, ρ, w => next ρ w
 | e, ρ, w => Q e ρ w
def mj (id : Nat) (Q : Kq) : Kq
 | .exit id', ρ, w => if id' = id then Q .normal ρ w else Q (.exit id') ρ w
 | e, ρ, w => Q e ρ w
section code
variable {ro : Mode} {P : Program} {N : Nat} {Q : Kq} {ρ : Rf} {w : World}
theorem WC.lJ {D : List Deferred} {c : Code} (h : ∀ a, fi N D a ρ → c.wp P (eO N D Q) a w) : WC ⟨none, D, false⟩ P N c Q ρ w := ⟨fun _ => h, fun a hf _ => wpIn_wide.2 (h a hf)⟩
theorem WC.out {D : List Deferred} {c : Code} (h : WC ⟨none, D, false⟩ P N c Q ρ w) : ∀ a, fi N D a ρ → c.wp P (eO N D Q) a w := h.jt rfl
theorem WL.out {D : List Deferred} {ops : Array Oper} {l : List Oper} (h : WL ⟨none, D, false⟩ P N ops Q l ρ w) : ∀ a, fi N D a ρ → wpList P ops (eO N D Q) l a w := h.jt rfl
theorem qJ {D : List Deferred} {Q Q' : Kq} (h : ∀ e ρ w, Q e ρ w → Q' e ρ w) (e : Exit) (a : Act) (w : World) : eO N D Q e a w → eO N D Q' e a w :=
 fun ⟨ρ, hf, hq⟩ => ⟨ρ, hf, h _ _ _ hq⟩
theorem WC.mono {c : Code} {Q' : Kq} (h : WC ro P N c Q ρ w) (hq : ∀ e ρ w, Q e ρ w → Q' e ρ w) : WC ro P N c Q' ρ w :=
 ⟨fun hm a hf => wp_mono (h.jt hm a hf) (qJ hq), fun a hf n => wpIn_mono (h.ko a hf n) (qJ hq)⟩
theorem ah {x y : Code} (h : WC ro P N x (dQ (fun ρ w => WC ro P N y Q ρ w) Q) ρ w) : WC ro P N (.seq x y) Q ρ w :=
 ⟨fun hm a hf => wp_seq (wp_mono (h.jt hm a hf) fun e a' w' ⟨ρ', hf', hq⟩ => by
  cases e with
  | normal => exact hq.jt hm a' hf'
  | _ => exact ⟨ρ', hf', hq⟩),
 fun a hf n => wpIn_seq (wpIn_mono (h.ko a hf n) fun e a' w' ⟨ρ', hf', hq⟩ => by
  cases e with
  | normal => exact hq.ko a' hf' n
  | _ => exact ⟨ρ', hf', hq⟩)⟩
theorem ak (h : Q .normal ρ w) : WC ro P N .skip Q ρ w := ⟨fun _ _ hf => wp_skip ⟨ρ, hf, h⟩, fun _ hf _ => wpIn_skip ⟨ρ, hf, h⟩⟩
theorem al (h : Q .ret ρ w) : WC ro P N .ret Q ρ w := ⟨fun _ _ hf => wp_ret ⟨ρ, hf, h⟩, fun _ hf _ => wpIn_ret ⟨ρ, hf, h⟩⟩
theorem aV {id : Nat} (h : Q (.exit id) ρ w) : WC ro P N (.exit id) Q ρ w := ⟨fun _ _ hf => wp_exit ⟨ρ, hf, h⟩, fun _ hf _ => wpIn_exit ⟨ρ, hf, h⟩⟩
theorem ao {id : Nat} {c : Code} (h : WC ro P N c (mj id Q) ρ w) : WC ro P N (.block id c) Q ρ w :=
 have key : ∀ (D : List Deferred) e a' w', eO N D (mj id Q) e a' w' → Exit.inBlock id (eO N D Q) e a' w' := fun D e a' w' ⟨ρ', hf', hq⟩ => by
  cases e with
  | exit id' =>
   by_cases hid : id' = id
   ·simp only [mj, hid, if_true] at hq;simp only [Exit.inBlock, hid, if_true];exact ⟨ρ', hf', hq⟩
   ·simp only [mj, hid, if_false] at hq;simp only [Exit.inBlock, hid, if_false];exact ⟨ρ', hf', hq⟩
  | _ => exact ⟨ρ', hf', hq⟩
 ⟨fun hm a hf => wp_block (wp_mono (h.jt hm a hf) (key _)), fun a hf n => wpIn_block (wpIn_mono (h.ko a hf n) (key _))⟩
theorem wX {c : Operand} {x y : Code} (hc : ev ρ c = .bool true) (h : WC ro P N x Q ρ w) : WC ro P N (.cond c x y) Q ρ w :=
 ⟨fun hm a hf => wp_cond_true (by rw [hf.eval]; exact hc) (h.jt hm a hf), fun a hf n => wpIn_cond_true (by rw [hf.eval]; exact hc) (h.ko a hf n)⟩
theorem wh {c : Operand} {x y : Code} (hc : ev ρ c = .bool false) (h : WC ro P N y Q ρ w) : WC ro P N (.cond c x y) Q ρ w :=
 ⟨fun hm a hf => wp_cond_false (by rw [hf.eval]; exact hc) (h.jt hm a hf), fun a hf n => wpIn_cond_false (by rw [hf.eval]; exact hc) (h.ko a hf n)⟩
theorem ar {id : Nat} {l : List Oper} (h : WL ro P N l.toArray Q l ρ w) : WC ro P N (.region id l.toArray false) Q ρ w :=
 ⟨fun hm a hf => wp_region_lit (h.jt hm a hf), fun a hf n => wpIn_region_lit (h.ko a hf n)⟩
theorem ai {next : Rf → World → Prop} (h : next ρ w) : dQ next Q .normal ρ w := h
theorem aH {next : Rf → World → Prop} (h : Q .ret ρ w) : dQ next Q .ret ρ w := h
theorem aA {next : Rf → World → Prop} {id : Nat} (h : Q (.exit id) ρ w) : dQ next Q (.exit id) ρ w := h
theorem aX {id : Nat} (h : Q .normal ρ w) : mj id Q .normal ρ w := h
theorem bT {id : Nat} (h : Q .ret ρ w) : mj id Q .ret ρ w := h
theorem a8 {id : Nat} (h : Q .normal ρ w) : mj id Q (.exit id) ρ w := by simpa [mj] using h
def mask (mods : List Nat) (ρ' ρ : Rf) : Rf := fun i => bif mods.contains i then ρ' i else ρ i
def gH (mods : List Nat) (ρ1 ρ : Rf) : Prop := ∀ i, mods.contains i = false → ρ1 i = ρ i
theorem ax (mods : List Nat) (ρ' ρ : Rf) : gH mods (mask mods ρ' ρ) ρ := fun i hi => by simp only [mask, hi, cond_false]
theorem az {mods : List Nat} {ρ1 ρ : Rf} {d : Nat} {v : Value} (hd : mods.contains d = true) (h : gH mods ρ1 ρ) : gH mods (cx ρ1 d v) ρ := fun i hi => by
 rw [gm ρ1 (fun e => by rw [e, hd] at hi; cases hi)];exact h i hi
theorem au {mods mods2 : List Nat} {ρ' ρ1 ρ : Rf} (hm : (mods2.all fun i => mods.contains i) = true) (h : gH mods ρ1 ρ) : gH mods (mask mods2 ρ' ρ1) ρ := fun i hi => by
 have h2 : mods2.contains i = false := by
  cases hc : mods2.contains i with
  | false => rfl
  | true =>
   have := List.all_eq_true.1 hm i (by simpa using hc);rw [this] at hi; cases hi
 simp only [mask, h2, cond_false];exact h i hi
theorem Du {p : Prop} (h : p := by repeat (first | exact ax _ _ _ | refine az rfl ?_ | refine au rfl ?_)) : p := h
theorem Dv {p : Prop} (h : p := by (repeat (first | exact ax _ _ _ | refine az rfl ?_ | refine au rfl ?_)); exact fun _ _ => rfl) : p := h
theorem gU {mods : List Nat} {ρ1 ρ : Rf} (h : gH mods ρ1 ρ) : mask mods ρ1 ρ = ρ1 := by
 funext i;simp only [mask]
 cases hc : mods.contains i with
 | true => rfl
 | false => simpa using (h i hc).symm
theorem g7 (ρ : Rf) (d : Nat) : cx ρ d (ρ d) = ρ := by
 funext i;by_cases h : i = d
 ·subst h; rw [lK]
 ·rw [gm ρ h]
theorem nJ {c : Code} (I : Rf → World → Prop) (μ : Rf → World → Nat) (h0 : I ρ w)
  (round : ∀ ρ w, I ρ w → WC ro P N c (dQ (fun ρ' w' => I ρ' w' ∧ μ ρ' w' < μ ρ w) Q) ρ w) : WC ro P N (.loop c) Q ρ w := by
 refine ⟨fun hm a hf => ?_, fun a hf n => ?_⟩
 ·refine wp_loop (fun a w => ∃ ρ, fi N ro.D a ρ ∧ I ρ w) (fun a w => μ (fun i => a.tmps.getD i undef) w) ⟨ρ, hf, h0⟩ ?_;rintro a w ⟨ρ, hf, hi⟩;refine wp_mono ((round ρ w hi).jt hm a hf) ?_;rintro e a' w' ⟨ρ', hf', hq⟩;have e1 : (fun i => a.tmps.getD i undef) = ρ := funext hf.at_;have e2 : (fun i => a'.tmps.getD i undef) = ρ' := funext hf'.at_
  cases e with
  | normal => exact ⟨⟨ρ', hf', hq.1⟩, by rw [e1, e2]; exact hq.2⟩
  | _ => exact ⟨ρ', hf', hq⟩
 ·refine wpIn_loop (fun a w => ∃ ρ, fi N ro.D a ρ ∧ I ρ w) (fun a w => μ (fun i => a.tmps.getD i undef) w) ⟨ρ, hf, h0⟩ ?_;rintro a w ⟨ρ, hf, hi⟩;refine wpIn_mono ((round ρ w hi).ko a hf n) ?_;rintro e a' w' ⟨ρ', hf', hq⟩;have e1 : (fun i => a.tmps.getD i undef) = ρ := funext hf.at_;have e2 : (fun i => a'.tmps.getD i undef) = ρ' := funext hf'.at_
  cases e with
  | normal => exact ⟨⟨ρ', hf', hq.1⟩, by rw [e1, e2]; exact hq.2⟩
  | _ => exact ⟨ρ', hf', hq⟩
theorem oT {c : Code} (mods : List Nat) (I : World → Prop) (μ : World → Nat) (h0 : I  w)
  (round : ∀ ρ' w', I  w' → WC ro P N c (dQ (fun ρ2 w2 => I  w2 ∧ μ  w2 < μ  w' ∧ gH mods ρ2 ρ) Q) (mask mods ρ' ρ) w') : WC ro P N (.loop c) Q ρ w :=
 nJ (fun ρ1 w1 => I  w1 ∧ gH mods ρ1 ρ) (fun ρ1 w1 => μ  w1) ⟨h0, fun _ _ => rfl⟩ fun ρ1 w1 ⟨hi, ha⟩ => by
  have h := round ρ1  w1 hi;rw [gU ha] at h;exact h.mono fun e ρ2 w2 hq => by
   cases e with
   | normal => exact ⟨⟨hq.1, hq.2.2⟩, hq.2.1⟩
   | _ => exact hq
theorem bF {c : Code} (mods : List Nat) (s0 : Nat) (I : Value → World → Prop) (μ : Value → World → Nat) (h0 : I (ρ s0) w)
  (round : ∀ ρ' v0 w', I v0 w' → WC ro P N c (dQ (fun ρ2 w2 => I (ρ2 s0) w2 ∧ μ (ρ2 s0) w2 < μ v0 w' ∧ gH mods ρ2 ρ) Q) (cx (mask mods ρ' ρ) s0 v0) w') : WC ro P N (.loop c) Q ρ w :=
 nJ (fun ρ1 w1 => I (ρ1 s0) w1 ∧ gH mods ρ1 ρ) (fun ρ1 w1 => μ (ρ1 s0) w1) ⟨h0, fun _ _ => rfl⟩ fun ρ1 w1 ⟨hi, ha⟩ => by
  have h := round ρ1 (ρ1 s0) w1 hi;rw [gU ha, g7] at h;exact h.mono fun e ρ2 w2 hq => by
   cases e with
   | normal => exact ⟨⟨hq.1, hq.2.2⟩, hq.2.1⟩
   | _ => exact hq
theorem de {c : Code} (mods : List Nat) (s0 s1 : Nat) (I : Value → Value → World → Prop) (μ : Value → Value → World → Nat) (h0 : I (ρ s0) (ρ s1) w)
  (round : ∀ ρ' v0 v1 w', I v0 v1 w' → WC ro P N c (dQ (fun ρ2 w2 => I (ρ2 s0) (ρ2 s1) w2 ∧ μ (ρ2 s0) (ρ2 s1) w2 < μ v0 v1 w' ∧ gH mods ρ2 ρ) Q) (cx (cx (mask mods ρ' ρ) s0 v0) s1 v1) w') : WC ro P N (.loop c) Q ρ w :=
 nJ (fun ρ1 w1 => I (ρ1 s0) (ρ1 s1) w1 ∧ gH mods ρ1 ρ) (fun ρ1 w1 => μ (ρ1 s0) (ρ1 s1) w1) ⟨h0, fun _ _ => rfl⟩ fun ρ1 w1 ⟨hi, ha⟩ => by
  have h := round ρ1 (ρ1 s0) (ρ1 s1) w1 hi;rw [gU ha, g7, g7] at h;exact h.mono fun e ρ2 w2 hq => by
   cases e with
   | normal => exact ⟨⟨hq.1, hq.2.2⟩, hq.2.1⟩
   | _ => exact hq
theorem tA {c : Code} (mods : List Nat) (s0 s1 s2 : Nat) (I : Value → Value → Value → World → Prop) (μ : Value → Value → Value → World → Nat) (h0 : I (ρ s0) (ρ s1) (ρ s2) w)
  (round : ∀ ρ' v0 v1 v2 w', I v0 v1 v2 w' → WC ro P N c (dQ (fun ρ2 w2 => I (ρ2 s0) (ρ2 s1) (ρ2 s2) w2 ∧ μ (ρ2 s0) (ρ2 s1) (ρ2 s2) w2 < μ v0 v1 v2 w' ∧ gH mods ρ2 ρ) Q) (cx (cx (cx (mask mods ρ' ρ) s0 v0) s1 v1) s2 v2) w') : WC ro P N (.loop c) Q ρ w :=
 nJ (fun ρ1 w1 => I (ρ1 s0) (ρ1 s1) (ρ1 s2) w1 ∧ gH mods ρ1 ρ) (fun ρ1 w1 => μ (ρ1 s0) (ρ1 s1) (ρ1 s2) w1) ⟨h0, fun _ _ => rfl⟩ fun ρ1 w1 ⟨hi, ha⟩ => by
  have h := round ρ1 (ρ1 s0) (ρ1 s1) (ρ1 s2) w1 hi;rw [gU ha, g7, g7, g7] at h;exact h.mono fun e ρ2 w2 hq => by
   cases e with
   | normal => exact ⟨⟨hq.1, hq.2.2⟩, hq.2.1⟩
   | _ => exact hq
end code
inductive yb (P : Program) (ρ : Rf) (w : World) : ResultVar → Value → Prop
 | tmp (t : Tmp) {v : Value} (h : ρ t = v) : yb P ρ w (.tmp t) v
 | cell (p : Tmp) (t : TypeId) {a : Addr} {v : Value} (hp : ρ p = .pointer (some a)) (h : (loadVar t a).run P w = .ok v w) : yb P ρ w (.cell p t) v
def fU (P : Program) (ρ : Rf) (w : World) : List ResultVar → List Value → Prop
 | [], [] => True
 | r :: rs, v :: vs => yb P ρ w r v ∧ fU P ρ w rs vs
 | _, _ => False
def so : List Value → Value
 | [v] => v
 | vs => .tuple vs.toArray
def kj (P : Program) (fn : Func) (R : Ending → World → Prop) : Kq := fun e ρ w =>
 (e = .normal ∨ e = .ret) ∧ ∃ v, (∀ tmps : Array Value, (∀ i, tmps.getD i undef = ρ i) → (results fn tmps).run P w = .ok v w) ∧ R (.returned v) w
theorem u4 {P : Program} {ρ : Rf} {w : World} {f : ResultVar → Sem Value} (h1 : ∀ t, (f (.tmp t)).run P w = .ok (ρ t) w)
  (h2 : ∀ p t a v, ρ p = .pointer (some a) → (loadVar t a).run P w = .ok v w → (f (.cell p t)).run P w = .ok v w) : ∀ (rs : List ResultVar) (vs : List Value), fU P ρ w rs vs →
  (rs.mapM f).run P w = .ok vs w
 | [], [], _ => by simp
 | [], _ :: _, h => h.elim
 | _ :: _, [], h => h.elim
 | r :: rs, v :: vs, h => by
  have ih := u4 h1 h2 rs vs h.2;obtain ⟨h3, _⟩ := h;rw [List.mapM_cons]
  cases h3 with
  | tmp t hv => rw [Sem.run_bind, h1, Result.andThen_ok, Sem.run_bind, ih, Result.andThen_ok, Sem.run_pure, hv]
  | cell p t hp hl => rw [Sem.run_bind, h2 _ _ _ _ hp hl, Result.andThen_ok, Sem.run_bind, ih, Result.andThen_ok, Sem.run_pure]
theorem jq {P : Program} {fn : Func} {R : Ending → World → Prop} {ρ : Rf} {w : World} {rs : List ResultVar} {vs : List Value} {e : Exit} (he : e = .normal ∨ e = .ret) (hr : fn.results = rs.toArray)
  (hv : fU P ρ w rs vs) (h : R (.returned (so vs)) w) : kj P fn R e ρ w := by
 refine ⟨he, so vs, fun tmps ht => ?_, h⟩;unfold results;rw [hr, Sem.run_bind, List.mapM_toArray, Sem.run_map, u4 (ρ := ρ) (fun t => by simp [ht]) (fun p t a v hp hl => by simp [ht, hp, asAddr, hl]) rs vs hv];simp only [Result.andThen_ok]
 match vs with
 | [] => simp [so]
 | [v] => simp [so]
 | _ :: _ :: _ => simp [so]
theorem a7 {P : Program} {ρ : Rf} {w : World} : fU P ρ w [] [] := trivial
theorem cf {P : Program} {ρ : Rf} {w : World} {t : Tmp} {v : Value} {rs : List ResultVar} {vs : List Value} (h : ρ t = v) (k : fU P ρ w rs vs) : fU P ρ w (.tmp t :: rs) (v :: vs) := ⟨.tmp t h, k⟩
theorem aN {P : Program} {ρ : Rf} {w : World} {p : Tmp} {t : TypeId} {a : Addr} {v : Value} {rs : List ResultVar} {vs : List Value} (hp : ρ p = .pointer (some a)) (h : (loadVar t a).run P w = .ok v w) (k : fU P ρ w rs vs) : fU P ρ w (.cell p t :: rs) (v :: vs) := ⟨.cell p t hp h, k⟩
theorem CG {P : Program} {fn : Func} {R : Ending → World → Prop} {ρ : Rf} {w : World} {t : Tmp} {e : Exit} {v : Value} (he : e = .normal ∨ e = .ret) (hr : fn.results = #[.tmp t]) (hv : ρ t = v) (h : R (.returned v) w) : kj P fn R e ρ w :=
 jq he hr (cf hv a7) h
theorem CE {P : Program} {fn : Func} {R : Ending → World → Prop} {ρ : Rf} {w : World} {t u : Tmp} {e : Exit} {v x : Value} (he : e = .normal ∨ e = .ret) (hr : fn.results = #[.tmp t, .tmp u]) (hv : ρ t = v) (hx : ρ u = x) (h : R (.returned (.tuple #[v, x])) w) : kj P fn R e ρ w :=
 jq he hr (cf hv (cf hx a7)) h
theorem CM {P : Program} {fn : Func} {R : Ending → World → Prop} {ρ : Rf} {w : World} {t u s : Tmp} {e : Exit} {v x y : Value} (he : e = .normal ∨ e = .ret) (hr : fn.results = #[.tmp t, .tmp u, .tmp s]) (hv : ρ t = v) (hx : ρ u = x) (hy : ρ s = y) (h : R (.returned (.tuple #[v, x, y])) w) : kj P fn R e ρ w :=
 jq he hr (cf hv (cf hx (cf hy a7))) h
theorem Co {P : Program} {fn : Func} {R : Ending → World → Prop} {ρ : Rf} {w : World} {e : Exit} (he : e = .normal ∨ e = .ret) (hr : fn.results = #[]) (h : R (.returned (.tuple #[])) w) : kj P fn R e ρ w :=
 jq he hr a7 h
theorem Cl {P : Program} {fn : Func} {R : Ending → World → Prop} {ρ : Rf} {w : World} {r : ResultVar} {e : Exit} {v : Value} (he : e = .normal ∨ e = .ret) (hr : fn.results = #[r]) (h1 : fU P ρ w [r] [v]) (h : R (.returned v) w) : kj P fn R e ρ w :=
 jq he hr h1 h
theorem Ci {P : Program} {fn : Func} {R : Ending → World → Prop} {ρ : Rf} {w : World} {r s : ResultVar} {e : Exit} {v x : Value} (he : e = .normal ∨ e = .ret) (hr : fn.results = #[r, s]) (h1 : fU P ρ w [r, s] [v, x]) (h : R (.returned (.tuple #[v, x])) w) : kj P fn R e ρ w :=
 jq he hr h1 h
theorem Cg {P : Program} {fn : Func} {R : Ending → World → Prop} {ρ : Rf} {w : World} {r s t : ResultVar} {e : Exit} {v x y : Value} (he : e = .normal ∨ e = .ret) (hr : fn.results = #[r, s, t]) (h1 : fU P ρ w [r, s, t] [v, x, y]) (h : R (.returned (.tuple #[v, x, y])) w) : kj P fn R e ρ w :=
 jq he hr h1 h
def Bc (l : List Value) : Rf := fun i => l.getD i undef
theorem aj {P : Program} {f : FuncId} {fn : Func} {c : Code} {N : Nat} {l : List Value} {w : World} {R : Ending → World → Prop}
  (hf : P.funcs[f]? = some fn) (hb : fn.body = some c) (hn : fn.ntmps = N) (ha : l.length ≤ N)
  (h : WC .plain P N c (kj P fn R) (Bc l) w) : Calls P f l.toArray w R := by
 refine calls_of_wp hf hb ?_;refine wp_mono (h.out _ ⟨rfl, by simp [hn]; omega, fun i => ?_⟩) ?_
 ·simp only [Bc]
  rcases Nat.lt_or_ge i l.length with hi | hi
  ·rw [Array.getD_eq_getD_getElem?, Array.getElem?_append_left (by simpa using hi)];simp [List.getD_eq_getElem?_getD]
  ·rw [Array.getD_eq_getD_getElem?, Array.getElem?_append_right (by simpa using hi)];simp only [List.getD_eq_getElem?_getD, List.getElem?_eq_none hi, Option.getD_none, Array.getElem?_replicate];split <;> rfl
 ·rintro e a w' ⟨ρ', hf', he, v, hr, hR⟩
  rcases he with rfl | rfl <;> exact ⟨hf'.nd, v, hr _ hf'.at_, hR⟩
end Go.Proofs.YteeckcbbnegmcaaGreatDoor
namespace Go.Proofs.YteeckcbbnegmcaaGreatDoor
open Go.RowKit
section
variable {ro : Mode} {P : Program} {N : Nat} {ops : Array Oper} {Q : Kq} {ρ : Rf} {w : World} {rest : List Oper}
theorem kb {f : Operand → Value} {o : Oper} {x : Next} {w' : World} (ro : Option Nat) (h : (execOp f o).run P w = .ok x w') (hx : ∀ d, x ≠ .defer d) : (o.semAt ro f).run P w = .ok x w' := by
 cases hop : o.op with
 | defer c =>
  exfalso;unfold execOp at h;rw [hop] at h;simp only [Sem.run_bind] at h
  cases h2 : (resolve f c o.type).run P w with
  | ok v w2 =>
   rw [h2] at h;simp at h;exact hx _ h.1.symm
  | halt e w2 =>
   rw [h2] at h;simp [Result.andThen] at h
 | _ => rw [Oper.semAt_eq _ _ _ (by rw [hop]; intro c hc; cases hc)]; exact h
theorem tq {r1 : Option Nat} {n : Nat} {f : FuncId} {args : Array Value} {R : Ending → World → Prop} (h : Calls P f args w R) : CallsIn (FW r1) n P f args w R := (callsIn_wide (n := n)).2 h
theorem aE (h : Q .normal ρ w) : WL ro P N ops Q [] ρ w := ⟨fun _ _ hf => wpList_nil ⟨ρ, hf, h⟩, fun _ hf _ => wpListIn_nil ⟨ρ, hf, h⟩⟩
theorem aa {next : Rf → World → Prop} {Q' : Kq} (h : next ρ w) : WL ro P N ops (dQ next Q') [] ρ w := aE h
theorem aU {o : Oper} {d : Nat} {v : Value} {w' : World} (hg : o.guard = none) (hd : o.dst = some d) (hN : d < N)
  (hr : (execOp (ev ρ) o).run P w = .ok (.value v) w') (k : WL ro P N ops Q rest (cx ρ d v) w') : WL ro P N ops Q (o :: rest) ρ w :=
 ⟨fun hm a hf => wpList_plain hg fun K hK => by
  unfold Oper.wp;rw [hf.eval, hr];show K (a.put o.dst v) w';rw [hd];exact hK _ _ (k.jt hm _ (hf.put hN v)),
 fun a hf n => wpListIn_plain hg fun K hK => by
  refine ⟨fun _ _ => trivial, ?_⟩;rw [hf.eval, kb _ hr (fun _ h => by cases h)];show K (a.put o.dst v) w';rw [hd];exact hK _ _ (k.ko _ (hf.put hN v) n)⟩
theorem vQ {o : Oper} {w' : World} (hg : o.guard = none) (hd : o.dst = none)
  (hr : (execOp (ev ρ) o).run P w = .ok .skip w') (k : WL ro P N ops Q rest ρ w') : WL ro P N ops Q (o :: rest) ρ w :=
 ⟨fun hm a hf => wpList_plain hg fun K hK => by
  unfold Oper.wp;rw [hf.eval, hr];show K (a.put o.dst undef) w';rw [hd];exact hK _ _ (k.jt hm _ hf),
 fun a hf n => wpListIn_plain hg fun K hK => by
  refine ⟨fun _ _ => trivial, ?_⟩;rw [hf.eval, kb _ hr (fun _ h => by cases h)];show K (a.put o.dst undef) w';rw [hd];exact hK _ _ (k.ko _ hf n)⟩
theorem sU {o : Oper} {d : Nat} {f : FuncId} {args : Array Value} {w1 : World} {R : Ending → World → Prop} (hg : o.guard = none) (hd : o.dst = some d) (hN : d < N)
  (hr : (execOp (ev ρ) o).run P w = .ok (.enter f args) w1) (hc : Calls P f args w1 R)
  (k : ∀ e w', R e w' → ∃ v, e = .returned v ∧ WL ro P N ops Q rest (cx ρ d v) w') : WL ro P N ops Q (o :: rest) ρ w :=
 ⟨fun hm a hf => wpList_plain hg fun K hK => by
  unfold Oper.wp;rw [hf.eval, hr];show Calls P f args w1 _;refine hc.mono fun e w' hR => ?_;obtain ⟨v, rfl, hk⟩ := k e w' hR;show K (a.put o.dst v) w';rw [hd];exact hK _ _ (hk.jt hm _ (hf.put hN v)),
 fun a hf n => wpListIn_plain hg fun K hK => by
  refine ⟨fun _ _ => trivial, ?_⟩;rw [hf.eval, kb _ hr (fun _ h => by cases h)];refine ⟨fun h => (by cases h), ?_⟩;refine tq (hc.mono fun e w' hR => ?_);obtain ⟨v, rfl, hk⟩ := k e w' hR;show K (a.put o.dst v) w';rw [hd];exact hK _ _ (hk.ko _ (hf.put hN v) n)⟩
theorem br {d : Option Nat} {op : Op} {ty : TypeId} {pos : String} {af : Array Edge} {j dj : Nat} {b : Bool}
  (hj : (ops[j]?).bind (·.dst) = some dj) (hv : ρ dj = .bool b) (k : WL ro P N ops Q (⟨d, op, ty, pos, af, none⟩ :: rest) ρ w) :
  WL ro P N ops Q (⟨d, op, ty, pos, af, some (j, b)⟩ :: rest) ρ w :=
 have h0 : ∀ D a, fi N D a ρ → Region.wanted ⟨d, op, ty, pos, af, some (j, b)⟩ (yielded ops a.tmps) = true := fun D a hf => by
  have h2 := hf.at_ dj;rw [hv, Array.getD_eq_getD_getElem?] at h2
  cases h3 : a.tmps[dj]? with
  | none => rw [h3] at h2; cases h2
  | some x =>
   rw [h3] at h2;simp only [Option.getD_some] at h2;subst h2;simp [Region.wanted, yielded, hj, h3]
 ⟨fun hm a hf => by
  have h2 := k.jt hm a hf;unfold wpList at h2 ⊢;rw [if_pos (h0 _ a hf)];rw [if_pos (by simp [Region.wanted])] at h2;exact h2,
 fun a hf n => by
  have h2 := k.ko a hf n;unfold wpListIn at h2 ⊢;rw [if_pos (h0 _ a hf)];rw [if_pos (by simp [Region.wanted])] at h2;exact h2⟩
theorem cb {d : Nat} {op : Op} {ty : TypeId} {pos : String} {af : Array Edge} {j dj : Nat} {b c : Bool} (hN : d < N)
  (hj : (ops[j]?).bind (·.dst) = some dj) (hv : ρ dj = .bool c) (hb : c ≠ b) (k : WL ro P N ops Q rest (cx ρ d undef) w) :
  WL ro P N ops Q (⟨some d, op, ty, pos, af, some (j, b)⟩ :: rest) ρ w :=
 have h0 : ∀ D a, fi N D a ρ → Region.wanted ⟨some d, op, ty, pos, af, some (j, b)⟩ (yielded ops a.tmps) = false := fun D a hf => by
  have h2 := hf.at_ dj;rw [hv, Array.getD_eq_getD_getElem?] at h2
  cases h3 : a.tmps[dj]? with
  | none => rw [h3] at h2; cases h2
  | some x =>
   rw [h3] at h2;simp only [Option.getD_some] at h2;subst h2;simp [Region.wanted, yielded, hj, h3, hb]
 ⟨fun hm a hf => by
  unfold wpList;rw [h0 _ a hf];exact k.jt hm _ (hf.put hN undef),
 fun a hf n => by
  unfold wpListIn;rw [h0 _ a hf];exact ⟨fun _ _ => trivial, k.ko _ (hf.put hN undef) n⟩⟩
def nb (v : Value) (b : Bool) : Bool := match v with | .bool c => c != b | _ => true
theorem fR {d : Nat} {op : Op} {ty : TypeId} {pos : String} {af : Array Edge} {j dj : Nat} {b : Bool} (hN : d < N)
  (hj : (ops[j]?).bind (·.dst) = some dj) (hb : nb (ρ dj) b = true) (k : WL ro P N ops Q rest (cx ρ d undef) w) :
  WL ro P N ops Q (⟨some d, op, ty, pos, af, some (j, b)⟩ :: rest) ρ w := by
 cases hv : ρ dj with
 | bool c =>
  rw [hv] at hb;exact cb hN hj hv (by simpa [nb] using hb) k
 | _ =>
  have h0 : ∀ D a, fi N D a ρ → Region.wanted ⟨some d, op, ty, pos, af, some (j, b)⟩ (yielded ops a.tmps) = false := fun D a hf => by
   have h2 := hf.at_ dj;rw [hv, Array.getD_eq_getD_getElem?] at h2
   cases h3 : a.tmps[dj]? with
   | none => simp [Region.wanted, yielded, hj, h3]
   | some x =>
    rw [h3] at h2;simp only [Option.getD_some] at h2;subst h2;simp [Region.wanted, yielded, hj, h3]
  refine ⟨fun hm a hf => ?_, fun a hf n => ?_⟩
  ·unfold wpList;rw [h0 _ a hf];exact k.jt hm _ (hf.put hN undef)
  ·unfold wpListIn;rw [h0 _ a hf];exact ⟨fun _ _ => trivial, k.ko _ (hf.put hN undef) n⟩
end
section
variable {P : Program} {ρ : Rf} {w : World} {d : Option Nat} {ty : TypeId} {pos : String} {af : Array Edge} {g : Option (Nat × Bool)}
theorem cQ {x : Operand} {v : Value} (hx : ev ρ x = v) : (execOp (ev ρ) ⟨d, .move x, ty, pos, af, g⟩).run P w = .ok (.value v) w := by simp [execOp, hx]
theorem xT {x : Operand} {v : Value} (hx : ev ρ x = v) : (execOp (ev ρ) ⟨d, .assign x, ty, pos, af, g⟩).run P w = .ok (.value v) w := by simp [execOp, hx]
theorem rY {c a b : Operand} {v : Value} (hc : ev ρ c = .bool true) (hx : ev ρ a = v) : (execOp (ev ρ) ⟨d, .pick c a b, ty, pos, af, g⟩).run P w = .ok (.value v) w := by simp [execOp, asBool, hc, hx]
theorem sB {c a b : Operand} {v : Value} (hc : ev ρ c = .bool false) (hx : ev ρ b = v) : (execOp (ev ρ) ⟨d, .pick c a b, ty, pos, af, g⟩).run P w = .ok (.value v) w := by simp [execOp, asBool, hc, hx]
section ints
variable {t u : TypeId} {x y : Operand} {k : IntKind} {a b : Int}
theorem AL (hx : ev ρ x = .int k a) (hy : ev ρ y = .int k b) : (execOp (ev ρ) ⟨d, .binOp .add t x y u, ty, pos, af, g⟩).run P w = .ok (.value (.int k (k.wrap (a + b)))) w := by
 simp [execOp, hx, hy, eqGuard, binOp, Op.intArith]
theorem A3 (hx : ev ρ x = .int k a) (hy : ev ρ y = .int k b) : (execOp (ev ρ) ⟨d, .binOp .sub t x y u, ty, pos, af, g⟩).run P w = .ok (.value (.int k (k.wrap (a - b)))) w := by
 simp [execOp, hx, hy, eqGuard, binOp, Op.intArith]
theorem AN (hx : ev ρ x = .int k a) (hy : ev ρ y = .int k b) : (execOp (ev ρ) ⟨d, .binOp .mul t x y u, ty, pos, af, g⟩).run P w = .ok (.value (.int k (k.wrap (a * b)))) w := by
 simp [execOp, hx, hy, eqGuard, binOp, Op.intArith]
theorem Ba (hx : ev ρ x = .int k a) (hy : ev ρ y = .int k b) (hb : b ≠ 0) : (execOp (ev ρ) ⟨d, .binOp .quo t x y u, ty, pos, af, g⟩).run P w = .ok (.value (.int k (k.wrap (a.tdiv b)))) w := by
 simp [execOp, hx, hy, eqGuard, binOp, Op.intDiv, hb]
theorem AV (hx : ev ρ x = .int k a) (hy : ev ρ y = .int k b) (hb : b ≠ 0) : (execOp (ev ρ) ⟨d, .binOp .rem t x y u, ty, pos, af, g⟩).run P w = .ok (.value (.int k (a.tmod b))) w := by
 simp [execOp, hx, hy, eqGuard, binOp, Op.intDiv, hb]
theorem B4 (hx : ev ρ x = .int k a) (hy : ev ρ y = .int k b) : (execOp (ev ρ) ⟨d, .binOp .and t x y u, ty, pos, af, g⟩).run P w = .ok (.value (.int k (k.wrap (BitVec.ofInt k.bits a &&& BitVec.ofInt k.bits b).toNat))) w := by
 simp [execOp, hx, hy, eqGuard, binOp, Op.intBits]
theorem CC (hx : ev ρ x = .int k a) (hy : ev ρ y = .int k b) : (execOp (ev ρ) ⟨d, .binOp .or t x y u, ty, pos, af, g⟩).run P w = .ok (.value (.int k (k.wrap (BitVec.ofInt k.bits a ||| BitVec.ofInt k.bits b).toNat))) w := by
 simp [execOp, hx, hy, eqGuard, binOp, Op.intBits]
theorem Cc {k' : IntKind} (hx : ev ρ x = .int k a) (hy : ev ρ y = .int k' b) (hb : 0 ≤ b) : (execOp (ev ρ) ⟨d, .binOp .shl t x y u, ty, pos, af, g⟩).run P w = .ok (.value (.int k (k.wrap (a * 2 ^ (min b.toNat k.bits))))) w := by
 simp [execOp, hx, hy, eqGuard, binOp, Op.shift, show ¬ b < 0 by omega]
theorem Ca {k' : IntKind} (hx : ev ρ x = .int k a) (hy : ev ρ y = .int k' b) (hb : 0 ≤ b) : (execOp (ev ρ) ⟨d, .binOp .shr t x y u, ty, pos, af, g⟩).run P w = .ok (.value (.int k (a.fdiv (2 ^ (min b.toNat k.bits))))) w := by
 simp [execOp, hx, hy, eqGuard, binOp, Op.shift, show ¬ b < 0 by omega]
theorem th {op : BinOp} : (eqGuard op t x y (.int k a) (.int k b)).run P w = .ok () w := by
 unfold eqGuard; cases op <;> simp
theorem jQ {op : BinOp} {r : Bool} (hx : ev ρ x = .int k a) (hy : ev ρ y = .int k b) (hop : (Op.intCmp op a b).run P w = .ok (.bool r) w) (hc : op = .eql ∨ op = .neq ∨ op = .lss ∨ op = .leq ∨ op = .gtr ∨ op = .geq) :
  (execOp (ev ρ) ⟨d, .binOp op t x y u, ty, pos, af, g⟩).run P w = .ok (.value (.bool r)) w := by
 rcases hc with h | h | h | h | h | h <;> subst h <;> simp [execOp, hx, hy, th, binOp, hop]
theorem zx (hx : ev ρ x = .int k a) (hy : ev ρ y = .int k b) (h : a < b) : (execOp (ev ρ) ⟨d, .binOp .lss t x y u, ty, pos, af, g⟩).run P w = .ok (.value (.bool true)) w :=
 jQ hx hy (by simp [Op.intCmp, h]) (by simp)
theorem zo (hx : ev ρ x = .int k a) (hy : ev ρ y = .int k b) (h : ¬ a < b) : (execOp (ev ρ) ⟨d, .binOp .lss t x y u, ty, pos, af, g⟩).run P w = .ok (.value (.bool false)) w :=
 jQ hx hy (by simp [Op.intCmp]; omega) (by simp)
theorem zr (hx : ev ρ x = .int k a) (hy : ev ρ y = .int k b) (h : a ≤ b) : (execOp (ev ρ) ⟨d, .binOp .leq t x y u, ty, pos, af, g⟩).run P w = .ok (.value (.bool true)) w :=
 jQ hx hy (by simp [Op.intCmp, h]) (by simp)
theorem z2 (hx : ev ρ x = .int k a) (hy : ev ρ y = .int k b) (h : ¬ a ≤ b) : (execOp (ev ρ) ⟨d, .binOp .leq t x y u, ty, pos, af, g⟩).run P w = .ok (.value (.bool false)) w :=
 jQ hx hy (by simp [Op.intCmp]; omega) (by simp)
theorem As (hx : ev ρ x = .int k a) (hy : ev ρ y = .int k b) (h : b < a) : (execOp (ev ρ) ⟨d, .binOp .gtr t x y u, ty, pos, af, g⟩).run P w = .ok (.value (.bool true)) w :=
 jQ hx hy (by simp [Op.intCmp, h]) (by simp)
theorem AB (hx : ev ρ x = .int k a) (hy : ev ρ y = .int k b) (h : ¬ b < a) : (execOp (ev ρ) ⟨d, .binOp .gtr t x y u, ty, pos, af, g⟩).run P w = .ok (.value (.bool false)) w :=
 jQ hx hy (by simp [Op.intCmp]; omega) (by simp)
theorem zk (hx : ev ρ x = .int k a) (hy : ev ρ y = .int k b) (h : b ≤ a) : (execOp (ev ρ) ⟨d, .binOp .geq t x y u, ty, pos, af, g⟩).run P w = .ok (.value (.bool true)) w :=
 jQ hx hy (by simp [Op.intCmp, h]) (by simp)
theorem zN (hx : ev ρ x = .int k a) (hy : ev ρ y = .int k b) (h : ¬ b ≤ a) : (execOp (ev ρ) ⟨d, .binOp .geq t x y u, ty, pos, af, g⟩).run P w = .ok (.value (.bool false)) w :=
 jQ hx hy (by simp [Op.intCmp]; omega) (by simp)
theorem Af (hx : ev ρ x = .int k a) (hy : ev ρ y = .int k b) (h : a ≠ b) : (execOp (ev ρ) ⟨d, .binOp .neq t x y u, ty, pos, af, g⟩).run P w = .ok (.value (.bool true)) w :=
 jQ hx hy (by simp [Op.intCmp, h]) (by simp)
theorem Ag (hx : ev ρ x = .int k a) (hy : ev ρ y = .int k b) (h : a = b) : (execOp (ev ρ) ⟨d, .binOp .neq t x y u, ty, pos, af, g⟩).run P w = .ok (.value (.bool false)) w :=
 jQ hx hy (by simp [Op.intCmp, h]) (by simp)
theorem vc (hx : ev ρ x = .int k a) (hy : ev ρ y = .int k b) : (execOp (ev ρ) ⟨d, .binOp .eql t x y u, ty, pos, af, g⟩).run P w = .ok (.value (.bool (decide (a = b)))) w :=
 jQ hx hy (by simp [Op.intCmp]; rw [Bool.eq_iff_iff]; simp) (by simp)
theorem AW (hx : ev ρ x = .int k a) : (execOp (ev ρ) ⟨d, .unOp .neg t x, ty, pos, af, g⟩).run P w = .ok (.value (.int k (k.wrap (-a)))) w := by
 simp [execOp, hx, Op.unary, Op.intArith]
theorem iW {n : Int} (h1 : -9223372036854775808 ≤ n) (h2 : n ≤ 9223372036854775807) : IntKind.i64.wrap n = n := IntWalk.i64_in n ⟨h1, h2⟩
theorem xL (hx : ev ρ x = .int .i64 a) (hy : ev ρ y = .int .i64 b) (h1 : -9223372036854775808 ≤ a + b) (h2 : a + b ≤ 9223372036854775807) : (execOp (ev ρ) ⟨d, .binOp .add t x y u, ty, pos, af, g⟩).run P w = .ok (.value (.int .i64 (a + b))) w := by
 rw [AL hx hy, iW h1 h2]
theorem y3 (hx : ev ρ x = .int .i64 a) (hy : ev ρ y = .int .i64 b) (h1 : -9223372036854775808 ≤ a - b) (h2 : a - b ≤ 9223372036854775807) : (execOp (ev ρ) ⟨d, .binOp .sub t x y u, ty, pos, af, g⟩).run P w = .ok (.value (.int .i64 (a - b))) w := by
 rw [A3 hx hy, iW h1 h2]
theorem yD (hx : ev ρ x = .int .i64 a) (hy : ev ρ y = .int .i64 b) (h1 : -9223372036854775808 ≤ a * b) (h2 : a * b ≤ 9223372036854775807) : (execOp (ev ρ) ⟨d, .binOp .mul t x y u, ty, pos, af, g⟩).run P w = .ok (.value (.int .i64 (a * b))) w := by
 rw [AN hx hy, iW h1 h2]
theorem oC (hx : ev ρ x = .int .i64 a) (h1 : -9223372036854775808 ≤ -a) (h2 : -a ≤ 9223372036854775807) : (execOp (ev ρ) ⟨d, .unOp .neg t x, ty, pos, af, g⟩).run P w = .ok (.value (.int .i64 (-a))) w := by
 rw [AW hx, iW h1 h2]
theorem rR (hx : ev ρ x = .int .i64 a) (hy : ev ρ y = .int .i64 b) (ha : 0 ≤ a) (hb : 0 < b) (h2 : a ≤ 9223372036854775807) : (execOp (ev ρ) ⟨d, .binOp .quo t x y u, ty, pos, af, g⟩).run P w = .ok (.value (.int .i64 (a / b))) w := by
 have h3 : a / b ≤ a := Int.ediv_le_self b ha;have h4 : 0 ≤ a / b := Int.ediv_nonneg ha Dq;rw [Ba hx hy Dq, Int.tdiv_eq_ediv_of_nonneg ha, iW Dq Dq]
theorem mv (hx : ev ρ x = .int .i64 a) (hy : ev ρ y = .int .i64 b) (ha : 0 ≤ a) (hb : 0 < b) : (execOp (ev ρ) ⟨d, .binOp .rem t x y u, ty, pos, af, g⟩).run P w = .ok (.value (.int .i64 (a % b))) w := by
 rw [AV hx hy Dq, Int.tmod_eq_emod_of_nonneg ha]
end ints
theorem AO {t : TypeId} {x : Operand} {b : Bool} (hx : ev ρ x = .bool b) : (execOp (ev ρ) ⟨d, .unOp .not t x, ty, pos, af, g⟩).run P w = .ok (.value (.bool !b)) w := by
 simp [execOp, hx, Op.unary]
section bools
variable {t u : TypeId} {x y : Operand} {a b : Bool}
theorem rC (n : Nat) (ht : P.underlying t = some .bool) : (Op.equalIn (n + 1) t (.bool a) (.bool b)).run P w = .ok (a == b) w := by
 simp [Op.equalIn, run_underlying ht]
theorem oq (ht : P.underlying t = some .bool) : (Op.equal t (.bool a) (.bool b)).run P w = .ok (a == b) w := rC 9999 ht
theorem pb (ht : P.underlying t = some .bool) : (binOp .eql t (.bool a) (.bool b)).run P w = .ok (.bool (a == b)) w := by
 simp only [binOp];simp [oq ht]
theorem oM (ht : P.underlying t = some .bool) : (binOp .neq t (.bool a) (.bool b)).run P w = .ok (.bool (a != b)) w := by
 simp only [binOp];simp [oq ht, bne]
theorem nZ (ht : P.underlying t = some .bool) (hx : ev ρ x = .bool a) (hy : ev ρ y = .bool b) : (execOp (ev ρ) ⟨d, .binOp .eql t x y u, ty, pos, af, g⟩).run P w = .ok (.value (.bool (a == b))) w := by
 simp only [execOp, hx, hy, eqGuard];simp [pb ht]
theorem kK (ht : P.underlying t = some .bool) (hx : ev ρ x = .bool a) (hy : ev ρ y = .bool b) : (execOp (ev ρ) ⟨d, .binOp .neq t x y u, ty, pos, af, g⟩).run P w = .ok (.value (.bool (a != b))) w := by
 simp only [execOp, hx, hy, eqGuard];simp [oM ht]
end bools
section tt
variable {t u : TypeId} {x y : Operand} {a b : ByteArray}
theorem sG {op : BinOp} : (eqGuard op t x y (.string a) (.string b)).run P w = .ok () w := by
 unfold eqGuard; cases op <;> simp
theorem pX {op : BinOp} {r : Value} (hx : ev ρ x = .string a) (hy : ev ρ y = .string b) (hs : op ≠ .shl ∧ op ≠ .shr) (hop : (Op.stringOp op a b).run P w = .ok r w) :
  (execOp (ev ρ) ⟨d, .binOp op t x y u, ty, pos, af, g⟩).run P w = .ok (.value r) w := by
 cases op <;> simp_all [execOp, sG, binOp]
theorem qC (hx : ev ρ x = .string a) (hy : ev ρ y = .string b) : (execOp (ev ρ) ⟨d, .binOp .eql t x y u, ty, pos, af, g⟩).run P w = .ok (.value (.bool (a.toList == b.toList))) w :=
 pX hx hy (by simp) (by simp [Op.stringOp])
theorem qw (hx : ev ρ x = .string a) (hy : ev ρ y = .string b) : (execOp (ev ρ) ⟨d, .binOp .neq t x y u, ty, pos, af, g⟩).run P w = .ok (.value (.bool !(a.toList == b.toList))) w :=
 pX hx hy (by simp) (by simp [Op.stringOp])
theorem ya {a b : ByteArray} : (a.toList == b.toList) = decide (a = b) := by
 have key : ∀ s : ByteArray, s.toList = s.data.toList := fun s => by
  unfold ByteArray.toList;have : ∀ (n i : Nat) (r : List UInt8), s.size - i = n → ByteArray.toList.loop s i r = r.reverse ++ s.data.toList.drop i := by
   intro n
   induction n with
   | zero =>
    intro i r h;rw [ByteArray.toList.loop, if_neg Dq, List.drop_of_length_le (by rw [Array.length_toList]; show s.size ≤ i; omega)];simp
   | succ n ih =>
    intro i r h;have hi : i < s.size := Dq;rw [ByteArray.toList.loop, if_pos hi, ih (i + 1) _ Dq];have hi2 : i < s.data.toList.length := by rw [Array.length_toList]; exact hi
    rw [List.drop_eq_getElem_cons hi2];have : s.get! i = s.data.toList[i] := by
     show s.data[i]! = _;rw [getElem!_pos s.data i (by simpa using hi2)];simp
    simp [this]
  simpa using this (s.size - 0) 0 [] rfl
 rw [Bool.eq_iff_iff, beq_iff_eq, decide_eq_true_eq, key, key];constructor
 ·intro h; cases a; cases b; congr 1; exact Array.ext' h
 ·intro h; rw [h]
theorem sm (hx : ev ρ x = .string a) (hy : ev ρ y = .string b) (h : a = b) : (execOp (ev ρ) ⟨d, .binOp .eql t x y u, ty, pos, af, g⟩).run P w = .ok (.value (.bool true)) w := by
 rw [qC hx hy, ya]; simp [h]
theorem sC (hx : ev ρ x = .string a) (hy : ev ρ y = .string b) (h : ¬ a = b) : (execOp (ev ρ) ⟨d, .binOp .eql t x y u, ty, pos, af, g⟩).run P w = .ok (.value (.bool false)) w := by
 rw [qC hx hy, ya]; simp [h]
theorem sx (hx : ev ρ x = .string a) (hy : ev ρ y = .string b) (h : ¬ a = b) : (execOp (ev ρ) ⟨d, .binOp .neq t x y u, ty, pos, af, g⟩).run P w = .ok (.value (.bool true)) w := by
 rw [qw hx hy, ya]; simp [h]
theorem te (hx : ev ρ x = .string a) (hy : ev ρ y = .string b) (h : a = b) : (execOp (ev ρ) ⟨d, .binOp .neq t x y u, ty, pos, af, g⟩).run P w = .ok (.value (.bool false)) w := by
 rw [qw hx hy, ya]; simp [h]
theorem wQ (hx : ev ρ x = .string a) (hy : ev ρ y = .string b) : (execOp (ev ρ) ⟨d, .binOp .lss t x y u, ty, pos, af, g⟩).run P w = .ok (.value (.bool (Op.bytesLess a.toList b.toList))) w :=
 pX hx hy (by simp) (by simp [Op.stringOp])
theorem xg (hx : ev ρ x = .string a) (hy : ev ρ y = .string b) : (execOp (ev ρ) ⟨d, .binOp .gtr t x y u, ty, pos, af, g⟩).run P w = .ok (.value (.bool !(Op.bytesLess a.toList b.toList || a.toList == b.toList))) w :=
 pX hx hy (by simp) (by simp [Op.stringOp])
theorem xf (hx : ev ρ x = .string a) (hy : ev ρ y = .string b) : (execOp (ev ρ) ⟨d, .binOp .geq t x y u, ty, pos, af, g⟩).run P w = .ok (.value (.bool !(Op.bytesLess a.toList b.toList))) w :=
 pX hx hy (by simp) (by simp [Op.stringOp])
theorem B7 (hx : ev ρ x = .string a) (hy : ev ρ y = .string b) (h : a.size + b.size ≤ 9223372036854775807) : (execOp (ev ρ) ⟨d, .binOp .add t x y u, ty, pos, af, g⟩).run P w = .ok (.value (.string (a ++ b))) w :=
 pX hx hy (by simp) (by
  have : ¬ ((a.size + b.size : Nat) : Int) > IntKind.i64.max := by
   have : IntKind.i64.max = 9223372036854775807 := by decide
   omega
  simp only [Op.stringOp, if_neg this];simp)
end tt
theorem ji {s t : TypeId} {x : Operand} {k k' : IntKind} {a : Int} {sd : TypeDesc} (hs : P.underlying s = some sd) (ht : P.underlying t = some (.int k)) (hx : ev ρ x = .int k' a) :
  (execOp (ev ρ) ⟨d, .convert s t x, ty, pos, af, g⟩).run P w = .ok (.value (.int k (k.wrap a))) w := by
 simp [execOp, hx, convert, run_underlying hs, run_underlying ht, Conv.intToInt]
theorem kG {s t : TypeId} {x : Operand} {k' : IntKind} {a : Int} {sd : TypeDesc} (hs : P.underlying s = some sd) (ht : P.underlying t = some (.int .i64)) (hx : ev ρ x = .int k' a) (h1 : -9223372036854775808 ≤ a) (h2 : a ≤ 9223372036854775807) :
  (execOp (ev ρ) ⟨d, .convert s t x, ty, pos, af, g⟩).run P w = .ok (.value (.int .i64 a)) w := by
 rw [ji hs ht hx, iW h1 h2]
theorem dP {x : Operand} {i : Nat} {vs : List Value} {v : Value} (hx : ev ρ x = .tuple vs.toArray) (hv : vs[i]? = some v) :
  (execOp (ev ρ) ⟨d, .extract x i, ty, pos, af, g⟩).run P w = .ok (.value v) w := by
 simp [execOp, hx, Instr.extract, hv]
def pL (ρ : Rf) : List Operand → List Value
 | [] => []
 | x :: l => ev ρ x :: pL ρ l
theorem lV {ρ : Rf} (args : Array Operand) {vs : List Value} (h : pL ρ args.toList = vs) : args.map (ev ρ) = vs.toArray := by
 have h1 : ∀ l : List Operand, l.map (ev ρ) = pL ρ l := by
  intro l
  induction l with
  | nil => rfl
  | cons a l ih => simp only [List.map_cons, ih]; rfl
 subst h;rw [← h1];apply Array.ext';simp
theorem uU {fn : Fn} {first captured : Array Operand} {fs cs : List Value} (hf : pL ρ first.toList = fs) (hc : pL ρ captured.toList = cs) :
  (execOp (ev ρ) ⟨d, .makeFunc fn first captured, ty, pos, af, g⟩).run P w = .ok (.value (.func fn fs.toArray cs.toArray)) w := by
 simp [execOp, lV _ hf, lV _ hc, Instr.makeFunc]
theorem cO {i : Nat} {k : IntKind} {n : Int} (h : ρ i = .int k n) : ρ i = .int k n := h
theorem fw {i : Nat} {b : Bool} (h : ρ i = .bool b) : ρ i = .bool b := h
theorem qD {i : Nat} {s : ByteArray} (h : ρ i = .string s) : ρ i = .string s := h
theorem xj {i : Nat} {A : Option Addr} {n c : Nat} (h : ρ i = .slice A n c) : ρ i = .slice A n c := h
theorem bK {x : Operand} {k : IntKind} {n : Int} (h : ev ρ x = .int k n) : ev ρ x = .int k n := h
theorem nN {x : Operand} {b : Bool} (h : ev ρ x = .bool b) : ev ρ x = .bool b := h
theorem xz {x : Operand} {s : ByteArray} (h : ev ρ x = .string s) : ev ρ x = .string s := h
theorem A0 {x : Operand} {A : Option Addr} {n c : Nat} (h : ev ρ x = .slice A n c) : ev ρ x = .slice A n c := h
theorem jA {x : Operand} {a : Addr} (h : ev ρ x = .pointer (some a)) : ev ρ x = .pointer (some a) := h
theorem cK {x : Operand} {l : List Value} (h : ev ρ x = .agg l.toArray) : ev ρ x = .agg l.toArray := h
theorem Bp {x : Operand} {l : List Value} (h : ev ρ x = .tuple l.toArray) : ev ρ x = .tuple l.toArray := h
theorem gQ {x : Operand} {f : Fn} {a b : List Value} (h : ev ρ x = .func f a.toArray b.toArray) : ev ρ x = .func f a.toArray b.toArray := h
theorem wq {x : Operand} {t : TypeId} {s : ByteArray} (ht : P.underlying t = some .string) (hx : ev ρ x = .string s) :
  (execOp (ev ρ) ⟨d, .call ⟨.builtin .len, #[x], #[t]⟩, ty, pos, af, g⟩).run P w = .ok (.value (.int .i64 s.size)) w := by
 simp [execOp, resolve, invoke, builtin, Builtin.len_, hx, run_underlying ht, goInt]
theorem tu {x : Operand} {t e : TypeId} {A : Option Addr} {n c : Nat} (ht : P.underlying t = some (.slice e)) (hx : ev ρ x = .slice A n c) :
  (execOp (ev ρ) ⟨d, .call ⟨.builtin .len, #[x], #[t]⟩, ty, pos, af, g⟩).run P w = .ok (.value (.int .i64 n)) w := by
 simp [execOp, resolve, invoke, builtin, Builtin.len_, hx, run_underlying ht, goInt]
theorem Cb {x y : Operand} {ts : Array TypeId} {k : IntKind} {a b : Int} (hx : ev ρ x = .int k a) (hy : ev ρ y = .int k b) :
  (execOp (ev ρ) ⟨d, .call ⟨.builtin .min, #[x, y], ts⟩, ty, pos, af, g⟩).run P w = .ok (.value (.int k (if b < a then b else a))) w := by
 simp [execOp, resolve, invoke, builtin, Builtin.min_, Builtin.min2, hx, hy, List.foldlM]
theorem Cp {x y : Operand} {ts : Array TypeId} {k : IntKind} {a b : Int} (hx : ev ρ x = .int k a) (hy : ev ρ y = .int k b) :
  (execOp (ev ρ) ⟨d, .call ⟨.builtin .max, #[x, y], ts⟩, ty, pos, af, g⟩).run P w = .ok (.value (.int k (if b > a then b else a))) w := by
 simp [execOp, resolve, invoke, builtin, Builtin.max_, Builtin.max2, hx, hy, List.foldlM]
theorem jM {t : TypeId} {x i : Operand} {s : ByteArray} {n : Int} {k : IntKind} {c : UInt8} (ht : P.underlying t = some .string) (hx : ev ρ x = .string s) (hi : ev ρ i = .int k n)
  (h0 : 0 ≤ n) (hc : s.data.toList[n.toNat]? = some c) : (execOp (ev ρ) ⟨d, .index t x i, ty, pos, af, g⟩).run P w = .ok (.value (.int .u8 c.toNat)) w := by
 have hs : s[n.toNat]? = some c := by
  rw [← hc];obtain ⟨h1, h2⟩ := List.getElem?_eq_some_iff.1 hc;have h3 : n.toNat < s.size := by simpa using h1
  rw [getElem?_pos s n.toNat h3, getElem?_pos s.data.toList n.toNat h1]
  rfl
 simp [execOp, hx, hi, Instr.index, asIntOf, run_underlying ht, h0, hs]
theorem jT {t : TypeId} {x : Operand} {lo hi : Option Operand} {s : ByteArray} {l h : Nat} (ht : P.underlying t = some .string) (hx : ev ρ x = .string s)
  (hlo : match lo with | none => l = 0 | some o => ∃ (k : IntKind) (n : Int), ev ρ o = .int k n ∧ n = l) (hhi : match hi with | none => h = s.size | some o => ∃ (k : IntKind) (n : Int), ev ρ o = .int k n ∧ n = h)
  (h1 : l ≤ h) (h2 : h ≤ s.size) : (execOp (ev ρ) ⟨d, .slice t x lo hi none, ty, pos, af, g⟩).run P w = .ok (.value (.string (s.extract l h))) w := by
 have e1 : (l : Int) ≤ h := Dq;have e2 : (h : Int) ≤ s.size := Dq
 cases lo <;> cases hi <;> simp only [] at hlo hhi
 ·subst hlo; subst hhi;simp [execOp, hx, Instr.sliceAt, Instr.slice, run_underlying ht, Instr.sliceBounds]
 ·obtain ⟨k2, n2, hv2, rfl⟩ := hhi;subst hlo;simp [execOp, hx, Instr.sliceAt, Instr.slice, run_underlying ht, Instr.sliceBounds, Instr.sliceBound, asIntOf, hv2, h2]
 ·obtain ⟨k2, n2, hv2, rfl⟩ := hlo;subst hhi;simp [execOp, hx, Instr.sliceAt, Instr.slice, run_underlying ht, Instr.sliceBounds, Instr.sliceBound, asIntOf, hv2, h1]
 ·obtain ⟨k2, n2, hv2, rfl⟩ := hhi;obtain ⟨k3, n3, hv3, rfl⟩ := hlo;simp [execOp, hx, Instr.sliceAt, Instr.slice, run_underlying ht, Instr.sliceBounds, Instr.sliceBound, asIntOf, hv2, hv3, h1, h2]
theorem gi {t e : TypeId} {x : Operand} {lo hi : Option Operand} {A : Option Addr} {n c l h sz : Nat} (ht : P.underlying t = some (.slice e)) (hsz : (P.info? e).map (·.size) = some sz) (hx : ev ρ x = .slice A n c)
  (hlo : match lo with | none => l = 0 | some o => ∃ (k : IntKind) (n : Int), ev ρ o = .int k n ∧ n = l) (hhi : match hi with | none => h = n | some o => ∃ (k : IntKind) (n : Int), ev ρ o = .int k n ∧ n = h)
  (h1 : l ≤ h) (h2 : h ≤ c) : (execOp (ev ρ) ⟨d, .slice t x lo hi none, ty, pos, af, g⟩).run P w = .ok (.value (.slice (if c = l then A else A.map (·.add (l * sz))) (h - l) (c - l))) w := by
 obtain ⟨i, hi1, hi2⟩ := Option.map_eq_some_iff.1 hsz;have e1 : (l : Int) ≤ h := Dq;have e2 : (h : Int) ≤ c := Dq
 cases lo <;> cases hi <;> simp only [] at hlo hhi
 ·subst hlo; subst hhi;simp [execOp, hx, Instr.sliceAt, Instr.slice, run_underlying ht, Instr.sliceBounds, sizeOf, typeInfo, hi1]
 ·obtain ⟨k2, n2, hv2, rfl⟩ := hhi;subst hlo;simp [execOp, hx, Instr.sliceAt, Instr.slice, run_underlying ht, Instr.sliceBounds, Instr.sliceBound, asIntOf, hv2, h2, sizeOf, typeInfo, hi1]
 ·obtain ⟨k2, n2, hv2, rfl⟩ := hlo;subst hhi;simp [execOp, hx, Instr.sliceAt, Instr.slice, run_underlying ht, Instr.sliceBounds, Instr.sliceBound, asIntOf, hv2, h1, sizeOf, typeInfo, hi1, hi2]
 ·obtain ⟨k2, n2, hv2, rfl⟩ := hhi;obtain ⟨k3, n3, hv3, rfl⟩ := hlo;simp [execOp, hx, Instr.sliceAt, Instr.slice, run_underlying ht, Instr.sliceBounds, Instr.sliceBound, asIntOf, hv2, hv3, h1, h2, sizeOf, typeInfo, hi1, hi2]
theorem fD {t e : TypeId} {x i : Operand} {ad : Addr} {n c sz : Nat} {k : IntKind} {m : Int} (ht : P.underlying t = some (.slice e)) (hsz : (P.info? e).map (·.size) = some sz) (hx : ev ρ x = .slice (some ad) n c) (hi : ev ρ i = .int k m)
  (h0 : 0 ≤ m) (h1 : m < n) : (execOp (ev ρ) ⟨d, .indexAddr t x i, ty, pos, af, g⟩).run P w = .ok (.value (.pointer (some (ad.add (m.toNat * sz))))) w := by
 obtain ⟨i, hi1, hi2⟩ := Option.map_eq_some_iff.1 hsz;simp [execOp, hx, hi, Instr.indexAt, asIntOf, run_underlying ht, sizeOf, typeInfo, hi1, hi2, h0, h1]
theorem kS {t e : TypeId} {x i : Operand} {b n c sz k : Nat} {kk : IntKind} {m : Int} (ht : P.underlying t = some (.slice e)) (hsz : (P.info? e).map (·.size) = some sz) (hx : ev ρ x = .slice (some ⟨b, 0, none⟩) n c) (hi : ev ρ i = .int kk m)
  (hm : m = (k : Int)) (h1 : k < n) : (execOp (ev ρ) ⟨d, .indexAddr t x i, ty, pos, af, g⟩).run P w = .ok (.value (.pointer (some ⟨b, k * sz, none⟩))) w := by
 have h := fD (P := P) (w := w) (d := d) (ty := ty) (pos := pos) (af := af) (g := g) ht hsz hx hi Dq Dq;rw [h, hm];have : (⟨b, 0, none⟩ : Addr).add (((k : Int)).toNat * sz) = ⟨b, k * sz, none⟩ := by
  unfold Addr.add;split
  ·rename_i h0;rw [Int.toNat_natCast] at h0;rw [h0]
  ·rw [Int.toNat_natCast]; simp
 rw [this]
theorem yU {x : Operand} {args : Array Operand} {ts : Array TypeId} {f : FuncId} {fn : Func} {first cap : Array Value} {vs : Array Value} (hf : P.funcs[f]? = some fn) (hb : fn.body.isNone = false) (hn : (fn.name == "runtime.NumGoroutine") = false)
  (hx : ev ρ x = .func (.func f) first cap) (ha : args.map (ev ρ) = vs) : (execOp (ev ρ) ⟨d, .call ⟨.value x, args, ts⟩, ty, pos, af, g⟩).run P w = .ok (.enter f (first ++ vs ++ cap)) w := by
 have h1 : ¬ fn.name = "runtime.NumGoroutine" := by simpa using hn
 have h2 : ¬ fn.body = none := by intro h; simp [h] at hb
 simp [execOp, resolve, Deferred.ofValue, hx, ha, invoke, callFunc, program, Sem.run, hf, h1, h2]
end
end Go.Proofs.YteeckcbbnegmcaaGreatDoor
namespace Go.Proofs.YteeckcbbnegmcaaGreatDoor
open Go.RowKit
def cZ (P : Program) (t : TypeId) : Option (Nat × Bool × Nat × List Value) :=
 match P.info? t, P.underlying t with
 | some i, some d => i.zero.map fun z => (i.size, (match d with | .struct _ | .array _ _ => true | _ => false), i.bytes, z.cells.toList)
 | _, _ => none
theorem eD {P : Program} {t : TypeId} {n by' : Nat} {ag : Bool} {zc : List Value} (h : cZ P t = some (n, ag, by', zc)) :
  ∃ i z d, P.info? t = some i ∧ P.underlying t = some d ∧ i.zero = some z ∧ i.size = n ∧ i.bytes = by' ∧ z.cells = zc.toArray ∧ (match d with | .struct _ | .array _ _ => true | _ => false) = ag := by
 unfold cZ at h;split at h
 ·rename_i i d hi hd;obtain ⟨z, hz, he⟩ := Option.map_eq_some_iff.1 h;simp only [Prod.mk.injEq] at he;exact ⟨i, z, d, hi, hd, hz, he.1, he.2.2.1, by rw [← he.2.2.2], he.2.1⟩
 ·cases h
section
variable {P : Program} {w : World} {t : TypeId} {n by' : Nat} {ag : Bool} {zc : List Value}
theorem dV (h : cZ P t = some (n, ag, by', zc)) : (sizeOf t).run P w = .ok n w := by
 obtain ⟨i, z, d, hi, hd, hz, hs, _⟩ := eD h;simp [sizeOf, typeInfo, hi, hs]
theorem ic (h : cZ P t = some (n, ag, by', zc)) : (isAgg t).run P w = .ok ag w := by
 obtain ⟨i, z, d, hi, hd, hz, hs, _, _, ha⟩ := eD h;simp only [isAgg, Sem.run_bind, run_underlying hd, Result.andThen_ok];subst ha
 cases d <;> rfl
theorem cS (h : cZ P t = some (n, ag, by', zc)) : ∃ z, (zeroValue t).run P w = .ok z w ∧ z.cells = zc.toArray := by
 obtain ⟨i, z, d, hi, hd, hz, hs, _, hc, _⟩ := eD h;exact ⟨z, by simp [zeroValue, typeInfo, hi, hz], hc⟩
end
def Rd (w : World) (ad : Addr) (vs : List Value) : Prop := ∀ j u, vs[j]? = some u → w.cell? (ad.add j) = some u
def Sl (w : World) (A : Option Addr) (n k : Nat) (xs : List Value) : Prop := xs.length = n * k ∧ (0 < n → ∃ ad, A = some ad ∧ Rd w ad xs)
theorem eG (b o n : Nat) : (⟨b, o, none⟩ : Addr).add n = ⟨b, o + n, none⟩ := by
 unfold Addr.add;split
 ·rename_i h; subst h; rfl
 ·rfl
theorem l8 (a : Addr) (i j : Nat) : (a.add i).add j = a.add (i + j) := by
 unfold Addr.add;by_cases hi : i = 0 <;> by_cases hj : j = 0 <;> simp [hi, hj, Nat.add_assoc]
theorem lR {w : World} {a : Addr} {v : Value} (h : w.cell? a = some v) : a.block < w.heap.size := block_lt_of_cell h
theorem dD {w w' : World} (h : Below w.heap.size w w') {a : Addr} {v : Value} (hc : w.cell? a = some v) : w'.cell? a = some v := (h.cell (lR hc)).trans hc
theorem Rd.ext {w w' : World} {ad : Addr} {vs : List Value} (h : Rd w ad vs) (hb : Below w.heap.size w w') : Rd w' ad vs := fun j u hu => dD hb (h j u hu)
theorem Sl.ext {w w' : World} {A : Option Addr} {n k : Nat} {xs : List Value} (h : Sl w A n k xs) (hb : Below w.heap.size w w') : Sl w' A n k xs :=
 ⟨h.1, fun hn => let ⟨ad, ha, hr⟩ := h.2 hn; ⟨ad, ha, hr.ext hb⟩⟩
theorem Rd.drop {w : World} {ad : Addr} {vs : List Value} (h : Rd w ad vs) (i : Nat) : Rd w (ad.add i) (vs.drop i) := fun j u hu => by
 rw [l8];exact h _ u (by rw [← hu, List.getElem?_drop])
theorem Rd.take {w : World} {ad : Addr} {vs : List Value} (h : Rd w ad vs) (n : Nat) : Rd w ad (vs.take n) := fun j u hu => by
 rw [List.getElem?_take] at hu;split at hu
 ·exact h _ u hu
 ·cases hu
theorem Rd.cell {w : World} {ad : Addr} {vs : List Value} (h : Rd w ad vs) {i : Nat} {v : Value} (hv : vs[i]? = some v) : w.cell? (ad.add i) = some v := h i v hv
theorem Sl.nil (w : World) (A : Option Addr) (k : Nat) : Sl w A 0 k [] := ⟨by simp, fun h => absurd h Dq⟩
theorem Sl.at_ {w : World} {A : Option Addr} {n k : Nat} {xs : List Value} (h : Sl w A n k xs) (hn : 0 < n) : ∃ ad, A = some ad ∧ Rd w ad xs := h.2 hn
theorem Rd.elem {w : World} {ad : Addr} {xs : List Value} (h : Rd w ad xs) (i k : Nat) : Rd w (ad.add (i * k)) ((xs.drop (i * k)).take k) := (h.drop _).take _
theorem Sl.cut {w : World} {A : Option Addr} {n k c l m : Nat} {xs : List Value} (h : Sl w A n k xs) (hl : l ≤ m) (hm : m ≤ n) (hc : n ≤ c) :
  Sl w (if c = l then A else A.map (·.add (l * k))) (m - l) k ((xs.drop (l * k)).take ((m - l) * k)) := by
 have hle : l * k + (m - l) * k ≤ n * k := by
  rw [← Nat.add_mul];exact Nat.mul_le_mul_right _ Dq
 refine ⟨by rw [List.length_take, List.length_drop, h.1]; omega, fun hn => ?_⟩;obtain ⟨ad, rfl, hr⟩ := h.2 Dq;rw [if_neg Dq];exact ⟨_, rfl, (hr.drop _).take _⟩
inductive HE where
 | blk (b : Nat) (t : TypeId) (cs : List Value) (fz : Nat × Nat)
 | row (A : Option Addr) (n c : Nat) (t : TypeId) (sz : Nat) (xs : List Value)
 | ob (b : Nat) (o : Obj)
abbrev HE.it (b : Nat) (s : ByteArray) (pos : Nat) : HE := .ob b (.stringIter s pos)
def HE.id : HE → Option Nat
 | .blk b _ _ _ => some b
 | .row A _ _ _ _ _ => A.map (·.block)
 | .ob b _ => some b
def HE.holds (base : Nat) (w : World) : HE → Prop
 | .blk b t cs fz => base ≤ b ∧ w.heap[b]? = some (.cells cs.toArray t fz) ∧ (cs.length ≤ fz.1 ∨ fz.2 ≤ fz.1)
 | .row A n c t sz xs => w.ownsRow base t sz (.slice A n c) n xs
 | .ob b o => base ≤ b ∧ w.heap[b]? = some o
structure Hp (w0 : World) (H : List HE) (w : World) : Prop where
 below : Below w0.heap.size w0 w
 own : ∀ x ∈ H, x.holds w0.heap.size w
 nd : (H.filterMap HE.id).Nodup
section
variable {w0 w w' : World} {H : List HE}
theorem Hp.start (w : World) : Hp w [] w := ⟨Below.refl _ _, fun _ h => (nomatch h), List.nodup_nil⟩
theorem Hp.size (h : Hp w0 H w) : w0.heap.size ≤ w.heap.size := h.below.size
theorem eH {base : Nat} {x : HE} (h : x.holds base w) {b : Nat} (hb : x.id = some b) : base ≤ b ∧ b < w.heap.size := by
 cases x with
 | blk b' t cs fz =>
  obtain rfl : b' = b := by simpa [HE.id] using hb
  refine ⟨h.1, ?_⟩
  rcases Nat.lt_or_ge b' w.heap.size with hlt | hge
  ·exact hlt
  ·have := h.2.1; rw [Array.getElem?_eq_none hge] at this; cases this
 | row A n c t sz xs =>
  cases A with
  | none => simp [HE.id] at hb
  | some a => exact World.ownsRow.lt h b (by simpa [HE.id, Value.ownBlock] using hb)
 | ob b' o =>
  obtain rfl : b' = b := by simpa [HE.id] using hb
  refine ⟨h.1, ?_⟩
  rcases Nat.lt_or_ge b' w.heap.size with hlt | hge
  ·exact hlt
  ·have := h.2; rw [Array.getElem?_eq_none hge] at this; cases this
theorem oQ {base : Nat} {x : HE} (h : x.holds base w) (hk : ∀ b, x.id = some b → w'.heap[b]? = w.heap[b]?) : x.holds base w' := by
 cases x with
 | blk b t cs fz => exact ⟨h.1, (hk b rfl).trans h.2.1, h.2.2⟩
 | row A n c t sz xs =>
  obtain ⟨h1, h2⟩ := h;refine ⟨h1, ?_⟩
  rcases h2 with h2 | ⟨g, cap, cur, hv, hg, hh, r⟩
  ·exact .inl h2
  ·have hA : A = some ⟨g, 0, none⟩ := by injection hv
   subst hA;exact .inr ⟨g, cap, cur, hv, hg, (hk g rfl).trans hh, r⟩
 | ob b o => exact ⟨h.1, (hk b rfl).trans h.2⟩
theorem Hp.ext (h : Hp w0 H w) (hb : Below w.heap.size w w') : Hp w0 H w' :=
 ⟨h.below.trans (hb.mono h.size), fun x hx => oQ (h.own x hx) fun _ hi => hb.block _ (eH (h.own x hx) hi).2, h.nd⟩
theorem Hp.sub (h : Hp w0 H w) {H' : List HE} (hs : H'.Sublist H) : Hp w0 H' w := ⟨h.below, fun x hx => h.own x (hs.subset hx), h.nd.sublist (hs.filterMap _)⟩
theorem Hp.at_ (h : Hp w0 H w) {i : Nat} {x : HE} (hi : H[i]? = some x) : x.holds w0.heap.size w := h.own x (List.mem_of_getElem? hi)
theorem Hp.a9 (h : Hp w0 H w) (hb : Below w.heap.size w w') {x : HE} (hx : x.holds w.heap.size w') : Hp w0 (x :: H) w' := by
 have h' := h.ext hb;refine ⟨h'.below, ?_, ?_⟩
 ·intro y hy
  rcases List.mem_cons.1 hy with rfl | hy
  ·cases y with
   | blk b t cs fz => exact ⟨Nat.le_trans h.size hx.1, hx.2⟩
   | row A n c t sz xs =>
    obtain ⟨h1, h2⟩ := hx;exact ⟨h1, h2.imp id fun ⟨g, cap, cur, hv, hg, r⟩ => ⟨g, cap, cur, hv, Nat.le_trans h.size hg, r⟩⟩
   | ob b o => exact ⟨Nat.le_trans h.size hx.1, hx.2⟩
  ·exact h'.own y hy
 ·rw [List.filterMap_cons];split
  ·exact h'.nd
  ·rename_i b hb';refine List.nodup_cons.2 ⟨fun hm => ?_, h'.nd⟩;obtain ⟨y, hy, hyb⟩ := List.mem_filterMap.1 hm;have h1 := (eH hx hb').1;have h2 := (eH (h.own y hy) hyb).2;omega
theorem Hp.Bd (h : Hp w0 H w) {i : Nat} {x y : HE} (hi : H[i]? = some x) (hid : ∀ b, y.id = some b → x.id = some b ∨ w.heap.size ≤ b)
  (hb : Below w0.heap.size w0 w') (hk : ∀ b, b < w.heap.size → x.id ≠ some b → w'.heap[b]? = w.heap[b]?) (hy : y.holds w0.heap.size w') : Hp w0 (H.set i y) w' := by
 obtain ⟨hlt, hx⟩ := List.getElem?_eq_some_iff.1 hi;have hsplit : H = H.take i ++ x :: H.drop (i + 1) := by
  rw [← hx, ← List.drop_eq_getElem_cons hlt, List.take_append_drop]
 have hset : H.set i y = H.take i ++ y :: H.drop (i + 1) := by rw [List.set_eq_take_append_cons_drop, if_pos hlt]
 have hnd := h.nd;rw [hsplit, List.filterMap_append] at hnd;have hother : ∀ z, z ∈ H.take i ∨ z ∈ H.drop (i + 1) → z ∈ H ∧ (∀ b, z.id = some b → x.id ≠ some b) := by
  intro z hz;refine ⟨hz.elim List.mem_of_mem_take List.mem_of_mem_drop, fun b hzb hxb => ?_⟩;rw [List.filterMap_cons, hxb] at hnd;simp only [] at hnd;rw [List.nodup_append] at hnd
  rcases hz with hz | hz
  ·exact hnd.2.2 b (List.mem_filterMap.2 ⟨z, hz, hzb⟩) b (List.mem_cons_self) rfl
  ·exact (List.nodup_cons.1 hnd.2.1).1 (List.mem_filterMap.2 ⟨z, hz, hzb⟩)
 have hold : ∀ z, z ∈ H.take i ∨ z ∈ H.drop (i + 1) → z.holds w0.heap.size w' := fun z hz => by
  obtain ⟨hm, hne⟩ := hother z hz;exact oQ (h.own z hm) fun b hzb => hk b (eH (h.own z hm) hzb).2 (hne b hzb)
 rw [hset];refine ⟨hb, ?_, ?_⟩
 ·intro z hz
  rcases List.mem_append.1 hz with hz | hz
  ·exact hold z (.inl hz)
  ·rcases List.mem_cons.1 hz with rfl | hz
   ·exact hy
   ·exact hold z (.inr hz)
 ·rw [List.filterMap_append];have hsub : ((H.take i).filterMap HE.id ++ (H.drop (i + 1)).filterMap HE.id).Nodup := by
   refine hnd.sublist (List.Sublist.append (List.Sublist.refl _) ?_);exact List.Sublist.filterMap _ (List.sublist_cons_self _ _)
  rw [List.filterMap_cons];split
  ·exact hsub
  ·rename_i b hyb;have hfresh : ∀ z, z ∈ H.take i ∨ z ∈ H.drop (i + 1) → z.id ≠ some b := fun z hz hzb => by
    obtain ⟨hm, hne⟩ := hother z hz
    rcases hid b hyb with h1 | h1
    ·exact hne b hzb h1
    ·have := (eH (h.own z hm) hzb).2; omega
   rw [List.nodup_append] at hsub ⊢;refine ⟨hsub.1, List.nodup_cons.2 ⟨fun hm => ?_, hsub.2.1⟩, fun u hu v hv => ?_⟩
   ·obtain ⟨z, hz, hzb⟩ := List.mem_filterMap.1 hm;exact hfresh z (.inr hz) hzb
   ·rcases List.mem_cons.1 hv with rfl | hv
    ·rintro rfl;obtain ⟨z, hz, hzb⟩ := List.mem_filterMap.1 hu;exact hfresh z (.inl hz) hzb
    ·exact hsub.2.2 u hu v hv
end
section
variable {w0 w w' : World} {H : List HE}
theorem Hp.uo (h : Hp w0 H w) {i b : Nat} {t : TypeId} {cs : List Value} {fz : Nat × Nat} (hi : H[i]? = some (.blk b t cs fz)) : Rd w ⟨b, 0, none⟩ cs := fun j u hu => by
 have h1 := (h.at_ hi).2.1;rw [eG, Nat.zero_add, cell_of_row w b j _ t fz h1];simpa using hu
theorem Hp.dK (h : Hp w0 H w) {i b o : Nat} {t : TypeId} {cs : List Value} {fz : Nat × Nat} {v : Value} (hi : H[i]? = some (.blk b t cs fz)) (hv : cs[o]? = some v) : w.cell? ⟨b, o, none⟩ = some v := by
 have := h.uo hi o v hv;rwa [eG, Nat.zero_add] at this
theorem Hp.aw (h : Hp w0 H w) {i b o n : Nat} {t : TypeId} {cs vs : List Value} {fz : Nat × Nat} (hi : H[i]? = some (.blk b t cs fz)) (hv : (cs.drop o).take n = vs) : Rd w ⟨b, o, none⟩ vs := by
 have := ((h.uo hi).drop o).take n;rwa [eG, Nat.zero_add, hv] at this
theorem vP {base : Nat} {t : TypeId} {A : Option Addr} {n c sz : Nat} {xs : List Value} (h : w.ownsRow base t sz (.slice A n c) n xs) : Sl w A n sz xs := by
 refine ⟨h.1, fun hn => ?_⟩;obtain ⟨g, cap, hv, _, hlt⟩ := h.form hn;have hA : A = some ⟨g, 0, none⟩ := by injection hv
 subst hA;exact ⟨_, rfl, h.cells (g := g) rfl⟩
theorem Hp.fO (h : Hp w0 H w) {i n c sz : Nat} {A : Option Addr} {t : TypeId} {xs : List Value} (hi : H[i]? = some (.row A n c t sz xs)) (hn : 0 < n) : ∃ g, A = some ⟨g, 0, none⟩ := by
 obtain ⟨g, cap, hv, _⟩ := World.ownsRow.form (h.at_ hi) hn;injection hv with hA
 exact ⟨g, hA⟩
theorem Hp.cE (h : Hp w0 H w) {i b n c sz o : Nat} {t : TypeId} {xs : List Value} {v : Value} (hi : H[i]? = some (.row (some ⟨b, 0, none⟩) n c t sz xs)) (hv : xs[o]? = some v) : w.cell? ⟨b, o, none⟩ = some v := by
 have := World.ownsRow.cells (h.at_ hi) (g := b) rfl o v hv;rwa [eG, Nat.zero_add] at this
theorem Hp.Am (h : Hp w0 H w) {i n c sz : Nat} {A : Option Addr} {t : TypeId} {xs : List Value} (hi : H[i]? = some (.row A n c t sz xs)) : xs.length = n * sz := (h.at_ hi).1
theorem Hp.aD (h : Hp w0 H w) {i n c sz : Nat} {A : Option Addr} {t : TypeId} {xs : List Value} (hi : H[i]? = some (.row A n c t sz xs)) : Sl w A n sz xs := vP (h.at_ hi)
end
section
variable {P : Program} {ρ : Rf} {w : World} {d : Option Nat} {ty : TypeId} {pos : String} {af : Array Edge} {g : Option (Nat × Bool)}
theorem kQ {t : TypeId} {x : Operand} {ad : Addr} {n by' : Nat} {zc vs : List Value} (ht : cZ P t = some (n, true, by', zc)) (hx : ev ρ x = .pointer (some ad)) (hr : Rd w ad vs) (hl : vs.length = n) :
  (execOp (ev ρ) ⟨d, .load t x, ty, pos, af, g⟩).run P w = .ok (.value (.agg vs.toArray)) w := by
 subst hl;simp [execOp, hx, Instr.loadAt, Instr.sureAddr, loadVar, ic ht, dV ht, run_loadCells_list (P := P) w ad vs hr]
theorem gP {t : TypeId} {x : Operand} {ad : Addr} {n by' : Nat} {zc : List Value} {v : Value} (ht : cZ P t = some (n, false, by', zc)) (hx : ev ρ x = .pointer (some ad)) (hc : w.cell? ad = some v) :
  (execOp (ev ρ) ⟨d, .load t x, ty, pos, af, g⟩).run P w = .ok (.value v) w := by
 simp [execOp, hx, Instr.loadAt, Instr.sureAddr, loadVar, ic ht, run_load, hc]
theorem aO {t : TypeId} {ad : Addr} {n by' : Nat} {zc vs : List Value} (ht : cZ P t = some (n, true, by', zc)) (hr : Rd w ad vs) (hl : vs.length = n) :
  (loadVar t ad).run P w = .ok (.agg vs.toArray) w := by
 subst hl;simp [loadVar, ic ht, dV ht, run_loadCells_list (P := P) w ad vs hr]
def g9 (P : Program) (s : TypeId) (i : Nat) : Option (Nat × TypeId) :=
 match P.underlying s with
 | some (.struct fs) => match fs[i]? with
  | some f => if P.cellsOf f.type = 0 then none else some (f.offset, f.type)
  | none => none
 | _ => none
theorem iq {s : TypeId} {x : Operand} {f b o off : Nat} {ft : TypeId} (hf : g9 P s f = some (off, ft)) (hx : ev ρ x = .pointer (some ⟨b, o, none⟩)) :
  (execOp (ev ρ) ⟨d, .fieldAddr s x f, ty, pos, af, g⟩).run P w = .ok (.value (.pointer (some ⟨b, o + off, none⟩))) w := by
 unfold g9 at hf;split at hf
 ·rename_i fs hs;split at hf
  ·rename_i fd hfd;split at hf
   ·cases hf
   ·rename_i hc;simp only [Option.some.injEq, Prod.mk.injEq] at hf;obtain ⟨rfl, rfl⟩ := hf;have hsz : ∃ i, P.info? fd.type = some i ∧ i.size ≠ 0 := by
     unfold Program.cellsOf at hc
     cases hi : P.info? fd.type with
     | none => simp [hi] at hc
     | some i => exact ⟨i, rfl, by simpa [hi] using hc⟩
    obtain ⟨i, hi, hi0⟩ := hsz;simp [execOp, hx, Instr.fieldAt, run_underlying hs, hfd, Instr.sureAddr, fieldPlace, sizeOf, typeInfo, hi, hi0, eG]
  ·cases hf
 ·cases hf
theorem lv {s : TypeId} {x : Operand} {f off : Nat} {ad : Addr} {ft : TypeId} (hf : g9 P s f = some (off, ft)) (hx : ev ρ x = .pointer (some ad)) :
  (execOp (ev ρ) ⟨d, .fieldAddr s x f, ty, pos, af, g⟩).run P w = .ok (.value (.pointer (some (ad.add off)))) w := by
 unfold g9 at hf;split at hf
 ·rename_i fs hs;split at hf
  ·rename_i fd hfd;split at hf
   ·cases hf
   ·rename_i hc;simp only [Option.some.injEq, Prod.mk.injEq] at hf;obtain ⟨rfl, rfl⟩ := hf;have hsz : ∃ i, P.info? fd.type = some i ∧ i.size ≠ 0 := by
     unfold Program.cellsOf at hc
     cases hi : P.info? fd.type with
     | none => simp [hi] at hc
     | some i => exact ⟨i, rfl, by simpa [hi] using hc⟩
    obtain ⟨i, hi, hi0⟩ := hsz;simp [execOp, hx, Instr.fieldAt, run_underlying hs, hfd, Instr.sureAddr, fieldPlace, sizeOf, typeInfo, hi, hi0]
  ·cases hf
 ·cases hf
end
end Go.Proofs.YteeckcbbnegmcaaGreatDoor
namespace Go.Proofs.YteeckcbbnegmcaaGreatDoor
open Go.RowKit
variable {ro : Mode}
def cg (cs : List Value) (o : Nat) (vs : List Value) : List Value := cs.take o ++ vs ++ cs.drop (o + vs.length)
theorem eK {cs vs : List Value} {o : Nat} (h : o + vs.length ≤ cs.length) : (cg cs o vs).length = cs.length := by
 simp only [cg, List.length_append, List.length_take, List.length_drop]; omega
theorem o5 (cs : List Value) (o : Nat) : cg cs o [] = cs := by simp [cg]
theorem ng {cs vs : List Value} {o : Nat} {v : Value} (h : o + (v :: vs).length ≤ cs.length) : cg cs o (v :: vs) = cg (cs.set o v) (o + 1) vs := by
 simp only [List.length_cons] at h;have h0 : cs.set o v = cs.take o ++ v :: cs.drop (o + 1) := by rw [List.set_eq_take_append_cons_drop, if_pos Dq]
 have h2 : (cs.take o).length = o := by simp; omega
 have h1 : (cs.set o v).take (o + 1) = cs.take o ++ [v] := by
  rw [h0, List.take_append, h2, List.take_of_length_le Dq];simp
 have h3 : (cs.set o v).drop (o + 1 + vs.length) = cs.drop (o + 1 + vs.length) := List.drop_set_of_lt Dq;unfold cg;rw [h1, h3];simp [Nat.add_assoc, Nat.add_comm 1]
theorem pK {a b c : World} {r : Option Nat} (h : a.grownBy b r) (k : b.grownBy c r) : a.grownBy c r :=
 ⟨k.os.trans h.os, k.tape.trans h.tape, k.output.trans h.output, Nat.le_trans h.size k.size, fun i hi hne => (k.block i (Nat.lt_of_lt_of_le hi h.size) hne).trans (h.block i hi hne)⟩
theorem tf (w : World) (b o : Nat) (v : Value) : w.grownBy (w.setCell ⟨b, o, none⟩ v) (some b) :=
 ⟨rfl, rfl, rfl, by simp [World.setCell], fun k _ hne => Below.heap_setCell w _ v k (fun e => hne (by rw [e]))⟩
section
variable {P : Program}
theorem ff {b : Nat} {t : TypeId} {fz : Nat × Nat} (o : Nat) : ∀ (vs : List Value) (i : Nat) (cs : List Value) (w : World), w.heap[b]? = some (.cells cs.toArray t fz) → (cs.length ≤ fz.1 ∨ fz.2 ≤ fz.1) →
  o + i + vs.length ≤ cs.length → (∀ v ∈ vs, v.oneCell' = true) →
  ∃ w', (storeCells ⟨b, o, none⟩ vs i).run P w = .ok () w' ∧ w'.heap[b]? = some (.cells (cg cs (o + i) vs).toArray t fz) ∧ w.grownBy w' (some b) ∧ w'.heap.size = w.heap.size
 | [], i, cs, w, hw, _, _, _ => ⟨w, by simp [storeCells], by rw [o5]; exact hw, World.grownBy.refl _ _, rfl⟩
 | v :: vs, i, cs, w, hw, hf, hl, h1 => by
  simp only [List.length_cons] at hl;have hoi : o + i < cs.length := Dq;have hc : w.cell? ⟨b, o + i, none⟩ = some cs[o + i] := by
   rw [cell_of_row w b (o + i) _ t fz hw];simp [List.getElem?_eq_getElem hoi]
  have hfr : w.frozen? ⟨b, o + i, none⟩ = false := by
   simp only [World.frozen?, hw]
   rcases hf with hf | hf <;> simp <;> omega
  have hw2 : (w.setCell ⟨b, o + i, none⟩ v).heap[b]? = some (.cells (cs.set (o + i) v).toArray t fz) := by
   simp [World.setCell, Array.getElem?_modify, hw]
  obtain ⟨w', hr, hb', hg, hs⟩ := ff (b := b) (t := t) (fz := fz) o vs (i + 1) (cs.set (o + i) v) _ hw2 (by simpa using hf) (by simp; omega) (fun u hu => h1 u (List.mem_cons_of_mem _ hu));refine ⟨w', ?_, ?_, pK (tf w b (o + i) v) hg, hs.trans (by simp [World.setCell])⟩
  ·simp only [storeCells, Sem.run_bind, eG, run_store P w ⟨b, o + i, none⟩ v .plain (h1 v (List.mem_cons_self)), hc, hfr];simpa using hr
  ·rw [ng (by simp; omega)];exact hb'
end
def iA (pl : Nat → Option (Nat × Nat)) : List Value → List (Nat × Value) → Option (List Value)
 | cs, [] => some cs
 | cs, (i, v) :: r =>
  match pl i with
  | none => none
  | some (off, size) => if v.cells.toList.length ≠ size ∨ cs.length < off + v.cells.toList.length then none else iA pl (cg cs off v.cells.toList) r
theorem k5 : ∀ (vs : List Value) (k o : Nat) (cs : List Value), o + k + vs.length ≤ cs.length →
  (vs.zipIdx k).foldl (fun (cs : Array Value) (x : Value × Nat) => cs.setIfInBounds (o + x.2) x.1) cs.toArray = (cg cs (o + k) vs).toArray
 | [], k, o, cs, _ => by simp [o5]
 | v :: vs, k, o, cs, h => by
  rw [List.zipIdx_cons, List.foldl_cons];simp only [List.setIfInBounds_toArray];rw [k5 vs (k + 1) o (cs.set (o + k) v) (by simp at h ⊢; omega), ng (by simp at h ⊢; omega)]
  rfl
theorem k4 {pl : Nat → Option (Nat × Nat)} : ∀ (ps : List (Nat × Value)) (zs cs : List Value), iA pl zs ps = some cs → Instr.fill pl zs.toArray ps = some cs.toArray
 | [], zs, cs, h => by simp only [iA, Option.some.injEq] at h; subst h; rfl
 | (i, v) :: r, zs, cs, h => by
  unfold iA at h;unfold Instr.fill;split at h
  ·cases h
  ·rename_i off size hpl;split at h
   ·cases h
   ·rename_i hc;simp only [ne_eq, not_or, Decidable.not_not, Nat.not_lt] at hc;simp only [hpl];have h1 : ¬ ((v.cells.size ≠ size || decide (off + v.cells.size > zs.toArray.size)) = true) := by
     have e : v.cells.size = v.cells.toList.length := by simp
     simp only [e, hc.1, List.size_toArray, Bool.or_eq_true, decide_eq_true_eq, ne_eq, not_true, decide_false, Bool.false_eq_true, false_or];omega
    rw [if_neg h1];have h2 : v.cells.zipIdx.foldl (fun (cs : Array Value) (x : Value × Nat) => cs.setIfInBounds (off + x.2) x.1) zs.toArray = (cg zs off v.cells.toList).toArray := by
     have := k5 v.cells.toList 0 off zs Dq;rw [Nat.add_zero] at this;rw [← this, ← Array.foldl_toList, Array.toList_zipIdx]
    exact (congrArg (fun x => Instr.fill pl x r) h2).trans (k4 r _ cs h)
def fS : Nat → List Value → List Value
 | 0, _ => []
 | n + 1, zc => zc ++ fS n zc
theorem jB (n : Nat) (zc : List Value) : (fS n zc).length = n * zc.length := by
 induction n with
 | zero => simp [fS]
 | succ n ih => simp [fS, ih, Nat.add_mul, Nat.add_comm]
theorem rN : ∀ (n : Nat) (zc : List Value) (i : Nat), i < n * zc.length → (fS n zc)[i]? = zc[i % zc.length]?
 | 0, zc, i, h => by simp at h
 | n + 1, zc, i, h => by
  unfold fS
  rcases Nat.lt_or_ge i zc.length with hi | hi
  ·rw [List.getElem?_append_left hi, Nat.mod_eq_of_lt hi]
  ·rw [List.getElem?_append_right hi, rN n zc (i - zc.length) (by rw [Nat.add_mul] at h; omega)];congr 1;rw [Nat.mod_eq_sub_mod hi]
theorem iS (n : Nat) (zc : List Value) : (Array.range (n * zc.length)).map (fun i => zc.toArray[i % zc.length]!) = (fS n zc).toArray := by
 apply Array.ext_getElem?;intro i
 rcases Nat.lt_or_ge i (n * zc.length) with h | h
 ·have hpos : 0 < zc.length := by
   rcases Nat.eq_zero_or_pos zc.length with h0 | h0
   ·rw [h0] at h; omega
   ·exact h0
  have hm : i % zc.length < zc.length := Nat.mod_lt _ hpos;simp [h, rN n zc i h, List.getElem?_eq_getElem hm]
 ·have h2 : (fS n zc).length ≤ i := by rw [jB]; exact h
  simp [h2, h]
def pI (ρ : Rf) : List (Nat × Operand) → List (Nat × Value)
 | [] => []
 | (i, x) :: l => (i, ev ρ x) :: pI ρ l
theorem nP {ρ : Rf} (parts : Array (Nat × Operand)) {ps : List (Nat × Value)} (h : pI ρ parts.toList = ps) : (parts.map fun (i, x) => (i, ev ρ x)) = ps.toArray := by
 have h1 : ∀ l : List (Nat × Operand), l.map (fun (i, x) => (i, ev ρ x)) = pI ρ l := by
  intro l
  induction l with
  | nil => rfl
  | cons a l ih => simp only [List.map_cons, ih]; rfl
 subst h;rw [← h1];apply Array.ext';simp
section
variable {P : Program} {N : Nat} {ops : Array Oper} {Q : Kq} {ρ : Rf} {w w0 : World} {rest : List Oper} {H : List HE} {d : Nat} {ty : TypeId} {pos : String} {af : Array Edge}
theorem pw {w' : World} {r : Option Nat} (h : Below w0.heap.size w0 w) (hg : w.grownBy w' r) (hr : ∀ k, r = some k → w0.heap.size ≤ k) : Below w0.heap.size w0 w' := h.grown hg h.size hr
theorem Hp.grown {w' : World} {x y : HE} {i : Nat} (h : Hp w0 H w) (hi : H[i]? = some x) (hg : w.grownBy w' x.id) (hid : y.id = x.id ∨ y.id = none ∨ y.id = some w.heap.size) (hy : y.holds w0.heap.size w') : Hp w0 (H.set i y) w' := by
 refine h.Bd hi (fun b hb => ?_) (pw h.below hg fun k hk => (eH (h.at_ hi) hk).1) (fun b hlt hne => hg.block b hlt (fun e => hne e.symm)) hy
 rcases hid with e | e | e
 ·exact .inl (by rw [← e]; exact hb)
 ·rw [e] at hb; cases hb
 ·rw [e] at hb;injection hb with hb
  exact .inr Dq
theorem Hp.eN (h : Hp w0 H w) (t : TypeId) (sz : Nat) : Hp w0 (.row none 0 0 t sz [] :: H) w :=
 ⟨h.below, fun x hx => by
  rcases List.mem_cons.1 hx with rfl | hx
  ·exact World.ownsRow_nil _ _ _ _
  ·exact h.own x hx, by show (List.filterMap HE.id H).Nodup; exact h.nd⟩
theorem Hp.qT (h : Hp w0 H w) (t : TypeId) (cs : List Value) : Hp w0 (.blk w.heap.size t cs (0, 0) :: H) (w.alloc (.cells cs.toArray t)) :=
 h.a9 ((Below.refl _ _).alloc (Nat.le_refl _) _) ⟨Nat.le_refl _, heap_alloc_new w _, .inr (Nat.le_refl _)⟩
theorem Hp.rl (h : Hp w0 H w) (t : TypeId) (sz n : Nat) (cs : List Value) (hl : cs.length = n * sz) (hn : n ≤ maxLen) : Hp w0 (.row (some ⟨w.heap.size, 0, none⟩) n n t sz cs :: H) (w.alloc (.cells cs.toArray t)) :=
 h.a9 ((Below.refl _ _).alloc (Nat.le_refl _) _) ⟨hl, .inr ⟨w.heap.size, n, cs.toArray, rfl, Nat.le_refl _, heap_alloc_new w _, Nat.le_refl _, hn, by simpa using hl, by simp only [List.take_of_length_le (show cs.length ≤ n * sz by omega)]⟩⟩
theorem BN (hh : Hp w0 H w) {t : TypeId} {x : Operand} {cs : List Value} {v : Value} (hx : ev ρ x = v) (hc : v.cells = cs.toArray) (hN : d < N)
  (k : ∀ b w', Hp w0 (.blk b t cs (0, 0) :: H) w' → WL ro P N ops Q rest (cx ρ d (.pointer (some ⟨b, 0, none⟩))) w') : WL ro P N ops Q (⟨some d, .box t x, ty, pos, af, none⟩ :: rest) ρ w :=
 aU rfl rfl hN (w' := w.alloc (.cells cs.toArray t)) (v := .pointer (some ⟨w.heap.size, 0, none⟩)) (by simp [execOp, hx, Instr.box, newVar, newRow, hc]) (k _ _ (hh.qT t cs))
theorem yY (hh : Hp w0 H w) {t : TypeId} {n by' : Nat} {ag : Bool} {zc : List Value} (ht : cZ P t = some (n, ag, by', zc)) (hN : d < N)
  (k : ∀ b w', Hp w0 (.blk b t zc (0, 0) :: H) w' → WL ro P N ops Q rest (cx ρ d (.pointer (some ⟨b, 0, none⟩))) w') : WL ro P N ops Q (⟨some d, .alloc t, ty, pos, af, none⟩ :: rest) ρ w := by
 obtain ⟨z, hz, hzc⟩ := cS (w := w) ht;exact aU rfl rfl hN (w' := w.alloc (.cells zc.toArray t)) (v := .pointer (some ⟨w.heap.size, 0, none⟩)) (by simp [execOp, Instr.alloc, newVar, newRow, hz, hzc]) (k _ _ (hh.qT t zc))
theorem oN (hh : Hp w0 H w) {t t' : TypeId} {x y : Operand} {i b o n by' : Nat} {ag : Bool} {zc cs vs : List Value} {fz : Nat × Nat} {v : Value} (hx : ev ρ x = .pointer (some ⟨b, o, none⟩)) (hi : H[i]? = some (.blk b t' cs fz))
  (hy : ev ρ y = v) (hc : v.cells = vs.toArray) (ht : cZ P t = some (n, ag, by', zc)) (hl : vs.length = n) (ho : o + n ≤ cs.length) (h1 : (vs.all Value.oneCell') = true)
  (k : ∀ w', Hp w0 (H.set i (.blk b t' (cg cs o vs) fz)) w' → WL ro P N ops Q rest ρ w') : WL ro P N ops Q (⟨none, .store t x y, ty, pos, af, none⟩ :: rest) ρ w := by
 have hb := hh.at_ hi;obtain ⟨w', hr, hb', hg, hs⟩ := ff (P := P) (b := b) (t := t') (fz := fz) o vs 0 cs w hb.2.1 hb.2.2 Dq (by simpa using h1);refine vQ rfl rfl (w' := w') ?_ (k w' (hh.grown hi hg (.inl rfl) ⟨hb.1, by simpa using hb', by rw [eK Dq]; exact hb.2.2⟩));simp [execOp, hx, hy, Instr.storeAt, Instr.sureAddr, storeVar, dV ht, hl, hc, hr]
theorem bA (hh : Hp w0 H w) {t t' : TypeId} {x y : Operand} {i b o n m c sz by' : Nat} {ag : Bool} {zc xs vs : List Value} {v : Value} (hx : ev ρ x = .pointer (some ⟨b, o, none⟩)) (hi : H[i]? = some (.row (some ⟨b, 0, none⟩) m c t' sz xs))
  (hy : ev ρ y = v) (hc : v.cells = vs.toArray) (ht : cZ P t = some (n, ag, by', zc)) (hl : vs.length = n) (ho : o + n ≤ xs.length) (h1 : (vs.all Value.oneCell') = true)
  (k : ∀ w', Hp w0 (H.set i (.row (some ⟨b, 0, none⟩) m c t' sz (cg xs o vs))) w' → WL ro P N ops Q rest ρ w') : WL ro P N ops Q (⟨none, .store t x y, ty, pos, af, none⟩ :: rest) ρ w := by
 have hrow := hh.at_ hi;obtain ⟨hlen, h2⟩ := hrow
 rcases h2 with ⟨h2, _⟩ | ⟨g, cap, cur, hv, hg, hheap, hmc, hcm, hcur, htake⟩
 ·injection h2 with h2; cases h2
 ·injection hv with hA hn hcap
  injection hA with hA
  injection hA with hA
  subst hA; subst hcap;have hcl : cur.size = cur.toList.length := by simp
  have hle : m * sz ≤ c * sz := Nat.mul_le_mul_right _ hmc;obtain ⟨w', hr, hb', hgr, hs⟩ := ff (P := P) (b := b) (t := t') (fz := (0, 0)) o vs 0 cur.toList w (by simpa using hheap) (.inr (Nat.le_refl _)) (by rw [← hcl]; omega) (by simpa using h1);refine vQ rfl rfl (w' := w') ?_ (k w' (hh.grown hi hgr (.inl rfl) ⟨by rw [eK Dq]; exact hlen, .inr ⟨b, c, (cg cur.toList o vs).toArray, rfl, hg, by simpa using hb', hmc, hcm, ?_, ?_⟩⟩))
  ·simp [execOp, hx, hy, Instr.storeAt, Instr.sureAddr, storeVar, dV ht, hl, hc, hr]
  ·simp only [List.size_toArray];rw [eK (by rw [← hcl]; omega), ← hcl, hcur]
  ·simp only [cg];rw [← htake];have h5 : o + vs.length ≤ m * sz := Dq;have h6 : m * sz ≤ cur.toList.length := by rw [← hcl, hcur]; exact hle
   rw [List.take_take, Nat.min_eq_left Dq, List.drop_take, List.append_assoc, List.append_assoc, List.take_append, List.take_append];simp only [List.length_take, Nat.min_eq_left (show o ≤ cur.toList.length by omega)];rw [List.take_of_length_le (l := cur.toList.take o) (by simp; omega), List.take_of_length_le (l := vs) Dq];congr 2;congr 1;omega
theorem bf (hh : Hp w0 H w) {t e : TypeId} {len sz by' : Nat} {ag : Bool} {parts : Array (Nat × Operand)} {ps : List (Nat × Value)} {zc cs : List Value} (ht : P.underlying t = some (.slice e)) (hte : cZ P e = some (sz, ag, by', zc))
  (hp : pI ρ parts.toList = ps) (hzl : zc.length = sz) (hf : iA (fun i => some (i * sz, sz)) (fS len zc) ps = some cs) (h0 : ¬ len * sz = 0) (hle : len ≤ 1000) (hsl : len * sz ≤ 16777216) (hl : cs.length = len * sz) (hN : d < N)
  (k : ∀ b w', Hp w0 (.row (some ⟨b, 0, none⟩) len len e sz cs :: H) w' → WL ro P N ops Q rest (cx ρ d (.slice (some ⟨b, 0, none⟩) len len)) w') : WL ro P N ops Q (⟨some d, .buildSlice t len parts, ty, pos, af, none⟩ :: rest) ρ w := by
 obtain ⟨z, hz, hzc⟩ := cS (w := w) hte;refine aU rfl rfl hN (w' := w.alloc (.cells cs.toArray e)) (v := .slice (some ⟨w.heap.size, 0, none⟩) len len) ?_ (k _ _ (hh.rl e sz len cs hl (by unfold maxLen; omega)));have h16 : ¬ 2 ^ 24 < len * sz := Dq;have hf' := k4 _ _ _ hf;rw [← iS, hzl] at hf';have hzs : zc.toArray.size = sz := by simpa using hzl
 have hp' := nP parts hp;simp only [execOp, hp', Instr.buildSlice, Sem.run_bind, run_underlying ht, Result.andThen_ok, dV hte, gt_iff_lt, if_neg h16, if_neg h0, hz, hzc, Sem.run_pure, hzs, hf'];simp [newRow]
def lT (P : Program) (t : TypeId) : Option (List (Nat × Nat)) :=
 match P.underlying t with
 | some (.struct fs) => fs.toList.mapM fun f => (P.info? f.type).map fun i => (f.offset, i.size)
 | _ => none
theorem pB {P : Program} {w : World} : ∀ (l : List Field) (pl : List (Nat × Nat)), (l.mapM fun f => (P.info? f.type).map fun i => (f.offset, i.size)) = some pl →
  (l.mapM (m := Sem) fun f => do pure (f.offset, ← sizeOf f.type)).run P w = .ok pl w
 | [], pl, h => by
  simp at h; subst h; simp
 | f :: l, pl, h => by
  rw [List.mapM_cons] at h
  cases hi : P.info? f.type with
  | none => simp [hi] at h
  | some i =>
   cases hr : l.mapM (fun f => (P.info? f.type).map fun i => (f.offset, i.size)) with
   | none => simp [hr] at h
   | some pl' =>
    simp [hi, hr] at h;have ih := pB (w := w) l pl' hr;have hs : (sizeOf f.type).run P w = .ok i.size w := by simp [sizeOf, typeInfo, hi]
    rw [List.mapM_cons, Sem.run_bind, Sem.run_bind, hs, Result.andThen_ok, Sem.run_pure, Result.andThen_ok, Sem.run_bind, ih, Result.andThen_ok, Sem.run_pure, h]
theorem rq {dd : Option Nat} {g : Option (Nat × Bool)} {t : TypeId} {n by' : Nat} {parts : Array (Nat × Operand)} {ps : List (Nat × Value)} {zc cs : List Value} {pl : List (Nat × Nat)} (hte : cZ P t = some (n, true, by', zc))
  (hpl : lT P t = some pl)
  (hp : pI ρ parts.toList = ps) (hf : iA (pl[·]?) zc ps = some cs) :
  (execOp (ev ρ) ⟨dd, .build t parts, ty, pos, af, g⟩).run P w = .ok (.value (.agg cs.toArray)) w := by
 obtain ⟨z, hz, hzc⟩ := cS (w := w) hte;unfold lT at hpl;split at hpl
 ·rename_i fs hfs;have h1 := pB (w := w) _ _ hpl;have h2 : (fs.mapM (m := Sem) fun f => do pure (f.offset, ← sizeOf f.type)).run P w = .ok pl.toArray w := by
   have e : fs = fs.toList.toArray := by simp
   rw [e, List.mapM_toArray, Sem.run_map, h1]
   rfl
  have hf' := k4 _ _ _ hf;have hpp : (fun (x : Nat) => pl.toArray[x]?) = fun x => pl[x]? := by funext x; simp
  have hp' := nP parts hp;simp only [execOp, hp', Instr.build, Sem.run_bind, hz, Result.andThen_ok, run_underlying hfs, h2, hzc, hpp, hf', Sem.run_pure]
 ·cases hpl
end
end Go.Proofs.YteeckcbbnegmcaaGreatDoor
namespace Go.Proofs.YteeckcbbnegmcaaGreatDoor
open Go.RowKit
variable {ro : Mode}
theorem fZ (A : Option Addr) (n c : Nat) : (Value.slice A n c).ownBlock = A.map (·.block) := by cases A <;> rfl
theorem n5 (n : Nat) (z : Value) : fS n [z] = List.replicate n z := by
 induction n with
 | zero => rfl
 | succ n ih => simp [fS, ih, List.replicate_succ]
theorem oH {w : World} {ad : Addr} {xs : List Value} {m : Int} {k : Nat} {v : Value} (h : Rd w ad xs) (hx : xs[k]? = some v) (hm : m = (k : Int)) : w.cell? (ad.add (m.toNat * 1)) = some v := by
 subst hm;simpa using h k v hx
def jj (l : List UInt8) : List Value := l.map fun c => .int .u8 c.toNat
theorem gk (l : List UInt8) : (jj l).length = l.length := by simp [jj]
section
variable {P : Program} {w : World}
theorem l9 (base : Nat) (t ty e : TypeId) (i : TypeInfo) (ht : P.underlying t = some (.slice e)) (hi : P.info? e = some i)
  (v : Value) (n : Nat) (xs : List Value) (sz : Nat) (hown : w.ownsRow base e sz v n xs) (c : Nat) : (Builtin.append_ #[t, t] ty #[v, .slice none 0 c]).run P w = .ok v w := by
 rcases hown.2 with ⟨rfl, rfl⟩ | ⟨g, cap, cur, rfl, _, _, hnc, _⟩
 ·simp [Builtin.append_, run_underlying ht, sizeOf, typeInfo, hi, Builtin.lenOf, Builtin.firstCells]
 ·simp [Builtin.append_, run_underlying ht, sizeOf, typeInfo, hi, Builtin.lenOf, Builtin.firstCells, hnc, storeCells]
theorem pT (base : Nat) (t ty e : TypeId) (sz by' : Nat) (ag : Bool) (zc : List Value) (ht : P.underlying t = some (.slice e)) (hte : cZ P e = some (sz, ag, by', zc)) (hzl : zc.length = sz) (hsz : 0 < sz)
  (A : Option Addr) (n c : Nat) (xs : List Value) (hown : w.ownsRow base e sz (.slice A n c) n xs) (B : Option Addr) (m c' : Nat) (news : List Value) (hsl : Sl w B m sz news) (h1 : ∀ u ∈ news, u.oneCell' = true)
  (h63 : n + m ≤ maxLen) (hbytes : (n + m) * by' ≤ 140737488355328) (hbase : base ≤ w.heap.size) :
  ∃ A' c2 w', (Builtin.append_ #[t, t] ty #[.slice A n c, .slice B m c']).run P w = .ok (.slice A' (n + m) c2) w' ∧ w'.ownsRow base e sz (.slice A' (n + m) c2) (n + m) (xs ++ news) ∧
   w.grownBy w' (A.map (·.block)) ∧ (A'.map (·.block) = A.map (·.block) ∨ A'.map (·.block) = none ∨ A'.map (·.block) = some w.heap.size) := by
 obtain ⟨i, z, d, hi, hd, hz, hs, hby, hzc, _⟩ := eD hte;have hzs : z.cells.size = sz := by rw [hzc]; simpa using hzl
 have fin : ∀ (ad : Addr), B = some ad → Rd w ad news → ∃ A' c2 w', (Builtin.append_ #[t, t] ty #[.slice A n c, .slice B m c']).run P w = .ok (.slice A' (n + m) c2) w' ∧ w'.ownsRow base e sz (.slice A' (n + m) c2) (n + m) (xs ++ news) ∧
   w.grownBy w' (A.map (·.block)) ∧ (A'.map (·.block) = A.map (·.block) ∨ A'.map (·.block) = none ∨ A'.map (·.block) = some w.heap.size) := by
  rintro ad rfl hr;obtain ⟨v', w', hrun, h2, h3, _, h5⟩ := run_append_own_at (P := P) w base t ty e i z sz by' ht hi hz hs hby hzs hsz (.slice A n c) n xs hown ad m c' news hsl.1 hr h1 h63 hbytes hbase;rw [fZ] at h3
  rcases h2.2 with ⟨hv, h0⟩ | ⟨g, cap, cur, hv, r⟩
  ·subst hv;refine ⟨none, 0, w', by rw [hrun, h0], by rw [h0]; exact h0 ▸ h2, h3, .inr (.inl rfl)⟩
  ·subst hv;refine ⟨_, _, w', hrun, h2, h3, ?_⟩
   rcases h5 with h5 | h5
   ·exact .inl (by rw [← fZ _ (n + m) cap, h5, fZ])
   ·exact .inr (.inr (by rw [← fZ _ (n + m) cap, h5]))
 rcases Nat.eq_zero_or_pos m with h0 | h0
 ·subst h0;have hnews : news = [] := List.eq_nil_of_length_eq_zero (by simpa using hsl.1);subst hnews
  cases B with
  | none => exact ⟨A, c, w, l9 base t ty e i ht hi _ n xs sz hown c', by simpa using hown, World.grownBy.refl _ _, .inl rfl⟩
  | some ad => exact fin ad rfl (fun j u hu => by simp at hu)
 ·obtain ⟨ad, hB, hr⟩ := hsl.2 h0;exact fin ad hB hr
theorem pO {A : Option Addr} {n c : Nat} {l : List UInt8} (h : Sl w A n 1 (jj l)) : (Conv.bytesToString (.slice A n c)).run P w = .ok (.string ⟨l.toArray⟩) w := by
 have hn : l.length = n := by have := h.1; rw [gk] at this; omega
 cases A with
 | none =>
  have h0 : n = 0 := by
   rcases Nat.eq_zero_or_pos n with h0 | h0
   ·exact h0
   ·obtain ⟨ad, h1, _⟩ := h.2 h0; cases h1
  have : l = [] := List.eq_nil_of_length_eq_zero Dq;subst this;simp [Conv.bytesToString, ByteArray.empty, ByteArray.emptyWithCapacity]
  rfl
 | some a =>
  have hr : Rd w a (jj l) := by
   rcases Nat.eq_zero_or_pos n with h0 | h0
   ·have : l = [] := List.eq_nil_of_length_eq_zero Dq;subst this;intro j u hu; simp [jj] at hu
   ·obtain ⟨ad, h1, h2⟩ := h.2 h0;injection h1 with h1; subst h1; exact h2
  have e1 : jj l = (l.map fun c : UInt8 => (c.toNat : Int)).map (Value.int .u8) := by simp [jj]
  have hld := run_loadCells_list (P := P) w a (jj l) hr;rw [gk, hn, e1] at hld;rw [run_bytesToString w a n c _ hld];congr 2;have : ∀ (l : List UInt8) (s : ByteArray), (l.map fun c : UInt8 => (c.toNat : Int)).foldl (fun r n => r.push (UInt8.ofNat n.toNat)) s = ⟨s.data ++ l.toArray⟩ := by
   intro l
   induction l with
   | nil => intro s; simp
   | cons c l ih =>
    intro s;simp only [List.map_cons, List.foldl_cons];rw [ih];have : (s.push (UInt8.ofNat ((c.toNat : Int)).toNat)).data = s.data.push c := by simp [ByteArray.push]
    rw [this];congr 1;apply Array.ext';simp
  rw [this];congr 1;apply Array.ext';simp [ByteArray.empty, ByteArray.emptyWithCapacity]
  rfl
end
section
variable {P : Program} {N : Nat} {ops : Array Oper} {Q : Kq} {ρ : Rf} {w w0 : World} {rest : List Oper} {H : List HE} {d : Nat} {ty : TypeId} {pos : String} {af : Array Edge}
theorem ck (hh : Hp w0 H w) {t e : TypeId} {s x : Operand} {i n c m c' sz by' : Nat} {ag : Bool} {A B : Option Addr} {zc xs news : List Value} (hi : H[i]? = some (.row A n c e sz xs)) (hs : ev ρ s = .slice A n c) (hx : ev ρ x = .slice B m c')
  (hsl : Sl w B m sz news) (ht : P.underlying t = some (.slice e)) (hte : cZ P e = some (sz, ag, by', zc)) (hzl : zc.length = sz) (hsz : 0 < sz) (h1 : (news.all Value.oneCell') = true)
  (h63 : n + m ≤ 9223372036854775807) (hbytes : (n + m) * by' ≤ 140737488355328) (hN : d < N)
  (k : ∀ A' c2 w', Hp w0 (H.set i (.row A' (n + m) c2 e sz (xs ++ news))) w' → WL ro P N ops Q rest (cx ρ d (.slice A' (n + m) c2)) w') :
  WL ro P N ops Q (⟨some d, .call ⟨.builtin .append, #[s, x], #[t, t]⟩, ty, pos, af, none⟩ :: rest) ρ w := by
 obtain ⟨A', c2, w', hr, hown, hg, hid⟩ := pT (P := P) w0.heap.size t ty e sz by' ag zc ht hte hzl hsz A n c xs (hh.at_ hi) B m c' news hsl (by simpa using h1) (by unfold maxLen; omega) hbytes hh.size;refine aU rfl rfl hN (w' := w') (v := .slice A' (n + m) c2) ?_ (k A' c2 w' (hh.grown hi hg hid hown));simp only [execOp, resolve, invoke, builtin, Sem.run_bind, Sem.run_pure, Result.andThen_ok, List.map_toArray, List.map_cons, List.map_nil, hs, hx, hr]
theorem gw (hh : Hp w0 H w) {t e : TypeId} {l cp : Operand} {kl kc : IntKind} {L C : Int} {n sz by' : Nat} {ag : Bool} {zc : List Value} (hl : ev ρ l = .int kl L) (hc : ev ρ cp = .int kc C) (hL : L = (n : Int)) (hC : C = (n : Int))
  (ht : P.underlying t = some (.slice e)) (hte : cZ P e = some (sz, ag, by', zc)) (hzl : zc.length = sz) (hb : by' * n ≤ 281474976710656) (h63 : n ≤ 9223372036854775807) (hN : d < N)
  (k : ∀ b w', Hp w0 (.row (some ⟨b, 0, none⟩) n n e sz (fS n zc) :: H) w' → WL ro P N ops Q rest (cx ρ d (.slice (some ⟨b, 0, none⟩) n n)) w') :
  WL ro P N ops Q (⟨some d, .makeSlice t l cp, ty, pos, af, none⟩ :: rest) ρ w := by
 obtain ⟨i, z, dd, hi, hd, hz, hs, hby, hzc, _⟩ := eD hte;subst hL; subst hC;obtain ⟨w', hr, hown, hg⟩ := run_make_full (P := P) w w.heap.size t e i z sz ht hi hz hs kl kc n (by rw [hby]; exact hb) (by unfold maxLen; omega) (Nat.le_refl _);have hzz : (madeCells z.cells (n * sz)).toList = fS n zc := by
  have := iS n zc;rw [hzl] at this;unfold madeCells;rw [hzc];have e2 : zc.toArray.size = sz := by simpa using hzl
  rw [e2, this]
 rw [hzz] at hown;refine aU rfl rfl hN (w' := w') (v := .slice (some ⟨w.heap.size, 0, none⟩) n n) ?_ (k _ w' (hh.a9 ⟨hg.os, hg.tape, hg.output, hg.size, fun j hj => hg.block j hj (by simp)⟩ hown));simp [execOp, hl, hc, hr]
theorem o9 (hh : Hp w0 H w) {t e : TypeId} {sz by' : Nat} {ag : Bool} {zc : List Value} (ht : P.underlying t = some (.slice e)) (hte : cZ P e = some (sz, ag, by', zc)) (hN : d < N)
  (k : ∀ b w', Hp w0 (.row (some ⟨b, 0, none⟩) 0 0 e sz [] :: H) w' → WL ro P N ops Q rest (cx ρ d (.slice (some ⟨b, 0, none⟩) 0 0)) w') : WL ro P N ops Q (⟨some d, .buildSlice t 0 #[], ty, pos, af, none⟩ :: rest) ρ w := by
 refine aU rfl rfl hN (w' := w.alloc (.cells #[] e)) (v := .slice (some ⟨w.heap.size, 0, none⟩) 0 0) ?_ (k _ _ (hh.rl e sz 0 [] (by simp) (by unfold maxLen; omega)));have e0 : Array.range 0 = #[] := rfl;simp [execOp, Instr.buildSlice, run_underlying ht, dV hte, Instr.fill, newRow, e0]
theorem jE {dd : Option Nat} {g : Option (Nat × Bool)} {s t e : TypeId} {x : Operand} {A : Option Addr} {n c : Nat} {l : List UInt8} (hs : P.underlying s = some (.slice e)) (he : P.underlying e = some (.int .u8)) (ht : P.underlying t = some .string)
  (hx : ev ρ x = .slice A n c) (h : Sl w A n 1 (jj l)) : (execOp (ev ρ) ⟨dd, .convert s t x, ty, pos, af, g⟩).run P w = .ok (.value (.string ⟨l.toArray⟩)) w := by
 simp [execOp, hx, run_convert_bytes_string w s t e A n c hs he ht, pO h]
theorem q9 (hh : Hp w0 H w) {s t e : TypeId} {x : Operand} {b : ByteArray} (hs : P.underlying s = some .string) (ht : P.underlying t = some (.slice e)) (he : P.underlying e = some (.int .u8)) (hx : ev ρ x = .string b) (hN : d < N)
  (k : ∀ g c ex w', Hp w0 (.blk g e (jj b.data.toList ++ ex) ((jj b.data.toList ++ ex).length, (jj b.data.toList ++ ex).length + 1) :: H) w' → WL ro P N ops Q rest (cx ρ d (.slice (some ⟨g, 0, none⟩) b.size c)) w') :
  WL ro P N ops Q (⟨some d, .convert s t x, ty, pos, af, none⟩ :: rest) ρ w := by
 let c := grownCap w b.size 0 e
 let ex : List Value := List.replicate (c - b.size) (.int .u8 0)
 let cells : List Value := jj b.data.toList ++ ex
 let w1 := w.drew.alloc (.cells cells.toArray e)
 let w' := w1.freeze ⟨w.heap.size, cells.length, none⟩ 1
 have hw1 : w1.heap[w.heap.size]? = some (.cells cells.toArray e (0, 0)) := heap_alloc_new w.drew _;have hheap : w'.heap[w.heap.size]? = some (.cells cells.toArray e (cells.length, cells.length + 1)) := by
  show (w1.heap.modify w.heap.size _)[w.heap.size]? = _;rw [Array.getElem?_modify, if_pos rfl, hw1];simp
 have hbl : Below w.heap.size w w' := by
  refine ⟨rfl, rfl, rfl, ?_, fun j hj => ?_⟩
  ·show w.heap.size ≤ (w1.heap.modify w.heap.size _).size;rw [Array.size_modify];show w.heap.size ≤ w1.heap.size;simp [w1]
  ·show (w1.heap.modify w.heap.size _)[j]? = _;rw [Array.getElem?_modify, if_neg Dq];exact Below.heap_alloc w.drew _ j hj
 refine aU rfl rfl hN (w' := w') (v := .slice (some ⟨w.heap.size, 0, none⟩) b.size c) ?_ (k w.heap.size c ex w' (hh.a9 hbl ⟨Nat.le_refl _, hheap, .inl (Nat.le_refl _)⟩));have harr : (b.data.map fun b => Value.int .u8 b.toNat) ++ Array.replicate (c - b.size) (Value.int .u8 0) = cells.toArray := by
  apply Array.ext';simp [cells, ex, jj]
 have hsh : w1.shape? w.heap.size = some (e, cells.length) := by simp [World.shape?, hw1]
 have hch : (choose (.appendCap b.size 0 e)).run P w = .ok c w.drew := by simp [choose, Sem.run, Question.forced, grownCap, c]
 have hnr : (newRow e cells.toArray).run P w.drew = .ok ⟨w.heap.size, 0, none⟩ w1 := by simp [newRow, w1]
 have hms : (markStringish ⟨w.heap.size, 0, none⟩).run P w1 = .ok () w' := by simp [markStringish, shape, Sem.run, hsh, freeze, w']
 simp only [execOp, hx, convert, Sem.run_bind, run_underlying hs, run_underlying ht, run_underlying he, Result.andThen_ok, Conv.stringToBytes];rw [hch, Result.andThen_ok, harr, hnr, Result.andThen_ok, hms, Result.andThen_ok, Sem.run_pure, Result.andThen_ok, Sem.run_pure]
theorem lb (hh : Hp w0 H w) {t : TypeId} {x : Operand} {s : ByteArray} (ht : P.underlying t = some .string) (hx : ev ρ x = .string s) (hN : d < N)
  (k : ∀ b w', Hp w0 (.it b s 0 :: H) w' → WL ro P N ops Q rest (cx ρ d (.pointer (some ⟨b, 0, none⟩))) w') : WL ro P N ops Q (⟨some d, .range t x, ty, pos, af, none⟩ :: rest) ρ w := by
 refine aU rfl rfl hN (w' := w.alloc (.stringIter s 0)) (v := .pointer (some ⟨w.heap.size, 0, none⟩)) (by simp [execOp, hx, Instr.range, run_underlying ht]) (k _ _ (hh.a9 ((Below.refl _ _).alloc (Nat.le_refl _) _) ⟨Nat.le_refl _, heap_alloc_new w _⟩))
theorem kZ (hh : Hp w0 H w) {x : Operand} {i b p : Nat} {s : ByteArray} (hi : H[i]? = some (.it b s p)) (hx : ev ρ x = .pointer (some ⟨b, 0, none⟩)) (hp : ¬ p < s.size) (hN : d < N)
  (k : WL ro P N ops Q rest (cx ρ d (.tuple #[.bool false])) w) : WL ro P N ops Q (⟨some d, .next x true, ty, pos, af, none⟩ :: rest) ρ w := by
 have h1 := (hh.at_ hi).2;refine aU rfl rfl hN (w' := w) (v := .tuple #[.bool false]) ?_ k;simp [execOp, hx, Instr.next, getObj, Sem.run, h1, hp]
theorem lh (hh : Hp w0 H w) {x : Operand} {i b p : Nat} {s : ByteArray} {c : UInt8} (hi : H[i]? = some (.it b s p)) (hx : ev ρ x = .pointer (some ⟨b, 0, none⟩)) (hc : s.data.toList[p]? = some c) (h128 : c.toNat < 128) (hN : d < N)
  (k : ∀ w', Hp w0 (H.set i (.it b s (p + 1))) w' → WL ro P N ops Q rest (cx ρ d (.tuple #[.bool true, .int .i64 p, .int .i32 c.toNat])) w') : WL ro P N ops Q (⟨some d, .next x true, ty, pos, af, none⟩ :: rest) ρ w := by
 have h1 := (hh.at_ hi).2;obtain ⟨hlt, hcc⟩ := List.getElem?_eq_some_iff.1 hc;have hlt' : p < s.size := by simpa using hlt
 have hget : s.get! p = c := by
  have : s.get! p = s.data[p]! := rfl;rw [this, getElem!_pos s.data p hlt'];simpa using hcc
 have hdec : Utf8.decode s p = (c.toNat, 1) := by
  unfold Utf8.decode;simp only [Nat.add_zero, hget];rw [if_pos h128]
 let w' : World := { w with heap := w.heap.setIfInBounds b (.stringIter s (p + 1)) }
 have hb := eH (hh.at_ hi) (b := b) rfl;have hg : w.grownBy w' (some b) := ⟨rfl, rfl, rfl, by simp [w'], fun k _ hne => by
  show (w.heap.setIfInBounds b _)[k]? = _;rw [Array.getElem?_setIfInBounds_ne (fun e => hne (by rw [e]))]⟩
 refine aU rfl rfl hN (w' := w') (v := .tuple #[.bool true, .int .i64 p, .int .i32 c.toNat]) ?_ (k w' (hh.grown hi hg (.inl rfl) ⟨hb.1, ?_⟩))
 ·simp [execOp, hx, Instr.next, getObj, setObj, Sem.run, h1, hlt', hdec, goInt, w']
 ·show (w.heap.setIfInBounds b _)[b]? = _;simp [hb.2]
end
end Go.Proofs.YteeckcbbnegmcaaGreatDoor
namespace Go.Proofs.YteeckcbbnegmcaaGreatDoor
open Go.RowKit
class UK (k : IntKind) (b : outParam Nat) (M : outParam Nat) : Prop where
 bits : k.bits = b
 sgn : k.signed = false
 pow : 2 ^ b = M
instance : UK .u8 8 256 := ⟨rfl, rfl, rfl⟩
instance : UK .u16 16 65536 := ⟨rfl, rfl, rfl⟩
instance : UK .u32 32 4294967296 := ⟨rfl, rfl, rfl⟩
instance : UK .u64 64 18446744073709551616 := ⟨rfl, rfl, rfl⟩
theorem UK.wrap {k : IntKind} {b M : Nat} [h : UK k b M] (n : Nat) : k.wrap (n : Int) = ((n % M : Nat) : Int) := by
 unfold IntKind.wrap;have hM : (2 : Int) ^ k.bits = (M : Int) := by rw [h.bits, ← h.pow]; simp
 simp only [h.sgn, hM, Bool.false_and];simp
theorem UK.l4 {k : IntKind} {b M : Nat} [UK k b M] {n : Nat} (hn : n < M) : k.wrap (n : Int) = (n : Int) := by rw [UK.wrap, Nat.mod_eq_of_lt hn]
theorem UK.wrap_add {k : IntKind} {b M : Nat} [h : UK k b M] (z : Int) : k.wrap (z + M) = k.wrap z := by
 unfold IntKind.wrap;have hM : (2 : Int) ^ k.bits = (M : Int) := by rw [h.bits, ← h.pow]; simp
 simp [hM]
section
variable {P : Program} {ρ : Rf} {w : World} {d : Option Nat} {ty : TypeId} {pos : String} {af : Array Edge} {g : Option (Nat × Bool)}
section unats
variable {t u : TypeId} {x y : Operand} {k : IntKind} {q M : Nat} {a b : Nat}
theorem BE [UK k q M] (hx : ev ρ x = .int k (a : Int)) (hy : ev ρ y = .int k (b : Int)) : (execOp (ev ρ) ⟨d, .binOp .add t x y u, ty, pos, af, g⟩).run P w = .ok (.value (.int k (((a + b) % M : Nat) : Int))) w := by
 rw [AL hx hy, ← Int.natCast_add, UK.wrap]
theorem Bk [UK k q M] (hx : ev ρ x = .int k (a : Int)) (hy : ev ρ y = .int k (b : Int)) (hb : b ≤ M) : (execOp (ev ρ) ⟨d, .binOp .sub t x y u, ty, pos, af, g⟩).run P w = .ok (.value (.int k (((a + M - b) % M : Nat) : Int))) w := by
 rw [A3 hx hy, ← UK.wrap (k := k)];have h : ((a + M - b : Nat) : Int) = (a : Int) - b + M := Dq;rw [h, UK.wrap_add]
theorem BW [UK k q M] (hx : ev ρ x = .int k (a : Int)) (hy : ev ρ y = .int k (b : Int)) : (execOp (ev ρ) ⟨d, .binOp .mul t x y u, ty, pos, af, g⟩).run P w = .ok (.value (.int k (((a * b) % M : Nat) : Int))) w := by
 rw [AN hx hy, ← Int.natCast_mul, UK.wrap]
theorem Bq [UK k q M] (hx : ev ρ x = .int k (a : Int)) (hy : ev ρ y = .int k (b : Int)) (hb : 0 < b) (ha : a < M) : (execOp (ev ρ) ⟨d, .binOp .quo t x y u, ty, pos, af, g⟩).run P w = .ok (.value (.int k ((a / b : Nat) : Int))) w := by
 rw [Ba hx hy Dq, ← Int.ofNat_tdiv, UK.l4 (Nat.lt_of_le_of_lt (Nat.div_le_self _ _) ha)]
theorem BB (hx : ev ρ x = .int k (a : Int)) (hy : ev ρ y = .int k (b : Int)) (hb : 0 < b) : (execOp (ev ρ) ⟨d, .binOp .rem t x y u, ty, pos, af, g⟩).run P w = .ok (.value (.int k ((a % b : Nat) : Int))) w := by
 rw [AV hx hy Dq, ← Int.ofNat_tmod]
theorem j3 (n : Nat) (a : Nat) : BitVec.ofInt n (a : Int) = BitVec.ofNat n a := by simp
theorem Cd [h : UK k q M] (hx : ev ρ x = .int k (a : Int)) (hy : ev ρ y = .int k (b : Int)) (ha : a < M) (hb : b < M) : (execOp (ev ρ) ⟨d, .binOp .or t x y u, ty, pos, af, g⟩).run P w = .ok (.value (.int k ((a ||| b : Nat) : Int))) w := by
 rw [CC hx hy, j3, j3, BitVec.toNat_or, BitVec.toNat_ofNat, BitVec.toNat_ofNat, h.bits, h.pow, Nat.mod_eq_of_lt ha, Nat.mod_eq_of_lt hb, UK.l4];rw [← h.pow] at ha hb ⊢;exact Nat.or_lt_two_pow ha hb
theorem Bm [h : UK k q M] (hx : ev ρ x = .int k (a : Int)) (hy : ev ρ y = .int k (b : Int)) (ha : a < M) (hb : b < M) : (execOp (ev ρ) ⟨d, .binOp .and t x y u, ty, pos, af, g⟩).run P w = .ok (.value (.int k ((a &&& b : Nat) : Int))) w := by
 rw [B4 hx hy, j3, j3, BitVec.toNat_and, BitVec.toNat_ofNat, BitVec.toNat_ofNat, h.bits, h.pow, Nat.mod_eq_of_lt ha, Nat.mod_eq_of_lt hb, UK.l4];exact Nat.lt_of_le_of_lt Nat.and_le_left ha
theorem qX [h : UK k q M] {k' : IntKind} {s : Int} (hx : ev ρ x = .int k (a : Int)) (hy : ev ρ y = .int k' s) (hs : 0 ≤ s ∧ s ≤ q) : (execOp (ev ρ) ⟨d, .binOp .shl t x y u, ty, pos, af, g⟩).run P w = .ok (.value (.int k (((a * 2 ^ s.toNat) % M : Nat) : Int))) w := by
 have e : (a : Int) * 2 ^ (min s.toNat k.bits) = ((a * 2 ^ s.toNat : Nat) : Int) := by
  rw [h.bits, Nat.min_eq_left Dq, Int.natCast_mul, Int.natCast_pow]; rfl
 rw [Cc hx hy hs.1, e, UK.wrap]
theorem uB [h : UK k q M] {k' : IntKind} {s : Int} (hx : ev ρ x = .int k (a : Int)) (hy : ev ρ y = .int k' s) (hs : 0 ≤ s ∧ s ≤ q) : (execOp (ev ρ) ⟨d, .binOp .shr t x y u, ty, pos, af, g⟩).run P w = .ok (.value (.int k ((a / 2 ^ s.toNat : Nat) : Int))) w := by
 rw [Ca hx hy hs.1, h.bits, Nat.min_eq_left Dq, Int.fdiv_eq_ediv_of_nonneg _ (Int.le_of_lt (Int.pow_pos Dq))];simp
theorem ze [UK k q M] {k' : IntKind} {s m : Nat} (hx : ev ρ x = .int k (a : Int)) (hy : ev ρ y = .int k' (s : Int)) (hs : s ≤ q) (hm : 2 ^ s = m) : (execOp (ev ρ) ⟨d, .binOp .shr t x y u, ty, pos, af, g⟩).run P w = .ok (.value (.int k ((a / m : Nat) : Int))) w := by
 rw [uB hx hy Dq, ← hm]; rfl
theorem BK [h : UK k q M] (hx : ev ρ x = .int k (a : Int)) (ha : a ≤ M) : (execOp (ev ρ) ⟨d, .unOp .neg t x, ty, pos, af, g⟩).run P w = .ok (.value (.int k (((M - a) % M : Nat) : Int))) w := by
 rw [AW hx, ← UK.wrap (k := k)];have e : ((M - a : Nat) : Int) = -(a : Int) + M := Dq;rw [e, UK.wrap_add]
theorem vp [UK k q M] {s t : TypeId} {k' : IntKind} {sd : TypeDesc} (hs : P.underlying s = some sd) (ht : P.underlying t = some (.int k)) (hx : ev ρ x = .int k' (a : Int)) :
  (execOp (ev ρ) ⟨d, .convert s t x, ty, pos, af, g⟩).run P w = .ok (.value (.int k ((a % M : Nat) : Int))) w := by
 rw [ji hs ht hx, UK.wrap]
theorem n8 [UK k q M] {s t : TypeId} {k' : IntKind} {sd : TypeDesc} (hs : P.underlying s = some sd) (ht : P.underlying t = some (.int k)) (hx : ev ρ x = .int k' (a : Int)) (ha : a < M) :
  (execOp (ev ρ) ⟨d, .convert s t x, ty, pos, af, g⟩).run P w = .ok (.value (.int k (a : Int))) w := by
 rw [ji hs ht hx, UK.l4 ha]
end unats
section ints
variable {t u : TypeId} {x y : Operand} {k : IntKind} {a b : Int}
theorem zF (hx : ev ρ x = .int k a) (hy : ev ρ y = .int k b) : (execOp (ev ρ) ⟨d, .binOp .lss t x y u, ty, pos, af, g⟩).run P w = .ok (.value (.bool (decide (a < b)))) w := by
 by_cases h : a < b
 ·rw [zx hx hy h, decide_eq_true h]
 ·rw [zo hx hy h, decide_eq_false h]
theorem zb (hx : ev ρ x = .int k a) (hy : ev ρ y = .int k b) : (execOp (ev ρ) ⟨d, .binOp .leq t x y u, ty, pos, af, g⟩).run P w = .ok (.value (.bool (decide (a ≤ b)))) w := by
 by_cases h : a ≤ b
 ·rw [zr hx hy h, decide_eq_true h]
 ·rw [z2 hx hy h, decide_eq_false h]
theorem vC (hx : ev ρ x = .int k a) (hy : ev ρ y = .int k b) : (execOp (ev ρ) ⟨d, .binOp .gtr t x y u, ty, pos, af, g⟩).run P w = .ok (.value (.bool (decide (b < a)))) w := by
 by_cases h : b < a
 ·rw [As hx hy h, decide_eq_true h]
 ·rw [AB hx hy h, decide_eq_false h]
theorem zv (hx : ev ρ x = .int k a) (hy : ev ρ y = .int k b) : (execOp (ev ρ) ⟨d, .binOp .geq t x y u, ty, pos, af, g⟩).run P w = .ok (.value (.bool (decide (b ≤ a)))) w := by
 by_cases h : b ≤ a
 ·rw [zk hx hy h, decide_eq_true h]
 ·rw [zN hx hy h, decide_eq_false h]
theorem Aa (hx : ev ρ x = .int k a) (hy : ev ρ y = .int k b) : (execOp (ev ρ) ⟨d, .binOp .neq t x y u, ty, pos, af, g⟩).run P w = .ok (.value (.bool (decide (a ≠ b)))) w := by
 by_cases h : a = b
 ·rw [Ag hx hy h, decide_eq_false (by simpa using h)]
 ·rw [Af hx hy h, decide_eq_true h]
end ints
section bools
variable {t u : TypeId} {x y : Operand} {a b : Bool}
theorem z5 (ht : P.underlying t = some .bool) (hx : ev ρ x = .bool a) (hy : ev ρ y = .bool b) (h : a = b) : (execOp (ev ρ) ⟨d, .binOp .eql t x y u, ty, pos, af, g⟩).run P w = .ok (.value (.bool true)) w := by
 rw [nZ ht hx hy, h, beq_self_eq_true]
theorem z3 (ht : P.underlying t = some .bool) (hx : ev ρ x = .bool a) (hy : ev ρ y = .bool b) (h : ¬ a = b) : (execOp (ev ρ) ⟨d, .binOp .eql t x y u, ty, pos, af, g⟩).run P w = .ok (.value (.bool false)) w := by
 rw [nZ ht hx hy, beq_false_of_ne h]
theorem vg (ht : P.underlying t = some .bool) (hx : ev ρ x = .bool a) (hy : ev ρ y = .bool b) (h : ¬ a = b) : (execOp (ev ρ) ⟨d, .binOp .neq t x y u, ty, pos, af, g⟩).run P w = .ok (.value (.bool true)) w := by
 rw [kK ht hx hy, bne, beq_false_of_ne h]; rfl
theorem vU (ht : P.underlying t = some .bool) (hx : ev ρ x = .bool a) (hy : ev ρ y = .bool b) (h : a = b) : (execOp (ev ρ) ⟨d, .binOp .neq t x y u, ty, pos, af, g⟩).run P w = .ok (.value (.bool false)) w := by
 rw [kK ht hx hy, bne, h, beq_self_eq_true]; rfl
end bools
theorem eg {t e : TypeId} {x i : Operand} {ad : Addr} {n c sz k : Nat} {kk : IntKind} {m : Int} (ht : P.underlying t = some (.slice e)) (hsz : (P.info? e).map (·.size) = some sz) (hx : ev ρ x = .slice (some ad) n c) (hi : ev ρ i = .int kk m)
  (hm : m = (k : Int)) (h1 : k < n) : (execOp (ev ρ) ⟨d, .indexAddr t x i, ty, pos, af, g⟩).run P w = .ok (.value (.pointer (some (ad.add (k * sz))))) w := by
 rw [fD ht hsz hx hi Dq Dq, hm]; rfl
theorem uX {t e : TypeId} {x i : Operand} {b o n c sz k : Nat} {kk : IntKind} {m : Int} (ht : P.underlying t = some (.slice e)) (hsz : (P.info? e).map (·.size) = some sz) (hx : ev ρ x = .slice (some ⟨b, o, none⟩) n c) (hi : ev ρ i = .int kk m)
  (hm : m = (k : Int)) (h1 : k < n) : (execOp (ev ρ) ⟨d, .indexAddr t x i, ty, pos, af, g⟩).run P w = .ok (.value (.pointer (some ⟨b, o + k * sz, none⟩))) w := by
 rw [fD ht hsz hx hi Dq Dq, hm, eG]; rfl
theorem uJ {t e : TypeId} {x i : Operand} {ad : Addr} {n sz k : Nat} {kk : IntKind} {m : Int} (ht : P.underlying t = some (.array n e)) (hsz : (P.info? e).map (·.size) = some sz) (hx : ev ρ x = .pointer (some ad)) (hi : ev ρ i = .int kk m)
  (hm : m = (k : Int)) (h1 : k < n) : (execOp (ev ρ) ⟨d, .indexAddr t x i, ty, pos, af, g⟩).run P w = .ok (.value (.pointer (some (ad.add (k * sz))))) w := by
 obtain ⟨i, hi1, hi2⟩ := Option.map_eq_some_iff.1 hsz;have h2 : (k : Int) < n := Dq;subst hm;simp [execOp, hx, hi, Instr.indexAt, asIntOf, run_underlying ht, sizeOf, typeInfo, hi1, hi2, Instr.sureAddr, h1]
theorem rV {t e : TypeId} {x hi : Operand} {A : Option Addr} {n c h sz : Nat} {k : IntKind} {m : Int} (ht : P.underlying t = some (.slice e)) (hsz : (P.info? e).map (·.size) = some sz) (hx : ev ρ x = .slice A n c) (hhi : ev ρ hi = .int k m)
  (hm : m = (h : Int)) (h2 : h ≤ c) : (execOp (ev ρ) ⟨d, .slice t x none (some hi) none, ty, pos, af, g⟩).run P w = .ok (.value (.slice A h c)) w := by
 rw [gi (lo := none) (hi := some hi) (l := 0) (h := h) ht hsz hx rfl ⟨k, m, hhi, hm⟩ (Nat.zero_le _) h2];congr 3
 cases A with
 | none => simp
 | some ad => simp [Addr.add]
theorem uR {t e : TypeId} {x lo : Operand} {b o n c l sz : Nat} {k : IntKind} {m : Int} (ht : P.underlying t = some (.slice e)) (hsz : (P.info? e).map (·.size) = some sz) (hx : ev ρ x = .slice (some ⟨b, o, none⟩) n c) (hlo : ev ρ lo = .int k m)
  (hm : m = (l : Int)) (h1 : l ≤ n) (h2 : n ≤ c) (h3 : l < c) : (execOp (ev ρ) ⟨d, .slice t x (some lo) none none, ty, pos, af, g⟩).run P w = .ok (.value (.slice (some ⟨b, o + l * sz, none⟩) (n - l) (c - l))) w := by
 rw [gi (lo := some lo) (hi := none) (l := l) (h := n) ht hsz hx ⟨k, m, hlo, hm⟩ rfl h1 h2, if_neg Dq];simp only [Option.map_some, eG]
theorem sH {t e : TypeId} {x lo : Operand} {ad : Addr} {n c l sz : Nat} {k : IntKind} {m : Int} (ht : P.underlying t = some (.slice e)) (hsz : (P.info? e).map (·.size) = some sz) (hx : ev ρ x = .slice (some ad) n c) (hlo : ev ρ lo = .int k m)
  (hm : m = (l : Int)) (h1 : l ≤ n) (h2 : n ≤ c) (h3 : l < c) : (execOp (ev ρ) ⟨d, .slice t x (some lo) none none, ty, pos, af, g⟩).run P w = .ok (.value (.slice (some (ad.add (l * sz))) (n - l) (c - l))) w := by
 rw [gi (lo := some lo) (hi := none) (l := l) (h := n) ht hsz hx ⟨k, m, hlo, hm⟩ rfl h1 h2, if_neg Dq]
 rfl
end
theorem Rd.nT {w : World} {ad : Addr} {xs : List Value} {k : Nat} {v : Value} (h : Rd w ad xs) (hx : xs[k]? = some v) : w.cell? (ad.add (k * 1)) = some v := by
 rw [Nat.mul_one]; exact h k v hx
def cB (l : List Nat) : List Value := l.map fun (d : Nat) => .int .u64 (d : Int)
theorem aP (l : List Nat) : (cB l).length = l.length := by simp [cB]
theorem dN {l : List Nat} {k d : Nat} (h : l[k]? = some d) : (cB l)[k]? = some (.int .u64 (d : Int)) := by simp [cB, h]
theorem eS (l : List Nat) (k d : Nat) : (cB l).set k (.int .u64 (d : Int)) = cB (l.set k d) := by simp [cB, List.map_set]
theorem sY (a b : List Nat) : cB (a ++ b) = cB a ++ cB b := by simp [cB]
theorem p9 (a : List Nat) (k : Nat) : cB (a.take k) = (cB a).take k := by simp [cB, List.map_take]
theorem qK (a : List Nat) (k : Nat) : cB (a.drop k) = (cB a).drop k := by simp [cB, List.map_drop]
theorem bU (l : List Nat) : ((cB l).all Value.oneCell') = true := by simp [cB, Value.oneCell']
theorem lG (n : Nat) : fS n [Value.int .u64 0] = cB (List.replicate n 0) := by rw [n5]; simp [cB]
def fo (l : List Nat) : List Value := l.map fun (d : Nat) => .int .u8 (d : Int)
theorem cm (l : List Nat) : (fo l).length = l.length := by simp [fo]
theorem mg {l : List Nat} {k d : Nat} (h : l[k]? = some d) : (fo l)[k]? = some (.int .u8 (d : Int)) := by simp [fo, h]
theorem j6 (l : List Nat) (k d : Nat) : (fo l).set k (.int .u8 (d : Int)) = fo (l.set k d) := by simp [fo, List.map_set]
theorem n4 (a b : List Nat) : fo (a ++ b) = fo a ++ fo b := by simp [fo]
theorem sT (a : List Nat) (k : Nat) : fo (a.take k) = (fo a).take k := by simp [fo, List.map_take]
theorem cw (l : List Nat) : ((fo l).all Value.oneCell') = true := by simp [fo, Value.oneCell']
theorem lQ (n : Nat) : fS n [Value.int .u8 0] = fo (List.replicate n 0) := by rw [n5]; simp [fo]
theorem qk {l : List Nat} (h : ∀ d ∈ l, d < 256) : fo l = jj (l.map UInt8.ofNat) := by
 rw [fo, jj, List.map_map];apply List.map_congr_left;intro d hd;have := h d hd;simp only [Function.comp, UInt8.toNat_ofNat'];congr 2;omega
theorem Sl.Bw {w : World} {ad : Addr} {n : Nat} {ys : List Nat} {k d : Nat} (h : Sl w (some ad) n 1 (cB ys)) (hd : ys[k]? = some d) : w.cell? (ad.add (k * 1)) = some (.int .u64 (d : Int)) := by
 have hl := h.1;have hk := (List.getElem?_eq_some_iff.1 hd).1;rw [aP] at hl;obtain ⟨ad', he, hr⟩ := h.2 Dq;injection he with he
 subst he;exact hr.nT (dN hd)
theorem rH {pre done r post : List Nat} {x : Nat} : (pre ++ (done ++ x :: r) ++ post)[pre.length + done.length]? = some x := by
 rw [List.append_assoc, List.getElem?_append_right Dq, List.append_assoc, List.getElem?_append_right Dq];simp
theorem j4 {pre done r post : List Nat} {x y : Nat} : (pre ++ (done ++ x :: r) ++ post).set (pre.length + done.length) y = pre ++ ((done ++ [y]) ++ r) ++ post := by
 rw [List.append_assoc, List.set_append_right _ _ Dq, List.append_assoc, List.set_append_right _ _ Dq];simp
theorem bY {cs : List Value} {o : Nat} {v : Value} (h : o < cs.length) : cg cs o [v] = cs.set o v := by
 unfold cg;rw [List.set_eq_take_append_cons_drop, if_pos h];simp
theorem Hp.front {w0 w : World} {H : List HE} {x : HE} (h : Hp w0 H w) (i : Nat) (hi : H[i]? = some x) : Hp w0 (x :: H.eraseIdx i) w := by
 have hp : H.Perm (x :: H.eraseIdx i) := by
  clear h
  induction H generalizing i with
  | nil => simp at hi
  | cons y H ih =>
   cases i with
   | zero => simp at hi; subst hi; simp
   | succ i =>
    simp only [List.getElem?_cons_succ] at hi;simp only [List.eraseIdx_cons_succ];exact ((ih i hi).cons y).trans (List.Perm.swap x y _)
 exact ⟨h.below, fun y hy => h.own y (hp.mem_iff.2 hy), (hp.filterMap _).nodup_iff.1 h.nd⟩
theorem Hp.um {w0 w : World} {H : List HE} {A : Option Addr} {n c : Nat} {t : TypeId} {sz : Nat} {xs : List Value} (h : Hp w0 (.row A n c t sz xs :: H) w) {k : Nat} (hk : k ≤ n) : Hp w0 (.row A k c t sz (xs.take (k * sz)) :: H) w := by
 refine ⟨h.below, fun y hy => ?_, h.nd⟩
 rcases List.mem_cons.1 hy with rfl | hy
 ·have h1 : w.ownsRow w0.heap.size t sz (.slice A n c) n xs := h.own _ List.mem_cons_self;obtain ⟨h2, h3⟩ := h1;have hkn : k * sz ≤ n * sz := Nat.mul_le_mul_right _ hk;refine ⟨by rw [List.length_take]; omega, ?_⟩
  rcases h3 with ⟨h3, h4⟩ | ⟨g, cap, cur, hv, hb, hg, h4, h5, h6, h7⟩
  ·injection h3 with h5 h6 h7
   subst h5 h6 h7;exact .inl ⟨by rw [show k = 0 by omega], Dq⟩
  ·injection hv with h8 h9 h10
   subst h8;refine .inr ⟨g, cap, cur, by rw [h10], hb, hg, Dq, h5, h6, ?_⟩;rw [← h7, List.take_take, Nat.min_eq_left hkn]
 ·exact h.own y (List.mem_cons_of_mem _ hy)
theorem Hp.dy {w0 w : World} {H : List HE} {A : Option Addr} {n c : Nat} {t : TypeId} {sz : Nat} {xs : List Value} {i : Nat} (h : Hp w0 H w) (hi : H[i]? = some (.row A n c t sz xs)) : n ≤ c := by
 have h1 : w.ownsRow w0.heap.size t sz (.slice A n c) n xs := h.at_ hi
 rcases h1.2 with ⟨h3, h4⟩ | ⟨g, cap, cur, hv, hb, hg, h4, h5, h6, h7⟩
 ·omega
 ·injection hv with h8 h9 h10
  omega
end Go.Proofs.YteeckcbbnegmcaaGreatDoor
namespace Go.Proofs.YteeckcbbnegmcaaGreatDoor
open Go.RowKit
variable {ro : Mode}
section
variable {P : Program} {N : Nat} {ops : Array Oper} {Q : Kq} {ρ : Rf} {w w0 : World} {rest : List Oper} {H : List HE} {d : Nat} {ty : TypeId} {pos : String} {af : Array Edge}
theorem fy {x : Operand} {v : Value} (hx : ev ρ x = v) (hN : d < N) (kk : WL ro P N ops Q rest (cx ρ d v) w) :
  WL ro P N ops Q (⟨some d, .move x, ty, pos, af, none⟩ :: rest) ρ w := aU rfl rfl hN (cQ hx) kk
theorem lU {x : Operand} {v : Value} (hx : ev ρ x = v) (hN : d < N) (kk : WL ro P N ops Q rest (cx ρ d v) w) :
  WL ro P N ops Q (⟨some d, .assign x, ty, pos, af, none⟩ :: rest) ρ w := aU rfl rfl hN (xT hx) kk
theorem yM {c a b : Operand} {v : Value} (hc : ev ρ c = .bool true) (hx : ev ρ a = v) (hN : d < N) (kk : WL ro P N ops Q rest (cx ρ d v) w) :
  WL ro P N ops Q (⟨some d, .pick c a b, ty, pos, af, none⟩ :: rest) ρ w := aU rfl rfl hN (rY hc hx) kk
theorem yp {c a b : Operand} {v : Value} (hc : ev ρ c = .bool false) (hx : ev ρ b = v) (hN : d < N) (kk : WL ro P N ops Q rest (cx ρ d v) w) :
  WL ro P N ops Q (⟨some d, .pick c a b, ty, pos, af, none⟩ :: rest) ρ w := aU rfl rfl hN (sB hc hx) kk
section
variable {t u : TypeId} {x y : Operand} {k : IntKind} {a b : Int}
theorem vA (hx : ev ρ x = .int k a) (hy : ev ρ y = .int k b) (hN : d < N) (kk : WL ro P N ops Q rest (cx ρ d (.bool (decide (a = b)))) w) :
  WL ro P N ops Q (⟨some d, .binOp .eql t x y u, ty, pos, af, none⟩ :: rest) ρ w := aU rfl rfl hN (vc hx hy) kk
theorem BS (hx : ev ρ x = .int .i64 a) (hy : ev ρ y = .int .i64 b) (h1 : -9223372036854775808 ≤ a + b) (h2 : a + b ≤ 9223372036854775807) (hN : d < N) (kk : WL ro P N ops Q rest (cx ρ d (.int .i64 (a + b))) w) :
  WL ro P N ops Q (⟨some d, .binOp .add t x y u, ty, pos, af, none⟩ :: rest) ρ w := aU rfl rfl hN (xL hx hy h1 h2) kk
theorem BT (hx : ev ρ x = .int .i64 a) (hy : ev ρ y = .int .i64 b) (h1 : -9223372036854775808 ≤ a - b) (h2 : a - b ≤ 9223372036854775807) (hN : d < N) (kk : WL ro P N ops Q rest (cx ρ d (.int .i64 (a - b))) w) :
  WL ro P N ops Q (⟨some d, .binOp .sub t x y u, ty, pos, af, none⟩ :: rest) ρ w := aU rfl rfl hN (y3 hx hy h1 h2) kk
theorem Bz (hx : ev ρ x = .int .i64 a) (hy : ev ρ y = .int .i64 b) (h1 : -9223372036854775808 ≤ a * b) (h2 : a * b ≤ 9223372036854775807) (hN : d < N) (kk : WL ro P N ops Q rest (cx ρ d (.int .i64 (a * b))) w) :
  WL ro P N ops Q (⟨some d, .binOp .mul t x y u, ty, pos, af, none⟩ :: rest) ρ w := aU rfl rfl hN (yD hx hy h1 h2) kk
theorem mD (hx : ev ρ x = .int .i64 a) (h1 : -9223372036854775808 ≤ -a) (h2 : -a ≤ 9223372036854775807) (hN : d < N) (kk : WL ro P N ops Q rest (cx ρ d (.int .i64 (-a))) w) :
  WL ro P N ops Q (⟨some d, .unOp .neg t x, ty, pos, af, none⟩ :: rest) ρ w := aU rfl rfl hN (oC hx h1 h2) kk
theorem iF (hx : ev ρ x = .int .i64 a) (hy : ev ρ y = .int .i64 b) (ha : 0 ≤ a) (hb : 0 < b) (h2 : a ≤ 9223372036854775807) (hN : d < N) (kk : WL ro P N ops Q rest (cx ρ d (.int .i64 (a / b))) w) :
  WL ro P N ops Q (⟨some d, .binOp .quo t x y u, ty, pos, af, none⟩ :: rest) ρ w := aU rfl rfl hN (rR hx hy ha hb h2) kk
theorem jI (hx : ev ρ x = .int .i64 a) (hy : ev ρ y = .int .i64 b) (ha : 0 ≤ a) (hb : 0 < b) (hN : d < N) (kk : WL ro P N ops Q rest (cx ρ d (.int .i64 (a % b))) w) :
  WL ro P N ops Q (⟨some d, .binOp .rem t x y u, ty, pos, af, none⟩ :: rest) ρ w := aU rfl rfl hN (mv hx hy ha hb) kk
end
theorem Cm {t : TypeId} {x : Operand} {b : Bool} (hx : ev ρ x = .bool b) (hN : d < N) (kk : WL ro P N ops Q rest (cx ρ d (.bool !b)) w) :
  WL ro P N ops Q (⟨some d, .unOp .not t x, ty, pos, af, none⟩ :: rest) ρ w := aU rfl rfl hN (AO hx) kk
section
variable {t u : TypeId} {x y : Operand} {a b : Bool}
end
section
variable {t u : TypeId} {x y : Operand} {a b : ByteArray}
theorem eo (hx : ev ρ x = .string a) (hy : ev ρ y = .string b) (h : a = b) (hN : d < N) (kk : WL ro P N ops Q rest (cx ρ d (.bool true)) w) :
  WL ro P N ops Q (⟨some d, .binOp .eql t x y u, ty, pos, af, none⟩ :: rest) ρ w := aU rfl rfl hN (sm hx hy h) kk
theorem ez (hx : ev ρ x = .string a) (hy : ev ρ y = .string b) (h : ¬ a = b) (hN : d < N) (kk : WL ro P N ops Q rest (cx ρ d (.bool false)) w) :
  WL ro P N ops Q (⟨some d, .binOp .eql t x y u, ty, pos, af, none⟩ :: rest) ρ w := aU rfl rfl hN (sC hx hy h) kk
theorem fF (hx : ev ρ x = .string a) (hy : ev ρ y = .string b) (h : ¬ a = b) (hN : d < N) (kk : WL ro P N ops Q rest (cx ρ d (.bool true)) w) :
  WL ro P N ops Q (⟨some d, .binOp .neq t x y u, ty, pos, af, none⟩ :: rest) ρ w := aU rfl rfl hN (sx hx hy h) kk
theorem fG (hx : ev ρ x = .string a) (hy : ev ρ y = .string b) (h : a = b) (hN : d < N) (kk : WL ro P N ops Q rest (cx ρ d (.bool false)) w) :
  WL ro P N ops Q (⟨some d, .binOp .neq t x y u, ty, pos, af, none⟩ :: rest) ρ w := aU rfl rfl hN (te hx hy h) kk
theorem xh (hx : ev ρ x = .string a) (hy : ev ρ y = .string b) (hN : d < N) (kk : WL ro P N ops Q rest (cx ρ d (.bool (Op.bytesLess a.toList b.toList))) w) :
  WL ro P N ops Q (⟨some d, .binOp .lss t x y u, ty, pos, af, none⟩ :: rest) ρ w := aU rfl rfl hN (wQ hx hy) kk
theorem wP (hx : ev ρ x = .string a) (hy : ev ρ y = .string b) (hN : d < N) (kk : WL ro P N ops Q rest (cx ρ d (.bool !(Op.bytesLess a.toList b.toList || a.toList == b.toList))) w) :
  WL ro P N ops Q (⟨some d, .binOp .gtr t x y u, ty, pos, af, none⟩ :: rest) ρ w := aU rfl rfl hN (xg hx hy) kk
theorem gZ (hx : ev ρ x = .string a) (hy : ev ρ y = .string b) (hN : d < N) (kk : WL ro P N ops Q rest (cx ρ d (.bool !(Op.bytesLess a.toList b.toList))) w) :
  WL ro P N ops Q (⟨some d, .binOp .geq t x y u, ty, pos, af, none⟩ :: rest) ρ w := aU rfl rfl hN (xf hx hy) kk
end
theorem pF {s t : TypeId} {x : Operand} {k k' : IntKind} {a : Int} {sd : TypeDesc} (hs : P.underlying s = some sd) (ht : P.underlying t = some (.int k)) (hx : ev ρ x = .int k' a) (hN : d < N) (kk : WL ro P N ops Q rest (cx ρ d (.int k (k.wrap a))) w) :
  WL ro P N ops Q (⟨some d, .convert s t x, ty, pos, af, none⟩ :: rest) ρ w := aU rfl rfl hN (ji hs ht hx) kk
theorem cV {s t : TypeId} {x : Operand} {k' : IntKind} {a : Int} {sd : TypeDesc} (hs : P.underlying s = some sd) (ht : P.underlying t = some (.int .i64)) (hx : ev ρ x = .int k' a) (h1 : -9223372036854775808 ≤ a) (h2 : a ≤ 9223372036854775807) (hN : d < N) (kk : WL ro P N ops Q rest (cx ρ d (.int .i64 a)) w) :
  WL ro P N ops Q (⟨some d, .convert s t x, ty, pos, af, none⟩ :: rest) ρ w := aU rfl rfl hN (kG hs ht hx h1 h2) kk
theorem wT {x : Operand} {i : Nat} {vs : List Value} {v : Value} (hx : ev ρ x = .tuple vs.toArray) (hv : vs[i]? = some v) (hN : d < N) (kk : WL ro P N ops Q rest (cx ρ d v) w) :
  WL ro P N ops Q (⟨some d, .extract x i, ty, pos, af, none⟩ :: rest) ρ w := aU rfl rfl hN (dP hx hv) kk
theorem eV {fn : Fn} {first captured : Array Operand} {fs cs : List Value} (hf : pL ρ first.toList = fs) (hc : pL ρ captured.toList = cs) (hN : d < N) (kk : WL ro P N ops Q rest (cx ρ d (.func fn fs.toArray cs.toArray)) w) :
  WL ro P N ops Q (⟨some d, .makeFunc fn first captured, ty, pos, af, none⟩ :: rest) ρ w := aU rfl rfl hN (uU hf hc) kk
theorem bs {x : Operand} {t : TypeId} {s : ByteArray} (ht : P.underlying t = some .string) (hx : ev ρ x = .string s) (hN : d < N) (kk : WL ro P N ops Q rest (cx ρ d (.int .i64 s.size)) w) :
  WL ro P N ops Q (⟨some d, .call ⟨.builtin .len, #[x], #[t]⟩, ty, pos, af, none⟩ :: rest) ρ w := aU rfl rfl hN (wq ht hx) kk
theorem xy {x : Operand} {t e : TypeId} {A : Option Addr} {n c : Nat} (ht : P.underlying t = some (.slice e)) (hx : ev ρ x = .slice A n c) (hN : d < N) (kk : WL ro P N ops Q rest (cx ρ d (.int .i64 n)) w) :
  WL ro P N ops Q (⟨some d, .call ⟨.builtin .len, #[x], #[t]⟩, ty, pos, af, none⟩ :: rest) ρ w := aU rfl rfl hN (tu ht hx) kk
theorem yH {x y : Operand} {ts : Array TypeId} {k : IntKind} {a b : Int} (hx : ev ρ x = .int k a) (hy : ev ρ y = .int k b) (hN : d < N) (kk : WL ro P N ops Q rest (cx ρ d (.int k (if b < a then b else a))) w) :
  WL ro P N ops Q (⟨some d, .call ⟨.builtin .min, #[x, y], ts⟩, ty, pos, af, none⟩ :: rest) ρ w := aU rfl rfl hN (Cb hx hy) kk
theorem ku {x y : Operand} {ts : Array TypeId} {k : IntKind} {a b : Int} (hx : ev ρ x = .int k a) (hy : ev ρ y = .int k b) (hN : d < N) (kk : WL ro P N ops Q rest (cx ρ d (.int k (if b > a then b else a))) w) :
  WL ro P N ops Q (⟨some d, .call ⟨.builtin .max, #[x, y], ts⟩, ty, pos, af, none⟩ :: rest) ρ w := aU rfl rfl hN (Cp hx hy) kk
theorem bu {t : TypeId} {x i : Operand} {s : ByteArray} {n : Int} {k : IntKind} {c : UInt8} (ht : P.underlying t = some .string) (hx : ev ρ x = .string s) (hi : ev ρ i = .int k n)
  (h0 : 0 ≤ n) (hc : s.data.toList[n.toNat]? = some c) (hN : d < N) (kk : WL ro P N ops Q rest (cx ρ d (.int .u8 c.toNat)) w) :
  WL ro P N ops Q (⟨some d, .index t x i, ty, pos, af, none⟩ :: rest) ρ w := aU rfl rfl hN (jM ht hx hi h0 hc) kk
theorem nj {t : TypeId} {x : Operand} {lo hi : Option Operand} {s : ByteArray} {l h : Nat} (ht : P.underlying t = some .string) (hx : ev ρ x = .string s)
  (hlo : match lo with | none => l = 0 | some o => ∃ (k : IntKind) (n : Int), ev ρ o = .int k n ∧ n = l) (hhi : match hi with | none => h = s.size | some o => ∃ (k : IntKind) (n : Int), ev ρ o = .int k n ∧ n = h)
  (h1 : l ≤ h) (h2 : h ≤ s.size) (hN : d < N) (kk : WL ro P N ops Q rest (cx ρ d (.string (s.extract l h))) w) :
  WL ro P N ops Q (⟨some d, .slice t x lo hi none, ty, pos, af, none⟩ :: rest) ρ w := aU rfl rfl hN (jT ht hx hlo hhi h1 h2) kk
theorem fC {t e : TypeId} {x i : Operand} {ad : Addr} {n c sz : Nat} {k : IntKind} {m : Int} (ht : P.underlying t = some (.slice e)) (hsz : (P.info? e).map (·.size) = some sz) (hx : ev ρ x = .slice (some ad) n c) (hi : ev ρ i = .int k m)
  (h0 : 0 ≤ m) (h1 : m < n) (hN : d < N) (kk : WL ro P N ops Q rest (cx ρ d (.pointer (some (ad.add (m.toNat * sz))))) w) :
  WL ro P N ops Q (⟨some d, .indexAddr t x i, ty, pos, af, none⟩ :: rest) ρ w := aU rfl rfl hN (fD ht hsz hx hi h0 h1) kk
theorem bm {t e : TypeId} {x i : Operand} {b n c sz k : Nat} {kk : IntKind} {m : Int} (ht : P.underlying t = some (.slice e)) (hsz : (P.info? e).map (·.size) = some sz) (hx : ev ρ x = .slice (some ⟨b, 0, none⟩) n c) (hi : ev ρ i = .int kk m)
  (hm : m = (k : Int)) (h1 : k < n) (hN : d < N) (kk : WL ro P N ops Q rest (cx ρ d (.pointer (some ⟨b, k * sz, none⟩))) w) :
  WL ro P N ops Q (⟨some d, .indexAddr t x i, ty, pos, af, none⟩ :: rest) ρ w := aU rfl rfl hN (kS ht hsz hx hi hm h1) kk
theorem bZ {t : TypeId} {x : Operand} {ad : Addr} {n by' : Nat} {zc vs : List Value} (ht : cZ P t = some (n, true, by', zc)) (hx : ev ρ x = .pointer (some ad)) (hr : Rd w ad vs) (hl : vs.length = n) (hN : d < N) (kk : WL ro P N ops Q rest (cx ρ d (.agg vs.toArray)) w) :
  WL ro P N ops Q (⟨some d, .load t x, ty, pos, af, none⟩ :: rest) ρ w := aU rfl rfl hN (kQ ht hx hr hl) kk
theorem bp {t : TypeId} {x : Operand} {ad : Addr} {n by' : Nat} {zc : List Value} {v : Value} (ht : cZ P t = some (n, false, by', zc)) (hx : ev ρ x = .pointer (some ad)) (hc : w.cell? ad = some v) (hN : d < N) (kk : WL ro P N ops Q rest (cx ρ d v) w) :
  WL ro P N ops Q (⟨some d, .load t x, ty, pos, af, none⟩ :: rest) ρ w := aU rfl rfl hN (gP ht hx hc) kk
theorem sc {s : TypeId} {x : Operand} {f b o off : Nat} {ft : TypeId} (hf : g9 P s f = some (off, ft)) (hx : ev ρ x = .pointer (some ⟨b, o, none⟩)) (hN : d < N) (kk : WL ro P N ops Q rest (cx ρ d (.pointer (some ⟨b, o + off, none⟩))) w) :
  WL ro P N ops Q (⟨some d, .fieldAddr s x f, ty, pos, af, none⟩ :: rest) ρ w := aU rfl rfl hN (iq hf hx) kk
theorem bS {s : TypeId} {x : Operand} {f off : Nat} {ad : Addr} {ft : TypeId} (hf : g9 P s f = some (off, ft)) (hx : ev ρ x = .pointer (some ad)) (hN : d < N) (kk : WL ro P N ops Q rest (cx ρ d (.pointer (some (ad.add off)))) w) :
  WL ro P N ops Q (⟨some d, .fieldAddr s x f, ty, pos, af, none⟩ :: rest) ρ w := aU rfl rfl hN (lv hf hx) kk
theorem zq {t : TypeId} {n by' : Nat} {parts : Array (Nat × Operand)} {ps : List (Nat × Value)} {zc cs : List Value} {pl : List (Nat × Nat)} (hte : cZ P t = some (n, true, by', zc))
  (hpl : lT P t = some pl)
  (hp : pI ρ parts.toList = ps) (hf : iA (pl[·]?) zc ps = some cs) (hN : d < N) (kk : WL ro P N ops Q rest (cx ρ d (.agg cs.toArray)) w) :
  WL ro P N ops Q (⟨some d, .build t parts, ty, pos, af, none⟩ :: rest) ρ w := aU rfl rfl hN (rq hte hpl hp hf) kk
theorem jL {s t e : TypeId} {x : Operand} {A : Option Addr} {n c : Nat} {l : List UInt8} (hs : P.underlying s = some (.slice e)) (he : P.underlying e = some (.int .u8)) (ht : P.underlying t = some .string)
  (hx : ev ρ x = .slice A n c) (h : Sl w A n 1 (jj l)) (hN : d < N) (kk : WL ro P N ops Q rest (cx ρ d (.string ⟨l.toArray⟩)) w) :
  WL ro P N ops Q (⟨some d, .convert s t x, ty, pos, af, none⟩ :: rest) ρ w := aU rfl rfl hN (jE hs he ht hx h) kk
section
variable {t u : TypeId} {x y : Operand} {k : IntKind} {q M : Nat} {a b : Nat}
theorem fM [UK k q M] (hx : ev ρ x = .int k (a : Int)) (hy : ev ρ y = .int k (b : Int)) (hN : d < N) (kk : WL ro P N ops Q rest (cx ρ d (.int k (((a + b) % M : Nat) : Int))) w) :
  WL ro P N ops Q (⟨some d, .binOp .add t x y u, ty, pos, af, none⟩ :: rest) ρ w := aU rfl rfl hN (BE hx hy) kk
theorem q7 [UK k q M] (hx : ev ρ x = .int k (a : Int)) (hy : ev ρ y = .int k (b : Int)) (hb : b ≤ M) (hN : d < N) (kk : WL ro P N ops Q rest (cx ρ d (.int k (((a + M - b) % M : Nat) : Int))) w) :
  WL ro P N ops Q (⟨some d, .binOp .sub t x y u, ty, pos, af, none⟩ :: rest) ρ w := aU rfl rfl hN (Bk hx hy hb) kk
theorem mJ [UK k q M] (hx : ev ρ x = .int k (a : Int)) (hy : ev ρ y = .int k (b : Int)) (hN : d < N) (kk : WL ro P N ops Q rest (cx ρ d (.int k (((a * b) % M : Nat) : Int))) w) :
  WL ro P N ops Q (⟨some d, .binOp .mul t x y u, ty, pos, af, none⟩ :: rest) ρ w := aU rfl rfl hN (BW hx hy) kk
theorem Bs [UK k q M] (hx : ev ρ x = .int k (a : Int)) (hy : ev ρ y = .int k (b : Int)) (hb : 0 < b) (ha : a < M) (hN : d < N) (kk : WL ro P N ops Q rest (cx ρ d (.int k ((a / b : Nat) : Int))) w) :
  WL ro P N ops Q (⟨some d, .binOp .quo t x y u, ty, pos, af, none⟩ :: rest) ρ w := aU rfl rfl hN (Bq hx hy hb ha) kk
theorem uu (hx : ev ρ x = .int k (a : Int)) (hy : ev ρ y = .int k (b : Int)) (hb : 0 < b) (hN : d < N) (kk : WL ro P N ops Q rest (cx ρ d (.int k ((a % b : Nat) : Int))) w) :
  WL ro P N ops Q (⟨some d, .binOp .rem t x y u, ty, pos, af, none⟩ :: rest) ρ w := aU rfl rfl hN (BB hx hy hb) kk
theorem ve [h : UK k q M] (hx : ev ρ x = .int k (a : Int)) (hy : ev ρ y = .int k (b : Int)) (ha : a < M) (hb : b < M) (hN : d < N) (kk : WL ro P N ops Q rest (cx ρ d (.int k ((a ||| b : Nat) : Int))) w) :
  WL ro P N ops Q (⟨some d, .binOp .or t x y u, ty, pos, af, none⟩ :: rest) ρ w := aU rfl rfl hN (Cd hx hy ha hb) kk
theorem jJ [h : UK k q M] (hx : ev ρ x = .int k (a : Int)) (hy : ev ρ y = .int k (b : Int)) (ha : a < M) (hb : b < M) (hN : d < N) (kk : WL ro P N ops Q rest (cx ρ d (.int k ((a &&& b : Nat) : Int))) w) :
  WL ro P N ops Q (⟨some d, .binOp .and t x y u, ty, pos, af, none⟩ :: rest) ρ w := aU rfl rfl hN (Bm hx hy ha hb) kk
theorem uD [h : UK k q M] {k' : IntKind} {s : Int} (hx : ev ρ x = .int k (a : Int)) (hy : ev ρ y = .int k' s) (hs : 0 ≤ s ∧ s ≤ q) (hN : d < N) (kk : WL ro P N ops Q rest (cx ρ d (.int k ((a / 2 ^ s.toNat : Nat) : Int))) w) :
  WL ro P N ops Q (⟨some d, .binOp .shr t x y u, ty, pos, af, none⟩ :: rest) ρ w := aU rfl rfl hN (uB hx hy hs) kk
theorem dZ [UK k q M] {k' : IntKind} {s m : Nat} (hx : ev ρ x = .int k (a : Int)) (hy : ev ρ y = .int k' (s : Int)) (hs : s ≤ q) (hm : 2 ^ s = m) (hN : d < N) (kk : WL ro P N ops Q rest (cx ρ d (.int k ((a / m : Nat) : Int))) w) :
  WL ro P N ops Q (⟨some d, .binOp .shr t x y u, ty, pos, af, none⟩ :: rest) ρ w := aU rfl rfl hN (ze hx hy hs hm) kk
theorem xu [h : UK k q M] (hx : ev ρ x = .int k (a : Int)) (ha : a ≤ M) (hN : d < N) (kk : WL ro P N ops Q rest (cx ρ d (.int k (((M - a) % M : Nat) : Int))) w) :
  WL ro P N ops Q (⟨some d, .unOp .neg t x, ty, pos, af, none⟩ :: rest) ρ w := aU rfl rfl hN (BK hx ha) kk
theorem eY [UK k q M] {s t : TypeId} {k' : IntKind} {sd : TypeDesc} (hs : P.underlying s = some sd) (ht : P.underlying t = some (.int k)) (hx : ev ρ x = .int k' (a : Int)) (hN : d < N) (kk : WL ro P N ops Q rest (cx ρ d (.int k ((a % M : Nat) : Int))) w) :
  WL ro P N ops Q (⟨some d, .convert s t x, ty, pos, af, none⟩ :: rest) ρ w := aU rfl rfl hN (vp hs ht hx) kk
theorem di [UK k q M] {s t : TypeId} {k' : IntKind} {sd : TypeDesc} (hs : P.underlying s = some sd) (ht : P.underlying t = some (.int k)) (hx : ev ρ x = .int k' (a : Int)) (ha : a < M) (hN : d < N) (kk : WL ro P N ops Q rest (cx ρ d (.int k (a : Int))) w) :
  WL ro P N ops Q (⟨some d, .convert s t x, ty, pos, af, none⟩ :: rest) ρ w := aU rfl rfl hN (n8 hs ht hx ha) kk
end
section
variable {t u : TypeId} {x y : Operand} {k : IntKind} {a b : Int}
theorem zz (hx : ev ρ x = .int k a) (hy : ev ρ y = .int k b) (hN : d < N) (kk : WL ro P N ops Q rest (cx ρ d (.bool (decide (a < b)))) w) :
  WL ro P N ops Q (⟨some d, .binOp .lss t x y u, ty, pos, af, none⟩ :: rest) ρ w := aU rfl rfl hN (zF hx hy) kk
theorem zU (hx : ev ρ x = .int k a) (hy : ev ρ y = .int k b) (hN : d < N) (kk : WL ro P N ops Q rest (cx ρ d (.bool (decide (a ≤ b)))) w) :
  WL ro P N ops Q (⟨some d, .binOp .leq t x y u, ty, pos, af, none⟩ :: rest) ρ w := aU rfl rfl hN (zb hx hy) kk
theorem zR (hx : ev ρ x = .int k a) (hy : ev ρ y = .int k b) (hN : d < N) (kk : WL ro P N ops Q rest (cx ρ d (.bool (decide (b < a)))) w) :
  WL ro P N ops Q (⟨some d, .binOp .gtr t x y u, ty, pos, af, none⟩ :: rest) ρ w := aU rfl rfl hN (vC hx hy) kk
theorem zK (hx : ev ρ x = .int k a) (hy : ev ρ y = .int k b) (hN : d < N) (kk : WL ro P N ops Q rest (cx ρ d (.bool (decide (b ≤ a)))) w) :
  WL ro P N ops Q (⟨some d, .binOp .geq t x y u, ty, pos, af, none⟩ :: rest) ρ w := aU rfl rfl hN (zv hx hy) kk
theorem z6 (hx : ev ρ x = .int k a) (hy : ev ρ y = .int k b) (hN : d < N) (kk : WL ro P N ops Q rest (cx ρ d (.bool (decide (a ≠ b)))) w) :
  WL ro P N ops Q (⟨some d, .binOp .neq t x y u, ty, pos, af, none⟩ :: rest) ρ w := aU rfl rfl hN (Aa hx hy) kk
end
section
variable {t u : TypeId} {x y : Operand} {a b : Bool}
theorem jY (ht : P.underlying t = some .bool) (hx : ev ρ x = .bool a) (hy : ev ρ y = .bool b) (h : a = b) (hN : d < N) (kk : WL ro P N ops Q rest (cx ρ d (.bool true)) w) :
  WL ro P N ops Q (⟨some d, .binOp .eql t x y u, ty, pos, af, none⟩ :: rest) ρ w := aU rfl rfl hN (z5 ht hx hy h) kk
theorem jX (ht : P.underlying t = some .bool) (hx : ev ρ x = .bool a) (hy : ev ρ y = .bool b) (h : ¬ a = b) (hN : d < N) (kk : WL ro P N ops Q rest (cx ρ d (.bool false)) w) :
  WL ro P N ops Q (⟨some d, .binOp .eql t x y u, ty, pos, af, none⟩ :: rest) ρ w := aU rfl rfl hN (z3 ht hx hy h) kk
theorem rb (ht : P.underlying t = some .bool) (hx : ev ρ x = .bool a) (hy : ev ρ y = .bool b) (h : ¬ a = b) (hN : d < N) (kk : WL ro P N ops Q rest (cx ρ d (.bool true)) w) :
  WL ro P N ops Q (⟨some d, .binOp .neq t x y u, ty, pos, af, none⟩ :: rest) ρ w := aU rfl rfl hN (vg ht hx hy h) kk
theorem rS (ht : P.underlying t = some .bool) (hx : ev ρ x = .bool a) (hy : ev ρ y = .bool b) (h : a = b) (hN : d < N) (kk : WL ro P N ops Q rest (cx ρ d (.bool false)) w) :
  WL ro P N ops Q (⟨some d, .binOp .neq t x y u, ty, pos, af, none⟩ :: rest) ρ w := aU rfl rfl hN (vU ht hx hy h) kk
end
theorem aZ {t e : TypeId} {x i : Operand} {ad : Addr} {n c sz k : Nat} {kk : IntKind} {m : Int} (ht : P.underlying t = some (.slice e)) (hsz : (P.info? e).map (·.size) = some sz) (hx : ev ρ x = .slice (some ad) n c) (hi : ev ρ i = .int kk m)
  (hm : m = (k : Int)) (h1 : k < n) (hN : d < N) (kk : WL ro P N ops Q rest (cx ρ d (.pointer (some (ad.add (k * sz))))) w) :
  WL ro P N ops Q (⟨some d, .indexAddr t x i, ty, pos, af, none⟩ :: rest) ρ w := aU rfl rfl hN (eg ht hsz hx hi hm h1) kk
theorem dA {t e : TypeId} {x i : Operand} {b o n c sz k : Nat} {kk : IntKind} {m : Int} (ht : P.underlying t = some (.slice e)) (hsz : (P.info? e).map (·.size) = some sz) (hx : ev ρ x = .slice (some ⟨b, o, none⟩) n c) (hi : ev ρ i = .int kk m)
  (hm : m = (k : Int)) (h1 : k < n) (hN : d < N) (kk : WL ro P N ops Q rest (cx ρ d (.pointer (some ⟨b, o + k * sz, none⟩))) w) :
  WL ro P N ops Q (⟨some d, .indexAddr t x i, ty, pos, af, none⟩ :: rest) ρ w := aU rfl rfl hN (uX ht hsz hx hi hm h1) kk
theorem ud {t e : TypeId} {x i : Operand} {ad : Addr} {n sz k : Nat} {kk : IntKind} {m : Int} (ht : P.underlying t = some (.array n e)) (hsz : (P.info? e).map (·.size) = some sz) (hx : ev ρ x = .pointer (some ad)) (hi : ev ρ i = .int kk m)
  (hm : m = (k : Int)) (h1 : k < n) (hN : d < N) (kk : WL ro P N ops Q rest (cx ρ d (.pointer (some (ad.add (k * sz))))) w) :
  WL ro P N ops Q (⟨some d, .indexAddr t x i, ty, pos, af, none⟩ :: rest) ρ w := aU rfl rfl hN (uJ ht hsz hx hi hm h1) kk
theorem lE {t e : TypeId} {x hi : Operand} {A : Option Addr} {n c h sz : Nat} {k : IntKind} {m : Int} (ht : P.underlying t = some (.slice e)) (hsz : (P.info? e).map (·.size) = some sz) (hx : ev ρ x = .slice A n c) (hhi : ev ρ hi = .int k m)
  (hm : m = (h : Int)) (h2 : h ≤ c) (hN : d < N) (kk : WL ro P N ops Q rest (cx ρ d (.slice A h c)) w) :
  WL ro P N ops Q (⟨some d, .slice t x none (some hi) none, ty, pos, af, none⟩ :: rest) ρ w := aU rfl rfl hN (rV ht hsz hx hhi hm h2) kk
theorem oG {t e : TypeId} {x lo : Operand} {b o n c l sz : Nat} {k : IntKind} {m : Int} (ht : P.underlying t = some (.slice e)) (hsz : (P.info? e).map (·.size) = some sz) (hx : ev ρ x = .slice (some ⟨b, o, none⟩) n c) (hlo : ev ρ lo = .int k m)
  (hm : m = (l : Int)) (h1 : l ≤ n) (h2 : n ≤ c) (h3 : l < c) (hN : d < N) (kk : WL ro P N ops Q rest (cx ρ d (.slice (some ⟨b, o + l * sz, none⟩) (n - l) (c - l))) w) :
  WL ro P N ops Q (⟨some d, .slice t x (some lo) none none, ty, pos, af, none⟩ :: rest) ρ w := aU rfl rfl hN (uR ht hsz hx hlo hm h1 h2 h3) kk
theorem nA {t e : TypeId} {x lo : Operand} {ad : Addr} {n c l sz : Nat} {k : IntKind} {m : Int} (ht : P.underlying t = some (.slice e)) (hsz : (P.info? e).map (·.size) = some sz) (hx : ev ρ x = .slice (some ad) n c) (hlo : ev ρ lo = .int k m)
  (hm : m = (l : Int)) (h1 : l ≤ n) (h2 : n ≤ c) (h3 : l < c) (hN : d < N) (kk : WL ro P N ops Q rest (cx ρ d (.slice (some (ad.add (l * sz))) (n - l) (c - l))) w) :
  WL ro P N ops Q (⟨some d, .slice t x (some lo) none none, ty, pos, af, none⟩ :: rest) ρ w := aU rfl rfl hN (sH ht hsz hx hlo hm h1 h2 h3) kk
theorem a0 : pL ρ [] = [] := rfl
theorem ay {x : Operand} {l : List Operand} {v : Value} {r : List Value} (hx : ev ρ x = v) (h : pL ρ l = r) : pL ρ (x :: l) = v :: r := by simp only [pL, hx, h]
theorem bQ : pI ρ [] = [] := rfl
theorem aY {i : Nat} {x : Operand} {l : List (Nat × Operand)} {v : Value} {r : List (Nat × Value)} (hx : ev ρ x = v) (h : pI ρ l = r) : pI ρ ((i, x) :: l) = (i, v) :: r := by simp only [pI, hx, h]
def uA (P : Program) (f : FuncId) : Bool := match P.funcs[f]? with | some fn => !fn.body.isNone && !(fn.name == "runtime.NumGoroutine") | none => false
theorem qF {P : Program} {f : FuncId} (h : uA P f = true) : ∃ fn, P.funcs[f]? = some fn ∧ fn.body.isNone = false ∧ (fn.name == "runtime.NumGoroutine") = false := by
 unfold uA at h;split at h
 ·rename_i fn hf;simp only [Bool.and_eq_true, Bool.not_eq_true'] at h;exact ⟨fn, hf, h.1, h.2⟩
 ·cases h
theorem aW {dd : Option Nat} {g : Option (Nat × Bool)} {f : FuncId} {args : Array Operand} {ts : Array TypeId} {vs : List Value} (hf : uA P f = true) (ha : pL ρ args.toList = vs) :
  (execOp (ev ρ) ⟨dd, .call ⟨.value (.func f), args, ts⟩, ty, pos, af, g⟩).run P w = .ok (.enter f vs.toArray) w := by
 obtain ⟨fn, h1, h2, h3⟩ := qF hf;have := yU (P := P) (w := w) (d := dd) (ty := ty) (pos := pos) (af := af) (g := g) (ts := ts) h1 h2 h3 (show ev ρ (.func f) = .func (.func f) #[] #[] from rfl) (lV args ha);simpa using this
theorem wH {dd : Option Nat} {g : Option (Nat × Bool)} {x : Operand} {f : FuncId} {args : Array Operand} {ts : Array TypeId} {first cap vs : List Value} (hf : uA P f = true) (hx : ev ρ x = .func (.func f) first.toArray cap.toArray) (ha : first ++ (pL ρ args.toList ++ cap) = vs) :
  (execOp (ev ρ) ⟨dd, .call ⟨.value x, args, ts⟩, ty, pos, af, g⟩).run P w = .ok (.enter f vs.toArray) w := by
 obtain ⟨fn, h1, h2, h3⟩ := qF hf;have := yU (P := P) (w := w) (d := dd) (ty := ty) (pos := pos) (af := af) (g := g) (ts := ts) h1 h2 h3 hx (lV args rfl);subst ha;simpa using this
theorem aK {f : FuncId} {args : Array Operand} {ts : Array TypeId} {vs : List Value} {R : Ending → World → Prop} (hc : Calls P f vs.toArray w R) (hf : uA P f = true) (ha : pL ρ args.toList = vs) (hN : d < N)
  (kk : ∀ e w', R e w' → ∃ v, e = .returned v ∧ WL ro P N ops Q rest (cx ρ d v) w') : WL ro P N ops Q (⟨some d, .call ⟨.value (.func f), args, ts⟩, ty, pos, af, none⟩ :: rest) ρ w :=
 sU rfl rfl hN (aW hf ha) hc kk
theorem fp {x : Operand} {f : FuncId} {args : Array Operand} {ts : Array TypeId} {first cap vs : List Value} {R : Ending → World → Prop} (hc : Calls P f vs.toArray w R) (hf : uA P f = true) (hx : ev ρ x = .func (.func f) first.toArray cap.toArray) (ha : first ++ (pL ρ args.toList ++ cap) = vs) (hN : d < N)
  (kk : ∀ e w', R e w' → ∃ v, e = .returned v ∧ WL ro P N ops Q rest (cx ρ d v) w') : WL ro P N ops Q (⟨some d, .call ⟨.value x, args, ts⟩, ty, pos, af, none⟩ :: rest) ρ w :=
 sU rfl rfl hN (wH hf hx ha) hc kk
end
end Go.Proofs.YteeckcbbnegmcaaGreatDoor
/- mz facts on the seat's types and functions, as instances that the rules find by themselves (printed by wip/gen/types.py). -/
namespace Go.Proofs.YteeckcbbnegmcaaGreatDoor
set_option maxRecDepth 100000
class aF (P : Program) (t : TypeId) (d : outParam TypeDesc) : Prop where out : P.underlying t = some d := by kernel_rfl
class aC (P : Program) (t : TypeId) (n : outParam Nat) (ag : outParam Bool) (b : outParam Nat) (zc : outParam (List Value)) : Prop where out : cZ P t = some (n, ag, b, zc) := by kernel_rfl
class dJ (P : Program) (s : TypeId) (f : Nat) (off : outParam Nat) (ft : outParam TypeId) : Prop where out : g9 P s f = some (off, ft) := by kernel_rfl
class iY (P : Program) (s : TypeId) (pl : outParam (List (Nat × Nat))) : Prop where out : lT P s = some pl := by kernel_rfl
class aq (P : Program) (f : FuncId) : Prop where out : uA P f = true := by kernel_rfl
theorem aC.size {P : Program} {t : TypeId} {n b : Nat} {ag : Bool} {zc : List Value} [h : aC P t n ag b zc] : (P.info? t).map (·.size) = some n := by
 obtain ⟨i, z, d, hi, hd, hz, hs, _⟩ := eD h.out;rw [hi, Option.map_some, hs]
instance : aF Tryz.prog 2 (.int .i64) := {}
instance : aC Tryz.prog 2 1 false 8 [.int .i64 0] := {}
instance : aF Tryz.prog 3 (.int .i64) := {}
instance : aC Tryz.prog 3 1 false 8 [.int .i64 0] := {}
instance : aF Tryz.prog 4 (.bool) := {}
instance : aC Tryz.prog 4 1 false 1 [.bool false] := {}
instance : aF Tryz.prog 5 (.int .u8) := {}
instance : aC Tryz.prog 5 1 false 1 [.int .u8 0] := {}
instance : aF Tryz.prog 6 (.int .u8) := {}
instance : aC Tryz.prog 6 1 false 1 [.int .u8 0] := {}
instance : aC Tryz.prog 7 4 true 24 [.int .i64 0, .int .i64 0, .bool false, .int .u8 0] := {}
instance : dJ Tryz.prog 7 0 0 2 := {}
instance : dJ Tryz.prog 7 1 1 3 := {}
instance : dJ Tryz.prog 7 2 2 4 := {}
instance : dJ Tryz.prog 7 3 3 6 := {}
instance : iY Tryz.prog 7 [(0, 1), (1, 1), (2, 1), (3, 1)] := {}
instance : aC Tryz.prog 8 4 true 24 [.int .i64 0, .int .i64 0, .bool false, .int .u8 0] := {}
instance : dJ Tryz.prog 8 0 0 2 := {}
instance : dJ Tryz.prog 8 1 1 3 := {}
instance : dJ Tryz.prog 8 2 2 4 := {}
instance : dJ Tryz.prog 8 3 3 6 := {}
instance : iY Tryz.prog 8 [(0, 1), (1, 1), (2, 1), (3, 1)] := {}
instance : aF Tryz.prog 9 (.string) := {}
instance : aC Tryz.prog 9 1 false 16 [.string { data := #[] }] := {}
instance : aF Tryz.prog 10 (.string) := {}
instance : aC Tryz.prog 10 1 false 16 [.string { data := #[] }] := {}
instance : aF Tryz.prog 11 (.string) := {}
instance : aC Tryz.prog 11 1 false 16 [.string { data := #[] }] := {}
instance : aF Tryz.prog 12 (.int .u64) := {}
instance : aC Tryz.prog 12 1 false 8 [.int .u64 0] := {}
instance : aC Tryz.prog 13 2 true 24 [.string { data := #[] }, .int .u64 0] := {}
instance : dJ Tryz.prog 13 0 0 9 := {}
instance : dJ Tryz.prog 13 1 1 12 := {}
instance : iY Tryz.prog 13 [(0, 1), (1, 1)] := {}
instance : aC Tryz.prog 14 2 true 24 [.string { data := #[] }, .int .u64 0] := {}
instance : dJ Tryz.prog 14 0 0 9 := {}
instance : dJ Tryz.prog 14 1 1 12 := {}
instance : iY Tryz.prog 14 [(0, 1), (1, 1)] := {}
instance : aF Tryz.prog 15 (.pointer 278) := {}
instance : aC Tryz.prog 15 1 false 8 [.pointer none] := {}
instance : aF Tryz.prog 16 (.pointer 281) := {}
instance : aC Tryz.prog 16 1 false 8 [.pointer none] := {}
instance : aF Tryz.prog 17 (.pointer 290) := {}
instance : aC Tryz.prog 17 1 false 8 [.pointer none] := {}
instance : aC Tryz.prog 18 1 true 8 [.pointer none] := {}
instance : dJ Tryz.prog 18 0 0 17 := {}
instance : iY Tryz.prog 18 [(0, 1)] := {}
instance : aC Tryz.prog 19 1 true 8 [.pointer none] := {}
instance : dJ Tryz.prog 19 0 0 17 := {}
instance : iY Tryz.prog 19 [(0, 1)] := {}
instance : aF Tryz.prog 21 (.int .i32) := {}
instance : aC Tryz.prog 21 1 false 4 [.int .i32 0] := {}
instance : aF Tryz.prog 22 (.slice 96) := {}
instance : aC Tryz.prog 22 1 false 24 [.slice none 0 0] := {}
instance : aC Tryz.prog 23 2 true 32 [.int .i64 0, .slice none 0 0] := {}
instance : dJ Tryz.prog 23 0 0 3 := {}
instance : dJ Tryz.prog 23 1 1 22 := {}
instance : iY Tryz.prog 23 [(0, 1), (1, 1)] := {}
instance : aC Tryz.prog 24 2 true 32 [.int .i64 0, .slice none 0 0] := {}
instance : dJ Tryz.prog 24 0 0 3 := {}
instance : dJ Tryz.prog 24 1 1 22 := {}
instance : iY Tryz.prog 24 [(0, 1), (1, 1)] := {}
instance : aF Tryz.prog 27 (.int .i64) := {}
instance : aC Tryz.prog 27 1 false 8 [.int .i64 0] := {}
instance : aF Tryz.prog 33 (.slice 81) := {}
instance : aC Tryz.prog 33 1 false 24 [.slice none 0 0] := {}
instance : aF Tryz.prog 34 (.slice 81) := {}
instance : aC Tryz.prog 34 1 false 24 [.slice none 0 0] := {}
instance : aF Tryz.prog 35 (.slice 3) := {}
instance : aC Tryz.prog 35 1 false 24 [.slice none 0 0] := {}
instance : aF Tryz.prog 37 (.slice 65) := {}
instance : aC Tryz.prog 37 1 false 24 [.slice none 0 0] := {}
instance : aC Tryz.prog 38 2 true 48 [.slice none 0 0, .slice none 0 0] := {}
instance : dJ Tryz.prog 38 0 0 35 := {}
instance : dJ Tryz.prog 38 1 1 37 := {}
instance : iY Tryz.prog 38 [(0, 1), (1, 1)] := {}
instance : aC Tryz.prog 39 2 true 48 [.slice none 0 0, .slice none 0 0] := {}
instance : dJ Tryz.prog 39 0 0 35 := {}
instance : dJ Tryz.prog 39 1 1 37 := {}
instance : iY Tryz.prog 39 [(0, 1), (1, 1)] := {}
instance : aC Tryz.prog 62 2 true 24 [.bool false, .string { data := #[] }] := {}
instance : dJ Tryz.prog 62 0 0 4 := {}
instance : dJ Tryz.prog 62 1 1 9 := {}
instance : iY Tryz.prog 62 [(0, 1), (1, 1)] := {}
instance : aC Tryz.prog 63 2 true 24 [.bool false, .string { data := #[] }] := {}
instance : dJ Tryz.prog 63 0 0 4 := {}
instance : dJ Tryz.prog 63 1 1 9 := {}
instance : iY Tryz.prog 63 [(0, 1), (1, 1)] := {}
instance : aC Tryz.prog 64 3 true 32 [.bool false, .string { data := #[] }, .int .i64 0] := {}
instance : dJ Tryz.prog 64 0 0 63 := {}
instance : dJ Tryz.prog 64 1 2 3 := {}
instance : iY Tryz.prog 64 [(0, 2), (2, 1)] := {}
instance : aC Tryz.prog 65 3 true 32 [.bool false, .string { data := #[] }, .int .i64 0] := {}
instance : dJ Tryz.prog 65 0 0 63 := {}
instance : dJ Tryz.prog 65 1 2 3 := {}
instance : iY Tryz.prog 65 [(0, 2), (2, 1)] := {}
instance : aC Tryz.prog 80 6 true 64 [.bool false, .string { data := #[] }, .int .i64 0, .bool false, .string { data := #[] }, .int .i64 0] := {}
instance : dJ Tryz.prog 80 0 0 65 := {}
instance : dJ Tryz.prog 80 1 3 65 := {}
instance : iY Tryz.prog 80 [(0, 3), (3, 3)] := {}
instance : aC Tryz.prog 81 6 true 64 [.bool false, .string { data := #[] }, .int .i64 0, .bool false, .string { data := #[] }, .int .i64 0] := {}
instance : dJ Tryz.prog 81 0 0 65 := {}
instance : dJ Tryz.prog 81 1 3 65 := {}
instance : iY Tryz.prog 81 [(0, 3), (3, 3)] := {}
instance : aF Tryz.prog 91 (.slice 65) := {}
instance : aC Tryz.prog 91 1 false 24 [.slice none 0 0] := {}
instance : aC Tryz.prog 95 4 true 48 [.string { data := #[] }, .bool false, .string { data := #[] }, .int .i64 0] := {}
instance : dJ Tryz.prog 95 0 0 9 := {}
instance : dJ Tryz.prog 95 1 1 65 := {}
instance : iY Tryz.prog 95 [(0, 1), (1, 3)] := {}
instance : aC Tryz.prog 96 4 true 48 [.string { data := #[] }, .bool false, .string { data := #[] }, .int .i64 0] := {}
instance : dJ Tryz.prog 96 0 0 9 := {}
instance : dJ Tryz.prog 96 1 1 65 := {}
instance : iY Tryz.prog 96 [(0, 1), (1, 3)] := {}
instance : aF Tryz.prog 101 (.slice 5) := {}
instance : aC Tryz.prog 101 1 false 24 [.slice none 0 0] := {}
instance : aF Tryz.prog 104 (.slice 24) := {}
instance : aC Tryz.prog 104 1 false 24 [.slice none 0 0] := {}
instance : aC Tryz.prog 118 2 true 16 [.int .i64 0, .int .i64 0] := {}
instance : dJ Tryz.prog 118 0 0 3 := {}
instance : dJ Tryz.prog 118 1 1 3 := {}
instance : iY Tryz.prog 118 [(0, 1), (1, 1)] := {}
instance : aC Tryz.prog 119 2 true 16 [.int .i64 0, .int .i64 0] := {}
instance : dJ Tryz.prog 119 0 0 3 := {}
instance : dJ Tryz.prog 119 1 1 3 := {}
instance : iY Tryz.prog 119 [(0, 1), (1, 1)] := {}
instance : aC Tryz.prog 125 9 true 96 [.bool false, .string { data := #[] }, .int .i64 0, .bool false, .string { data := #[] }, .int .i64 0, .bool false, .string { data := #[] }, .int .i64 0] := {}
instance : dJ Tryz.prog 125 0 0 81 := {}
instance : dJ Tryz.prog 125 1 6 65 := {}
instance : iY Tryz.prog 125 [(0, 6), (6, 3)] := {}
instance : aC Tryz.prog 126 9 true 96 [.bool false, .string { data := #[] }, .int .i64 0, .bool false, .string { data := #[] }, .int .i64 0, .bool false, .string { data := #[] }, .int .i64 0] := {}
instance : dJ Tryz.prog 126 0 0 81 := {}
instance : dJ Tryz.prog 126 1 6 65 := {}
instance : iY Tryz.prog 126 [(0, 6), (6, 3)] := {}
instance : aF Tryz.prog 131 (.int .u64) := {}
instance : aC Tryz.prog 131 1 false 8 [.int .u64 0] := {}
instance : aF Tryz.prog 140 (.slice 9) := {}
instance : aC Tryz.prog 140 1 false 24 [.slice none 0 0] := {}
instance : aF Tryz.prog 155 (.int .i64) := {}
instance : aC Tryz.prog 155 1 false 8 [.int .i64 0] := {}
instance : aC Tryz.prog 156 5 true 56 [.int .i64 0, .bool false, .string { data := #[] }, .bool false, .string { data := #[] }] := {}
instance : dJ Tryz.prog 156 0 0 155 := {}
instance : dJ Tryz.prog 156 1 1 63 := {}
instance : dJ Tryz.prog 156 2 3 63 := {}
instance : iY Tryz.prog 156 [(0, 1), (1, 2), (3, 2)] := {}
instance : aC Tryz.prog 157 5 true 56 [.int .i64 0, .bool false, .string { data := #[] }, .bool false, .string { data := #[] }] := {}
instance : dJ Tryz.prog 157 0 0 155 := {}
instance : dJ Tryz.prog 157 1 1 63 := {}
instance : dJ Tryz.prog 157 2 3 63 := {}
instance : iY Tryz.prog 157 [(0, 1), (1, 2), (3, 2)] := {}
instance : aF Tryz.prog 166 (.slice 168) := {}
instance : aC Tryz.prog 166 1 false 24 [.slice none 0 0] := {}
instance : aC Tryz.prog 167 1 true 24 [.slice none 0 0] := {}
instance : dJ Tryz.prog 167 0 0 37 := {}
instance : iY Tryz.prog 167 [(0, 1)] := {}
instance : aC Tryz.prog 168 1 true 24 [.slice none 0 0] := {}
instance : dJ Tryz.prog 168 0 0 37 := {}
instance : iY Tryz.prog 168 [(0, 1)] := {}
instance : aF Tryz.prog 181 (.slice 2) := {}
instance : aC Tryz.prog 181 1 false 24 [.slice none 0 0] := {}
instance : aC Tryz.prog 182 6 true 64 [.bool false, .string { data := #[] }, .int .i64 0, .bool false, .string { data := #[] }, .int .i64 0] := {}
instance : dJ Tryz.prog 182 0 0 65 := {}
instance : dJ Tryz.prog 182 1 3 65 := {}
instance : iY Tryz.prog 182 [(0, 3), (3, 3)] := {}
instance : aC Tryz.prog 183 6 true 64 [.bool false, .string { data := #[] }, .int .i64 0, .bool false, .string { data := #[] }, .int .i64 0] := {}
instance : dJ Tryz.prog 183 0 0 65 := {}
instance : dJ Tryz.prog 183 1 3 65 := {}
instance : iY Tryz.prog 183 [(0, 3), (3, 3)] := {}
instance : aF Tryz.prog 196 (.slice 63) := {}
instance : aC Tryz.prog 196 1 false 24 [.slice none 0 0] := {}
instance : aF Tryz.prog 197 (.string) := {}
instance : aC Tryz.prog 197 1 false 16 [.string { data := #[] }] := {}
instance : aC Tryz.prog 198 2 true 24 [.string { data := #[] }, .bool false] := {}
instance : dJ Tryz.prog 198 0 0 197 := {}
instance : dJ Tryz.prog 198 1 1 4 := {}
instance : iY Tryz.prog 198 [(0, 1), (1, 1)] := {}
instance : aC Tryz.prog 199 2 true 24 [.string { data := #[] }, .bool false] := {}
instance : dJ Tryz.prog 199 0 0 197 := {}
instance : dJ Tryz.prog 199 1 1 4 := {}
instance : iY Tryz.prog 199 [(0, 1), (1, 1)] := {}
instance : aF Tryz.prog 204 (.int .u64) := {}
instance : aC Tryz.prog 204 1 false 8 [.int .u64 0] := {}
instance : aF Tryz.prog 205 (.pointer 168) := {}
instance : aC Tryz.prog 205 1 false 8 [.pointer none] := {}
instance : aC Tryz.prog 206 6 true 64 [.bool false, .string { data := #[] }, .int .i64 0, .bool false, .string { data := #[] }, .int .i64 0] := {}
instance : dJ Tryz.prog 206 0 0 81 := {}
instance : iY Tryz.prog 206 [(0, 6)] := {}
instance : aC Tryz.prog 207 6 true 64 [.bool false, .string { data := #[] }, .int .i64 0, .bool false, .string { data := #[] }, .int .i64 0] := {}
instance : dJ Tryz.prog 207 0 0 81 := {}
instance : iY Tryz.prog 207 [(0, 6)] := {}
instance : aF Tryz.prog 226 (.slice 204) := {}
instance : aC Tryz.prog 226 1 false 24 [.slice none 0 0] := {}
instance : aF Tryz.prog 227 (.slice 204) := {}
instance : aC Tryz.prog 227 1 false 24 [.slice none 0 0] := {}
instance : aF Tryz.prog 244 (.array 64 5) := {}
instance : aC Tryz.prog 244 64 true 64 [.int .u8 0, .int .u8 0, .int .u8 0, .int .u8 0, .int .u8 0, .int .u8 0, .int .u8 0, .int .u8 0, .int .u8 0, .int .u8 0, .int .u8 0, .int .u8 0, .int .u8 0, .int .u8 0, .int .u8 0, .int .u8 0, .int .u8 0, .int .u8 0, .int .u8 0, .int .u8 0, .int .u8 0, .int .u8 0, .int .u8 0, .int .u8 0, .int .u8 0, .int .u8 0, .int .u8 0, .int .u8 0, .int .u8 0, .int .u8 0, .int .u8 0, .int .u8 0, .int .u8 0, .int .u8 0, .int .u8 0, .int .u8 0, .int .u8 0, .int .u8 0, .int .u8 0, .int .u8 0, .int .u8 0, .int .u8 0, .int .u8 0, .int .u8 0, .int .u8 0, .int .u8 0, .int .u8 0, .int .u8 0, .int .u8 0, .int .u8 0, .int .u8 0, .int .u8 0, .int .u8 0, .int .u8 0, .int .u8 0, .int .u8 0, .int .u8 0, .int .u8 0, .int .u8 0, .int .u8 0, .int .u8 0, .int .u8 0, .int .u8 0, .int .u8 0] := {}
instance : aF Tryz.prog 256 (.array 256 4) := {}
instance : aF Tryz.prog 257 (.array 256 4) := {}
instance : aF Tryz.prog 261 (.pointer 257) := {}
instance : aC Tryz.prog 261 1 false 8 [.pointer none] := {}
instance : aF Tryz.prog 270 (.array 256 5) := {}
instance : aC Tryz.prog 271 2 true 2 [.int .u8 0, .int .u8 0] := {}
instance : dJ Tryz.prog 271 0 0 5 := {}
instance : dJ Tryz.prog 271 1 1 5 := {}
instance : iY Tryz.prog 271 [(0, 1), (1, 1)] := {}
instance : aC Tryz.prog 272 2 true 2 [.int .u8 0, .int .u8 0] := {}
instance : dJ Tryz.prog 272 0 0 5 := {}
instance : dJ Tryz.prog 272 1 1 5 := {}
instance : iY Tryz.prog 272 [(0, 1), (1, 1)] := {}
instance : aF Tryz.prog 273 (.array 16 272) := {}
instance : aC Tryz.prog 273 32 true 32 [.int .u8 0, .int .u8 0, .int .u8 0, .int .u8 0, .int .u8 0, .int .u8 0, .int .u8 0, .int .u8 0, .int .u8 0, .int .u8 0, .int .u8 0, .int .u8 0, .int .u8 0, .int .u8 0, .int .u8 0, .int .u8 0, .int .u8 0, .int .u8 0, .int .u8 0, .int .u8 0, .int .u8 0, .int .u8 0, .int .u8 0, .int .u8 0, .int .u8 0, .int .u8 0, .int .u8 0, .int .u8 0, .int .u8 0, .int .u8 0, .int .u8 0, .int .u8 0] := {}
instance : aC Tryz.prog 277 4 true 40 [.pointer none, .pointer none, .pointer none, .string { data := #[] }] := {}
instance : dJ Tryz.prog 277 0 0 17 := {}
instance : dJ Tryz.prog 277 1 1 17 := {}
instance : dJ Tryz.prog 277 2 2 17 := {}
instance : dJ Tryz.prog 277 3 3 9 := {}
instance : iY Tryz.prog 277 [(0, 1), (1, 1), (2, 1), (3, 1)] := {}
instance : aC Tryz.prog 278 4 true 40 [.pointer none, .pointer none, .pointer none, .string { data := #[] }] := {}
instance : dJ Tryz.prog 278 0 0 17 := {}
instance : dJ Tryz.prog 278 1 1 17 := {}
instance : dJ Tryz.prog 278 2 2 17 := {}
instance : dJ Tryz.prog 278 3 3 9 := {}
instance : iY Tryz.prog 278 [(0, 1), (1, 1), (2, 1), (3, 1)] := {}
instance : aF Tryz.prog 279 (.array 0 16) := {}
instance : aC Tryz.prog 279 0 true 0 [] := {}
instance : aC Tryz.prog 280 0 true 0 [] := {}
instance : iY Tryz.prog 280 [(0, 0)] := {}
instance : aC Tryz.prog 281 0 true 0 [] := {}
instance : iY Tryz.prog 281 [(0, 0)] := {}
instance : aF Tryz.prog 282 (.int .u32) := {}
instance : aC Tryz.prog 282 1 false 4 [.int .u32 0] := {}
instance : aF Tryz.prog 283 (.int .u8) := {}
instance : aC Tryz.prog 283 1 false 1 [.int .u8 0] := {}
instance : aF Tryz.prog 284 (.int .u8) := {}
instance : aC Tryz.prog 284 1 false 1 [.int .u8 0] := {}
instance : aF Tryz.prog 286 (.pointer 5) := {}
instance : aC Tryz.prog 286 1 false 8 [.pointer none] := {}
instance : aF Tryz.prog 287 (.int .i32) := {}
instance : aC Tryz.prog 287 1 false 4 [.int .i32 0] := {}
instance : aF Tryz.prog 288 (.int .i32) := {}
instance : aC Tryz.prog 288 1 false 4 [.int .i32 0] := {}
instance : aC Tryz.prog 289 11 true 48 [.int .u64 0, .int .u64 0, .int .u32 0, .int .u8 0, .int .u8 0, .int .u8 0, .int .u8 0, .nilFunc, .pointer none, .int .i32 0, .int .i32 0] := {}
instance : aC Tryz.prog 290 11 true 48 [.int .u64 0, .int .u64 0, .int .u32 0, .int .u8 0, .int .u8 0, .int .u8 0, .int .u8 0, .nilFunc, .pointer none, .int .i32 0, .int .i32 0] := {}
theorem mixed : Tryz.prog.follows .mixedOrders = true := by kernel_rfl
instance : aq Tryz.prog 3 := {}
instance : aq Tryz.prog 4 := {}
instance : aq Tryz.prog 5 := {}
instance : aq Tryz.prog 6 := {}
instance : aq Tryz.prog 7 := {}
instance : aq Tryz.prog 8 := {}
instance : aq Tryz.prog 9 := {}
instance : aq Tryz.prog 10 := {}
instance : aq Tryz.prog 11 := {}
instance : aq Tryz.prog 12 := {}
instance : aq Tryz.prog 13 := {}
instance : aq Tryz.prog 14 := {}
instance : aq Tryz.prog 15 := {}
instance : aq Tryz.prog 16 := {}
instance : aq Tryz.prog 17 := {}
instance : aq Tryz.prog 18 := {}
instance : aq Tryz.prog 19 := {}
instance : aq Tryz.prog 20 := {}
instance : aq Tryz.prog 21 := {}
instance : aq Tryz.prog 22 := {}
instance : aq Tryz.prog 23 := {}
instance : aq Tryz.prog 24 := {}
instance : aq Tryz.prog 25 := {}
instance : aq Tryz.prog 26 := {}
instance : aq Tryz.prog 27 := {}
instance : aq Tryz.prog 28 := {}
instance : aq Tryz.prog 29 := {}
instance : aq Tryz.prog 30 := {}
instance : aq Tryz.prog 31 := {}
instance : aq Tryz.prog 32 := {}
instance : aq Tryz.prog 33 := {}
instance : aq Tryz.prog 34 := {}
instance : aq Tryz.prog 35 := {}
instance : aq Tryz.prog 36 := {}
instance : aq Tryz.prog 37 := {}
instance : aq Tryz.prog 38 := {}
instance : aq Tryz.prog 39 := {}
instance : aq Tryz.prog 40 := {}
instance : aq Tryz.prog 41 := {}
instance : aq Tryz.prog 42 := {}
instance : aq Tryz.prog 43 := {}
instance : aq Tryz.prog 44 := {}
instance : aq Tryz.prog 45 := {}
instance : aq Tryz.prog 46 := {}
instance : aq Tryz.prog 47 := {}
instance : aq Tryz.prog 48 := {}
instance : aq Tryz.prog 49 := {}
instance : aq Tryz.prog 50 := {}
instance : aq Tryz.prog 51 := {}
instance : aq Tryz.prog 52 := {}
instance : aq Tryz.prog 53 := {}
instance : aq Tryz.prog 54 := {}
instance : aq Tryz.prog 55 := {}
instance : aq Tryz.prog 56 := {}
instance : aq Tryz.prog 57 := {}
instance : aq Tryz.prog 58 := {}
instance : aq Tryz.prog 59 := {}
instance : aq Tryz.prog 60 := {}
instance : aq Tryz.prog 61 := {}
instance : aq Tryz.prog 62 := {}
instance : aq Tryz.prog 63 := {}
instance : aq Tryz.prog 64 := {}
instance : aq Tryz.prog 65 := {}
instance : aq Tryz.prog 66 := {}
instance : aq Tryz.prog 67 := {}
instance : aq Tryz.prog 68 := {}
instance : aq Tryz.prog 69 := {}
instance : aq Tryz.prog 70 := {}
instance : aq Tryz.prog 71 := {}
instance : aq Tryz.prog 72 := {}
instance : aq Tryz.prog 73 := {}
instance : aq Tryz.prog 74 := {}
instance : aq Tryz.prog 75 := {}
instance : aq Tryz.prog 76 := {}
instance : aq Tryz.prog 77 := {}
instance : aq Tryz.prog 78 := {}
instance : aq Tryz.prog 79 := {}
instance : aq Tryz.prog 80 := {}
instance : aq Tryz.prog 81 := {}
instance : aq Tryz.prog 82 := {}
instance : aq Tryz.prog 83 := {}
instance : aq Tryz.prog 84 := {}
instance : aq Tryz.prog 85 := {}
instance : aq Tryz.prog 86 := {}
instance : aq Tryz.prog 87 := {}
instance : aq Tryz.prog 88 := {}
instance : aq Tryz.prog 89 := {}
instance : aq Tryz.prog 90 := {}
instance : aq Tryz.prog 91 := {}
instance : aq Tryz.prog 92 := {}
instance : aq Tryz.prog 93 := {}
instance : aq Tryz.prog 94 := {}
instance : aq Tryz.prog 95 := {}
instance : aq Tryz.prog 96 := {}
instance : aq Tryz.prog 97 := {}
instance : aq Tryz.prog 98 := {}
instance : aq Tryz.prog 99 := {}
instance : aq Tryz.prog 100 := {}
instance : aq Tryz.prog 101 := {}
instance : aq Tryz.prog 102 := {}
instance : aq Tryz.prog 103 := {}
instance : aq Tryz.prog 104 := {}
instance : aq Tryz.prog 105 := {}
instance : aq Tryz.prog 106 := {}
instance : aq Tryz.prog 107 := {}
instance : aq Tryz.prog 108 := {}
instance : aq Tryz.prog 109 := {}
instance : aq Tryz.prog 110 := {}
instance : aq Tryz.prog 111 := {}
instance : aq Tryz.prog 112 := {}
instance : aq Tryz.prog 113 := {}
instance : aq Tryz.prog 114 := {}
instance : aq Tryz.prog 115 := {}
instance : aq Tryz.prog 116 := {}
instance : aq Tryz.prog 117 := {}
instance : aq Tryz.prog 118 := {}
instance : aq Tryz.prog 119 := {}
instance : aq Tryz.prog 120 := {}
instance : aq Tryz.prog 121 := {}
instance : aq Tryz.prog 122 := {}
instance : aq Tryz.prog 123 := {}
instance : aq Tryz.prog 124 := {}
instance : aq Tryz.prog 125 := {}
instance : aq Tryz.prog 126 := {}
instance : aq Tryz.prog 127 := {}
instance : aq Tryz.prog 128 := {}
instance : aq Tryz.prog 129 := {}
instance : aq Tryz.prog 130 := {}
instance : aq Tryz.prog 131 := {}
instance : aq Tryz.prog 132 := {}
instance : aq Tryz.prog 133 := {}
instance : aq Tryz.prog 134 := {}
instance : aq Tryz.prog 135 := {}
instance : aq Tryz.prog 136 := {}
instance : aq Tryz.prog 137 := {}
instance : aq Tryz.prog 138 := {}
instance : aq Tryz.prog 139 := {}
instance : aq Tryz.prog 140 := {}
instance : aq Tryz.prog 141 := {}
instance : aq Tryz.prog 142 := {}
instance : aq Tryz.prog 143 := {}
instance : aq Tryz.prog 144 := {}
instance : aq Tryz.prog 145 := {}
instance : aq Tryz.prog 146 := {}
instance : aq Tryz.prog 147 := {}
instance : aq Tryz.prog 148 := {}
instance : aq Tryz.prog 149 := {}
instance : aq Tryz.prog 150 := {}
instance : aq Tryz.prog 151 := {}
instance : aq Tryz.prog 152 := {}
instance : aq Tryz.prog 153 := {}
instance : aq Tryz.prog 154 := {}
instance : aq Tryz.prog 155 := {}
instance : aq Tryz.prog 156 := {}
instance : aq Tryz.prog 157 := {}
instance : aq Tryz.prog 158 := {}
instance : aq Tryz.prog 159 := {}
instance : aq Tryz.prog 160 := {}
instance : aq Tryz.prog 161 := {}
instance : aq Tryz.prog 162 := {}
instance : aq Tryz.prog 163 := {}
instance : aq Tryz.prog 164 := {}
instance : aq Tryz.prog 165 := {}
instance : aq Tryz.prog 166 := {}
instance : aq Tryz.prog 167 := {}
instance : aq Tryz.prog 168 := {}
instance : aq Tryz.prog 169 := {}
instance : aq Tryz.prog 170 := {}
instance : aq Tryz.prog 171 := {}
instance : aq Tryz.prog 172 := {}
instance : aq Tryz.prog 173 := {}
instance : aq Tryz.prog 174 := {}
instance : aq Tryz.prog 175 := {}
instance : aq Tryz.prog 176 := {}
instance : aq Tryz.prog 177 := {}
instance : aq Tryz.prog 178 := {}
instance : aq Tryz.prog 179 := {}
instance : aq Tryz.prog 180 := {}
instance : aq Tryz.prog 181 := {}
instance : aq Tryz.prog 182 := {}
instance : aq Tryz.prog 183 := {}
instance : aq Tryz.prog 184 := {}
instance : aq Tryz.prog 185 := {}
instance : aq Tryz.prog 186 := {}
instance : aq Tryz.prog 187 := {}
instance : aq Tryz.prog 188 := {}
instance : aq Tryz.prog 189 := {}
instance : aq Tryz.prog 190 := {}
instance : aq Tryz.prog 191 := {}
instance : aq Tryz.prog 192 := {}
instance : aq Tryz.prog 193 := {}
instance : aq Tryz.prog 194 := {}
instance : aq Tryz.prog 195 := {}
instance : aq Tryz.prog 196 := {}
instance : aq Tryz.prog 197 := {}
instance : aq Tryz.prog 198 := {}
instance : aq Tryz.prog 199 := {}
instance : aq Tryz.prog 200 := {}
instance : aq Tryz.prog 201 := {}
instance : aq Tryz.prog 202 := {}
instance : aq Tryz.prog 203 := {}
instance : aq Tryz.prog 204 := {}
instance : aq Tryz.prog 205 := {}
instance : aq Tryz.prog 206 := {}
instance : aq Tryz.prog 207 := {}
instance : aq Tryz.prog 208 := {}
instance : aq Tryz.prog 209 := {}
instance : aq Tryz.prog 210 := {}
instance : aq Tryz.prog 211 := {}
instance : aq Tryz.prog 212 := {}
instance : aq Tryz.prog 213 := {}
instance : aq Tryz.prog 214 := {}
instance : aq Tryz.prog 215 := {}
instance : aq Tryz.prog 216 := {}
instance : aq Tryz.prog 217 := {}
instance : aq Tryz.prog 218 := {}
instance : aq Tryz.prog 219 := {}
instance : aq Tryz.prog 220 := {}
instance : aq Tryz.prog 221 := {}
instance : aq Tryz.prog 222 := {}
instance : aq Tryz.prog 223 := {}
instance : aq Tryz.prog 224 := {}
instance : aq Tryz.prog 225 := {}
instance : aq Tryz.prog 226 := {}
instance : aq Tryz.prog 227 := {}
instance : aq Tryz.prog 228 := {}
instance : aq Tryz.prog 229 := {}
instance : aq Tryz.prog 230 := {}
instance : aq Tryz.prog 231 := {}
instance : aq Tryz.prog 232 := {}
instance : aq Tryz.prog 233 := {}
instance : aq Tryz.prog 234 := {}
instance : aq Tryz.prog 235 := {}
instance : aq Tryz.prog 236 := {}
instance : aq Tryz.prog 237 := {}
instance : aq Tryz.prog 238 := {}
instance : aq Tryz.prog 239 := {}
instance : aq Tryz.prog 240 := {}
instance : aq Tryz.prog 241 := {}
instance : aq Tryz.prog 242 := {}
instance : aq Tryz.prog 243 := {}
instance : aq Tryz.prog 244 := {}
instance : aq Tryz.prog 245 := {}
instance : aq Tryz.prog 246 := {}
instance : aq Tryz.prog 247 := {}
instance : aq Tryz.prog 248 := {}
instance : aq Tryz.prog 249 := {}
instance : aq Tryz.prog 250 := {}
instance : aq Tryz.prog 251 := {}
instance : aq Tryz.prog 252 := {}
instance : aq Tryz.prog 253 := {}
instance : aq Tryz.prog 254 := {}
instance : aq Tryz.prog 255 := {}
instance : aq Tryz.prog 256 := {}
instance : aq Tryz.prog 257 := {}
instance : aq Tryz.prog 258 := {}
instance : aq Tryz.prog 259 := {}
instance : aq Tryz.prog 260 := {}
instance : aq Tryz.prog 263 := {}
instance : aq Tryz.prog 264 := {}
instance : aq Tryz.prog 265 := {}
instance : aq Tryz.prog 266 := {}
instance : aq Tryz.prog 267 := {}
instance : aq Tryz.prog 268 := {}
instance : aq Tryz.prog 269 := {}
instance : aq Tryz.prog 270 := {}
instance : aq Tryz.prog 271 := {}
instance : aq Tryz.prog 273 := {}
instance : aq Tryz.prog 274 := {}
instance : aq Tryz.prog 275 := {}
instance : aq Tryz.prog 276 := {}
instance : aq Tryz.prog 277 := {}
instance : aq Tryz.prog 278 := {}
end Go.Proofs.YteeckcbbnegmcaaGreatDoor
/- The rules of Steps once more, short to write: what they can find by themselves they look for. Plain lemmas, no program in sight. -/
namespace Go.Proofs.YteeckcbbnegmcaaGreatDoor
open Go.RowKit
section
variable {ro : Mode} {P : Program} {N d : Nat} {ops : Array Oper} {Q : Kq} {ρ : Rf} {w w0 : World} {rest : List Oper} {H : List HE} {ty : TypeId} {pos : String} {af : Array Edge} {x y : Operand} {t u : TypeId}
theorem mI {k : IntKind} {a : Int} (kk : WL ro P N ops Q rest (cx ρ d (.int k a)) w) (hx : ev ρ x = .int k a := by exact bK rfl) (hN : d < N := by decide) : WL ro P N ops Q (⟨some d, .move x, ty, pos, af, none⟩ :: rest) ρ w := fy hx hN kk
theorem aI {k : IntKind} {a : Int} (kk : WL ro P N ops Q rest (cx ρ d (.int k a)) w) (hx : ev ρ x = .int k a := by exact bK rfl) (hN : d < N := by decide) : WL ro P N ops Q (⟨some d, .assign x, ty, pos, af, none⟩ :: rest) ρ w := lU hx hN kk
theorem mB {a : Bool} (kk : WL ro P N ops Q rest (cx ρ d (.bool a)) w) (hx : ev ρ x = .bool a := by exact nN rfl) (hN : d < N := by decide) : WL ro P N ops Q (⟨some d, .move x, ty, pos, af, none⟩ :: rest) ρ w := fy hx hN kk
theorem aB {a : Bool} (kk : WL ro P N ops Q rest (cx ρ d (.bool a)) w) (hx : ev ρ x = .bool a := by exact nN rfl) (hN : d < N := by decide) : WL ro P N ops Q (⟨some d, .assign x, ty, pos, af, none⟩ :: rest) ρ w := lU hx hN kk
theorem mS {a : ByteArray} (kk : WL ro P N ops Q rest (cx ρ d (.string a)) w) (hx : ev ρ x = .string a := by exact xz rfl) (hN : d < N := by decide) : WL ro P N ops Q (⟨some d, .move x, ty, pos, af, none⟩ :: rest) ρ w := fy hx hN kk
theorem aS {a : ByteArray} (kk : WL ro P N ops Q rest (cx ρ d (.string a)) w) (hx : ev ρ x = .string a := by exact xz rfl) (hN : d < N := by decide) : WL ro P N ops Q (⟨some d, .assign x, ty, pos, af, none⟩ :: rest) ρ w := lU hx hN kk
theorem mL {A : Option Addr} {n c : Nat} (kk : WL ro P N ops Q rest (cx ρ d (.slice A n c)) w) (hx : ev ρ x = .slice A n c := by exact A0 rfl) (hN : d < N := by decide) : WL ro P N ops Q (⟨some d, .move x, ty, pos, af, none⟩ :: rest) ρ w := fy hx hN kk
theorem aL {A : Option Addr} {n c : Nat} (kk : WL ro P N ops Q rest (cx ρ d (.slice A n c)) w) (hx : ev ρ x = .slice A n c := by exact A0 rfl) (hN : d < N := by decide) : WL ro P N ops Q (⟨some d, .assign x, ty, pos, af, none⟩ :: rest) ρ w := lU hx hN kk
theorem mT {l : List Value} (kk : WL ro P N ops Q rest (cx ρ d (.tuple l.toArray)) w) (hx : ev ρ x = .tuple l.toArray := by exact Bp rfl) (hN : d < N := by decide) : WL ro P N ops Q (⟨some d, .move x, ty, pos, af, none⟩ :: rest) ρ w := fy hx hN kk
theorem mP {a : Option Addr} (kk : WL ro P N ops Q rest (cx ρ d (.pointer a)) w) (hx : ev ρ x = .pointer a := by exact rfl) (hN : d < N := by decide) : WL ro P N ops Q (⟨some d, .move x, ty, pos, af, none⟩ :: rest) ρ w := fy hx hN kk
theorem a3 {k : IntKind} {a b : Int} {r : Bool} (kk : WL ro P N ops Q rest (cx ρ d (.bool r)) w) (hx : ev ρ x = .int k a := by exact rfl) (hy : ev ρ y = .int k b := by exact rfl) (hr : decide (a < b) = r := by first | exact decide_eq_true Dq | exact decide_eq_false Dq | exact rfl) (hN : d < N := by decide) : WL ro P N ops Q (⟨some d, .binOp .lss t x y u, ty, pos, af, none⟩ :: rest) ρ w := zz hx hy hN (by rw [hr]; exact kk)
theorem uN {k : IntKind} {a b : Int} {r : Bool} (kk : WL ro P N ops Q rest (cx ρ d (.bool r)) w) (hx : ev ρ x = .int k a := by exact rfl) (hy : ev ρ y = .int k b := by exact rfl) (hr : decide (a ≤ b) = r := by first | exact decide_eq_true Dq | exact decide_eq_false Dq | exact rfl) (hN : d < N := by decide) : WL ro P N ops Q (⟨some d, .binOp .leq t x y u, ty, pos, af, none⟩ :: rest) ρ w := zU hx hy hN (by rw [hr]; exact kk)
theorem ct {k : IntKind} {a b : Int} {r : Bool} (kk : WL ro P N ops Q rest (cx ρ d (.bool r)) w) (hx : ev ρ x = .int k a := by exact rfl) (hy : ev ρ y = .int k b := by exact rfl) (hr : decide (b < a) = r := by first | exact decide_eq_true Dq | exact decide_eq_false Dq | exact rfl) (hN : d < N := by decide) : WL ro P N ops Q (⟨some d, .binOp .gtr t x y u, ty, pos, af, none⟩ :: rest) ρ w := zR hx hy hN (by rw [hr]; exact kk)
theorem dE {k : IntKind} {a b : Int} {r : Bool} (kk : WL ro P N ops Q rest (cx ρ d (.bool r)) w) (hx : ev ρ x = .int k a := by exact rfl) (hy : ev ρ y = .int k b := by exact rfl) (hr : decide (b ≤ a) = r := by first | exact decide_eq_true Dq | exact decide_eq_false Dq | exact rfl) (hN : d < N := by decide) : WL ro P N ops Q (⟨some d, .binOp .geq t x y u, ty, pos, af, none⟩ :: rest) ρ w := zK hx hy hN (by rw [hr]; exact kk)
theorem cu {k : IntKind} {a b : Int} {r : Bool} (kk : WL ro P N ops Q rest (cx ρ d (.bool r)) w) (hx : ev ρ x = .int k a := by exact rfl) (hy : ev ρ y = .int k b := by exact rfl) (hr : decide (a = b) = r := by first | exact decide_eq_true Dq | exact decide_eq_false Dq | exact rfl) (hN : d < N := by decide) : WL ro P N ops Q (⟨some d, .binOp .eql t x y u, ty, pos, af, none⟩ :: rest) ρ w := vA hx hy hN (by rw [hr]; exact kk)
theorem cz {k : IntKind} {a b : Int} {r : Bool} (kk : WL ro P N ops Q rest (cx ρ d (.bool r)) w) (hx : ev ρ x = .int k a := by exact rfl) (hy : ev ρ y = .int k b := by exact rfl) (hr : decide (a ≠ b) = r := by first | exact decide_eq_true Dq | exact decide_eq_false Dq | exact rfl) (hN : d < N := by decide) : WL ro P N ops Q (⟨some d, .binOp .neq t x y u, ty, pos, af, none⟩ :: rest) ρ w := z6 hx hy hN (by rw [hr]; exact kk)
theorem bO {a b : Int} (kk : WL ro P N ops Q rest (cx ρ d (.int .i64 (a + b))) w) (hx : ev ρ x = .int .i64 a := by exact rfl) (hy : ev ρ y = .int .i64 b := by exact rfl) (h1 : -9223372036854775808 ≤ a + b := by omega) (h2 : a + b ≤ 9223372036854775807 := by omega) (hN : d < N := by decide) : WL ro P N ops Q (⟨some d, .binOp .add t x y u, ty, pos, af, none⟩ :: rest) ρ w := BS hx hy h1 h2 hN kk
theorem ek {a b : Int} (kk : WL ro P N ops Q rest (cx ρ d (.int .i64 (a - b))) w) (hx : ev ρ x = .int .i64 a := by exact rfl) (hy : ev ρ y = .int .i64 b := by exact rfl) (h1 : -9223372036854775808 ≤ a - b := by omega) (h2 : a - b ≤ 9223372036854775807 := by omega) (hN : d < N := by decide) : WL ro P N ops Q (⟨some d, .binOp .sub t x y u, ty, pos, af, none⟩ :: rest) ρ w := BT hx hy h1 h2 hN kk
theorem mulC {a b : Int} (kk : WL ro P N ops Q rest (cx ρ d (.int .i64 (a * b))) w) (hx : ev ρ x = .int .i64 a := by exact rfl) (hy : ev ρ y = .int .i64 b := by exact rfl) (h1 : -9223372036854775808 ≤ a * b := by omega) (h2 : a * b ≤ 9223372036854775807 := by omega) (hN : d < N := by decide) : WL ro P N ops Q (⟨some d, .binOp .mul t x y u, ty, pos, af, none⟩ :: rest) ρ w := Bz hx hy h1 h2 hN kk
theorem da {i : Nat} {vs : List Value} {v : Value} (kk : WL ro P N ops Q rest (cx ρ d (v)) w) (hx : ev ρ x = .tuple vs.toArray := by exact rfl) (hv : vs[i]? = some v := by exact rfl) (hN : d < N := by decide) : WL ro P N ops Q (⟨some d, .extract x i, ty, pos, af, none⟩ :: rest) ρ w := wT hx hv hN kk
theorem gd {b : Bool} (kk : WL ro P N ops Q rest (cx ρ d (.bool !b)) w) (hx : ev ρ x = .bool b := by exact rfl) (hN : d < N := by decide) : WL ro P N ops Q (⟨some d, .unOp .not t x, ty, pos, af, none⟩ :: rest) ρ w := Cm hx hN kk
theorem a4 {e : TypeId} {A : Option Addr} {n c : Nat} [ht : aF P t (.slice e)] (kk : WL ro P N ops Q rest (cx ρ d (.int .i64 n)) w) (hx : ev ρ x = .slice A n c := by exact rfl) (hN : d < N := by decide) : WL ro P N ops Q (⟨some d, .call ⟨.builtin .len, #[x], #[t]⟩, ty, pos, af, none⟩ :: rest) ρ w := xy ht.out hx hN kk
theorem bG {s : TypeId} {f b o off : Nat} {ft : TypeId} [hf : dJ P s f off ft] (kk : WL ro P N ops Q rest (cx ρ d (.pointer (some ⟨b, o + off, none⟩))) w) (hx : ev ρ x = .pointer (some ⟨b, o, none⟩) := by exact rfl) (hN : d < N := by decide) : WL ro P N ops Q (⟨some d, .fieldAddr s x f, ty, pos, af, none⟩ :: rest) ρ w := sc hf.out hx hN kk
theorem bI {b o n by' : Nat} {zc cs : List Value} {fz : Nat × Nat} {t' : TypeId} {v : Value} (hh : Hp w0 H w) (i : Nat) [ht : aC P t n false by' zc] (kk : WL ro P N ops Q rest (cx ρ d (v)) w) (hx : ev ρ x = .pointer (some ⟨b, o, none⟩) := by exact rfl) (hi : H[i]? = some (.blk b t' cs fz) := by exact rfl) (hv : cs[o]? = some v := by exact rfl) (hN : d < N := by decide) : WL ro P N ops Q (⟨some d, .load t x, ty, pos, af, none⟩ :: rest) ρ w := bp ht.out hx (hh.dK hi hv) hN kk
theorem cU {b o n by' : Nat} {zc cs : List Value} {fz : Nat × Nat} {t' : TypeId} (hh : Hp w0 H w) (i : Nat) (vs : List Value) [ht : aC P t n true by' zc] (kk : WL ro P N ops Q rest (cx ρ d (.agg vs.toArray)) w) (hx : ev ρ x = .pointer (some ⟨b, o, none⟩) := by exact rfl) (hi : H[i]? = some (.blk b t' cs fz) := by exact rfl) (hv : (cs.drop o).take n = vs := by exact rfl) (hl : vs.length = n := by exact rfl) (hN : d < N := by decide) : WL ro P N ops Q (⟨some d, .load t x, ty, pos, af, none⟩ :: rest) ρ w := bZ ht.out hx (hh.aw hi hv) hl hN kk
theorem cj {n by' : Nat} {ag : Bool} {zc : List Value} (hh : Hp w0 H w) [ht : aC P t n ag by' zc] (kk : ∀ b w', Hp w0 (.blk b t zc (0, 0) :: H) w' → WL ro P N ops Q rest (cx ρ d (.pointer (some ⟨b, 0, none⟩))) w') (hN : d < N := by decide) : WL ro P N ops Q (⟨some d, .alloc t, ty, pos, af, none⟩ :: rest) ρ w := yY hh ht.out hN kk
theorem dp {v : Value} (hh : Hp w0 H w) (cs : List Value) (kk : ∀ b w', Hp w0 (.blk b t cs (0, 0) :: H) w' → WL ro P N ops Q rest (cx ρ d (.pointer (some ⟨b, 0, none⟩))) w') (hx : ev ρ x = v := by exact rfl) (hc : v.cells = cs.toArray := by exact rfl) (hN : d < N := by decide) : WL ro P N ops Q (⟨some d, .box t x, ty, pos, af, none⟩ :: rest) ρ w := BN hh hx hc hN kk
theorem bD {t' : TypeId} {b o n by' : Nat} {ag : Bool} {zc cs : List Value} {fz : Nat × Nat} {v : Value} (hh : Hp w0 H w) (i : Nat) (vs : List Value) [ht : aC P t n ag by' zc] (kk : ∀ w', Hp w0 (H.set i (.blk b t' (cg cs o vs) fz)) w' → WL ro P N ops Q rest ρ w') (hx : ev ρ x = .pointer (some ⟨b, o, none⟩) := by exact rfl) (hi : H[i]? = some (.blk b t' cs fz) := by exact rfl) (hy : ev ρ y = v := by exact rfl) (hc : v.cells = vs.toArray := by exact rfl) (hl : vs.length = n := by exact rfl) (ho : o + n ≤ cs.length := by simp) (h1 : (vs.all Value.oneCell') = true := by exact rfl) : WL ro P N ops Q (⟨none, .store t x y, ty, pos, af, none⟩ :: rest) ρ w := oN hh hx hi hy hc ht.out hl ho h1 kk
theorem eX {n by' : Nat} {parts : Array (Nat × Operand)} {ps : List (Nat × Value)} {zc : List Value} {pl : List (Nat × Nat)} (cs : List Value) [hte : aC P t n true by' zc] [hpl : iY P t pl] (kk : WL ro P N ops Q rest (cx ρ d (.agg cs.toArray)) w) (hp : pI ρ parts.toList = ps := by exact rfl) (hf : iA (pl[·]?) zc ps = some cs := by exact rfl) (hN : d < N := by decide) : WL ro P N ops Q (⟨some d, .build t parts, ty, pos, af, none⟩ :: rest) ρ w := zq hte.out hpl.out hp hf hN kk
theorem cW {c a b : Operand} {v : Bool} (kk : WL ro P N ops Q rest (cx ρ d (.bool v)) w) (hc : ev ρ c = .bool true := by exact rfl) (hx : ev ρ a = .bool v := by exact nN rfl) (hN : d < N := by decide) : WL ro P N ops Q (⟨some d, .pick c a b, ty, pos, af, none⟩ :: rest) ρ w := yM hc hx hN kk
theorem cX {c a b : Operand} {v : Bool} (kk : WL ro P N ops Q rest (cx ρ d (.bool v)) w) (hc : ev ρ c = .bool false := by exact rfl) (hx : ev ρ b = .bool v := by exact nN rfl) (hN : d < N := by decide) : WL ro P N ops Q (⟨some d, .pick c a b, ty, pos, af, none⟩ :: rest) ρ w := yp hc hx hN kk
theorem gS {op : Op} {j dj : Nat} {b c : Bool} (kk : WL ro P N ops Q rest (cx ρ d undef) w) (hN : d < N := by decide) (hj : (ops[j]?).bind (·.dst) = some dj := by exact rfl) (hv : ρ dj = .bool c := by exact rfl) (hb : c ≠ b := by decide) : WL ro P N ops Q (⟨some d, op, ty, pos, af, some (j, b)⟩ :: rest) ρ w := cb hN hj hv hb kk
theorem gV {op : Op} {j dj : Nat} {b : Bool} (kk : WL ro P N ops Q rest (cx ρ d undef) w) (hN : d < N := by decide) (hj : (ops[j]?).bind (·.dst) = some dj := by exact rfl) (hb : nb (ρ dj) b = true := by exact rfl) : WL ro P N ops Q (⟨some d, op, ty, pos, af, some (j, b)⟩ :: rest) ρ w := fR hN hj hb kk
theorem gT {dd : Option Nat} {op : Op} {j dj : Nat} {b : Bool} (kk : WL ro P N ops Q (⟨dd, op, ty, pos, af, none⟩ :: rest) ρ w) (hj : (ops[j]?).bind (·.dst) = some dj := by exact rfl) (hv : ρ dj = .bool b := by exact rfl) : WL ro P N ops Q (⟨dd, op, ty, pos, af, some (j, b)⟩ :: rest) ρ w := br hj hv kk
theorem bB {f : FuncId} {args : Array Operand} {ts : Array TypeId} {vs : List Value} {v : Value} (hh : Hp w0 H w) (hc : Calls P f vs.toArray w fun e w' => e = .returned v ∧ Below w.heap.size w w') [hf : aq P f] (ha : pL ρ args.toList = vs) (kk : ∀ w', Hp w0 H w' → WL ro P N ops Q rest (cx ρ d v) w') (hN : d < N := by decide) : WL ro P N ops Q (⟨some d, .call ⟨.value (.func f), args, ts⟩, ty, pos, af, none⟩ :: rest) ρ w := aK hc hf.out ha hN fun _ _ hq => ⟨_, hq.1, kk _ (hh.ext hq.2)⟩
theorem sr {id : Nat} {y : Code} {l : List Oper} (h : WL ro P N l.toArray (dQ (fun ρ w => WC ro P N y Q ρ w) Q) l ρ w) : WC ro P N (.seq (.region id l.toArray false) y) Q ρ w := ah (ar h)
theorem cT {c : Operand} {x y : Code} (h : WC ro P N x Q ρ w) (hc : ev ρ c = .bool true := by exact rfl) : WC ro P N (.cond c x y) Q ρ w := wX hc h
theorem cF {c : Operand} {x y : Code} (h : WC ro P N y Q ρ w) (hc : ev ρ c = .bool false := by exact rfl) : WC ro P N (.cond c x y) Q ρ w := wh hc h
theorem cA {P : Program} {fn : Func} {R : Ending → World → Prop} {ρ : Rf} {w : World} {e : Exit} {t0 : Tmp} {v0 : Value} (h : R (.returned v0) w) (hr : fn.results = #[.tmp t0] := by exact rfl) (h0 : ρ t0 = v0 := by first | exact cO rfl | exact fw rfl | exact qD rfl | exact xj rfl | exact v_agg rfl | exact rfl) (he : e = .normal ∨ e = .ret := by first | exact .inr rfl | exact .inl rfl) : kj P fn R e ρ w := CG he hr h0 h
theorem vW {P : Program} {fn : Func} {R : Ending → World → Prop} {ρ : Rf} {w : World} {e : Exit} {t0 t1 : Tmp} {v0 v1 : Value} (h : R (.returned (.tuple #[v0, v1])) w) (hr : fn.results = #[.tmp t0, .tmp t1] := by exact rfl) (h0 : ρ t0 = v0 := by first | exact cO rfl | exact fw rfl | exact qD rfl | exact xj rfl | exact v_agg rfl | exact rfl) (h1 : ρ t1 = v1 := by first | exact cO rfl | exact fw rfl | exact qD rfl | exact xj rfl | exact v_agg rfl | exact rfl) (he : e = .normal ∨ e = .ret := by first | exact .inr rfl | exact .inl rfl) : kj P fn R e ρ w := CE he hr h0 h1 h
theorem Df {P : Program} {fn : Func} {R : Ending → World → Prop} {ρ : Rf} {w : World} {e : Exit} {t0 t1 t2 : Tmp} {v0 v1 v2 : Value} (h : R (.returned (.tuple #[v0, v1, v2])) w) (hr : fn.results = #[.tmp t0, .tmp t1, .tmp t2] := by exact rfl) (h0 : ρ t0 = v0 := by first | exact cO rfl | exact fw rfl | exact qD rfl | exact xj rfl | exact v_agg rfl | exact rfl) (h1 : ρ t1 = v1 := by first | exact cO rfl | exact fw rfl | exact qD rfl | exact xj rfl | exact v_agg rfl | exact rfl) (h2 : ρ t2 = v2 := by first | exact cO rfl | exact fw rfl | exact qD rfl | exact xj rfl | exact v_agg rfl | exact rfl) (he : e = .normal ∨ e = .ret := by first | exact .inr rfl | exact .inl rfl) : kj P fn R e ρ w := CM he hr h0 h1 h2 h
theorem ik {P : Program} {fn : Func} {R : Ending → World → Prop} {ρ : Rf} {w : World} {e : Exit} {r0 : ResultVar} {v0 : Value} (h1 : fU P ρ w [r0] [v0]) (h : R (.returned v0) w) (hr : fn.results = #[r0] := by exact rfl) (he : e = .normal ∨ e = .ret := by first | exact .inr rfl | exact .inl rfl) : kj P fn R e ρ w := Cl he hr h1 h
theorem j0 {P : Program} {fn : Func} {R : Ending → World → Prop} {ρ : Rf} {w : World} {e : Exit} {r0 r1 : ResultVar} {v0 v1 : Value} (h1 : fU P ρ w [r0, r1] [v0, v1]) (h : R (.returned (.tuple #[v0, v1])) w) (hr : fn.results = #[r0, r1] := by exact rfl) (he : e = .normal ∨ e = .ret := by first | exact .inr rfl | exact .inl rfl) : kj P fn R e ρ w := Ci he hr h1 h
theorem y8 {P : Program} {fn : Func} {R : Ending → World → Prop} {ρ : Rf} {w : World} {e : Exit} {r0 r1 r2 : ResultVar} {v0 v1 v2 : Value} (h1 : fU P ρ w [r0, r1, r2] [v0, v1, v2]) (h : R (.returned (.tuple #[v0, v1, v2])) w) (hr : fn.results = #[r0, r1, r2] := by exact rfl) (he : e = .normal ∨ e = .ret := by first | exact .inr rfl | exact .inl rfl) : kj P fn R e ρ w := Cg he hr h1 h
end
class TS (P : Program) (t : TypeId) (n : outParam Nat) : Prop where out : (P.info? t).map (·.size) = some n
instance {P : Program} {t n b : Nat} {ag : Bool} {zc : List Value} [aC P t n ag b zc] : TS P t n := ⟨aC.size⟩
end Go.Proofs.YteeckcbbnegmcaaGreatDoor
