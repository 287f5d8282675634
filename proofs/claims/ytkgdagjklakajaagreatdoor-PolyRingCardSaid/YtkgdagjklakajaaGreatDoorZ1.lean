/- Lemmas for polyRing, part 1. -/
import Derived.Test.YtkgdagjklakajaaGreatDoorRows
import Derived.WalkKit
import Derived.ProofKit
import Derived.OpenShut
import Derived.Carry
import Derived.WalkLawsBesides
import Derived.Below
import Derived.Laws.OwnMore
import Derived.Laws.Rows
import Derived.RegionTactic
import Derived.ControlIn
import Derived.TacticsIn
import Derived.AtR
import Derived.Deep.AppendLies
import Derived.Maps.AppendAt
import Derived.OwnWalk
import Derived.Test.YtkgdagjklakajaaGreatDoorProg
import Derived.KernelRfl
/- From a walk to a law's row: the arguments read behind the call as they did before. Plain lemmas. -/
namespace Go.Proofs.YtkgdagjklakajaaGreatDoor
open Go.ChangeShapes Go.WideShapes Go.ChangeAt Go.RowKit
section
variable {H : Type} {enc : TypeId × Value → H} {P : Program}
theorem jX (hl : laidOutB P = true) {W W' : World} (hb : Below W.heap.size W W') (sp : Nat → Bool) : ∀ (ts : List TypeId) (vs : List Value) (ds : List (DataW H)) (ps : List MemPlace), (∀ t ∈ ts, P.readableRec t = true ∧ t < P.types.size) →
  (∀ x ∈ ps, x.block < W.heap.size) → (∀ x ∈ ps, sp x.block = true) → DataW.TrodAll enc P W 0 (fun _ => true) true ts vs ds ps → DataW.TrodAll enc P W' 0 sp true ts vs ds ps
 | [], vs, ds, ps, _, _, _, h => by
  obtain ⟨rfl, rfl, rfl⟩ := trodAll_nil h
  exact trodAll_mk0
 | t :: ts, vs, ds, ps, hr, hlt, hsp, h => by
  obtain ⟨v, vs', d, ds', p, q, rfl, rfl, rfl, h0, r0⟩ := trodAll_cons h
  refine trodAll_cons_mk (WideElems.Trod_stays hl (hr t List.mem_cons_self).1 (hr t List.mem_cons_self).2 h0 (fun x hx => hb.same (hlt x (List.mem_append_left _ hx))) (fun x hx => hsp x (List.mem_append_left _ hx)))
   (jX hl hb sp ts vs' ds' q (fun t ht => hr t (List.mem_cons_of_mem _ ht)) (fun x hx => hlt x (List.mem_append_right _ hx)) (fun x hx => hsp x (List.mem_append_right _ hx)) r0)
theorem xh {f : Func} {s : ChangeSpec} {W W' : World} {args : Array Value} {ds : List (DataW H)} {before : List MemPlace} {tb : TypeId}
  (hW : DataW.Whole enc P f.params.toList s.vars false W args.toList ds [] before) (hv : s.vars = []) (hl : laidOutB P = true) (hr : ∀ t ∈ f.params.toList, P.readableRec t = true ∧ t < P.types.size)
  (hres : f.resultTypes = #[tb]) (hbool : P.underlying tb = some .bool) (hs1 : (s.fn H (ds ++ [])).results = [.lit (.bool true)]) (hs2 : (s.fn H (ds ++ [])).args = ds) (hs3 : (s.fn H (ds ++ [])).vars = []) (hb : Below W.heap.size W W') :
  s.post enc P f false true false false W args (.bool true) W' := by
 have hlt : ∀ p ∈ before, p.block < W.heap.size := fun p hp => by simpa using hW.lt p hp
 have hold : ∀ p ∈ before, (fun b => decide (b < W.heap.size)) p.block = true := fun p hp => by simpa using hlt p hp
 have hW0 := hW
 obtain ⟨pa, pv, hA, hV, hps, hz, hn⟩ := hW0
 rw [hv] at hV
 obtain ⟨_, rfl⟩ := trodVars_none hV
 have hbp : before = pa := by rw [hps, List.append_nil]
 subst hbp
 have hA' : ∀ sp : Nat → Bool, (∀ p ∈ before, sp p.block = true) → DataW.TrodAll enc P W' 0 sp true f.params.toList args.toList (s.fn H (ds ++ [])).args before := fun sp hsp => by
  rw [hs2]
  exact jX hl hb sp _ _ _ _ hr hlt hsp hA
 have hV' : ∀ sp : Nat → Bool, DataW.TrodVars enc P W' sp s.vars (s.fn H (ds ++ [])).vars [] := fun sp => by
  rw [hv, hs3]; rfl
 have hR : ∀ (b : Nat) (sp : Nat → Bool) (hd : Bool), DataW.TrodAll enc P W' b sp hd f.resultTypes.toList ((Value.bool true).resultList f.resultTypes.size) (s.fn H (ds ++ [])).results [] := fun b sp hd => by
  rw [hres, hs1]
  exact trodAll_cons_mk (shut_bool hbool _) trodAll_mk0
 refine ⟨ds, [], before, [], before, [], hW, hR _ _ _, hA' _ hold, hV' _, World.keptBut_mono (fun p hp => ⟨hp, ?_⟩) (hb.frame (· ∈ before)), fun _ => ?_⟩
 ·exact .inr (.inl hp)
 ·refine ⟨ok_one hres rfl (okWide_bool_mk hbool _), _, _, ([] ++ before) ++ [], ⟨[] ++ before, [], trodAll_append (hA' _ (fun _ _ => rfl)) (hR _ _ _), hV' _, rfl, ?_, ?_⟩, ?_⟩
  ·intro b off hp
   have hp2 := hz b off (by simpa using hp)
   rw [hb.frozen (hlt _ (by simpa using hp))]
   exact hp2
  ·intro ha
   cases ha
  ·intro p hp _
   simpa using hp
end
end Go.Proofs.YtkgdagjklakajaaGreatDoor
/- Several texts in one: Vc, Ops, Mem, Mem2, Mem3, OpsU, Steps. -/
namespace Go.Proofs.YtkgdagjklakajaaGreatDoor
open Go.RowKit
abbrev Rf := Nat → Value
def cv (ρ : Rf) (d : Nat) (v : Value) : Rf := fun i => bif Nat.beq i d then v else ρ i
def ev (ρ : Rf) : Operand → Value
 | .tmp t => ρ t
 | .const v => v
 | .global g => .pointer (some ⟨g, 0, none⟩)
 | .func f => .func (.func f) #[] #[]
structure e9 (N : Nat) (D : List Deferred) (a : Act) (ρ : Rf) : Prop where
 nd : a.defers = D
 sz : a.tmps.size = N
 at_ : ∀ i, a.tmps.getD i undef = ρ i
abbrev Fits (N : Nat) (a : Act) (ρ : Rf) : Prop := e9 N [] a ρ
theorem e9.eval {N : Nat} {D : List Deferred} {a : Act} {ρ : Rf} (h : e9 N D a ρ) : a.eval = ev ρ := by
 funext x
 cases x with
 | tmp t => exact h.at_ t
 | _ => rfl
theorem nT (ρ : Rf) (d : Nat) (v : Value) : cv ρ d v d = v := by simp [cv]
theorem ir (ρ : Rf) {d i : Nat} (h : i ≠ d) (v : Value) : cv ρ d v i = ρ i := by
 have hb : Nat.beq i d = false := by
  cases hb : Nat.beq i d
  ·rfl
  ·exact absurd (Nat.eq_of_beq_eq_true hb) h
 simp only [cv, hb, cond_false]
theorem e9.put {N : Nat} {D : List Deferred} {a : Act} {ρ : Rf} (h : e9 N D a ρ) {d : Nat} (hd : d < N) (v : Value) : e9 N D (a.put (some d) v) (cv ρ d v) := by
 refine ⟨h.nd, by simp [Act.put, h.sz], fun i => ?_⟩
 by_cases hi : i = d
 ·subst hi
  rw [nT]
  simp [Act.put, h.sz, hd]
 ·rw [ir ρ hi, ← h.at_ i]
  have : d ≠ i := fun e => hi e.symm
  simp [Act.put, Array.getElem?_setIfInBounds_ne this]
abbrev Kq := Exit → Rf → World → Prop
def eD (N : Nat) (D : List Deferred) (Q : Kq) : Exit → Act → World → Prop := fun e a w => ∃ ρ, e9 N D a ρ ∧ Q e ρ w
abbrev lift (N : Nat) (Q : Kq) : Exit → Act → World → Prop := eD N [] Q
structure Mode where
 round : Option Nat := none
 D : List Deferred := []
 any : Bool := false
abbrev Mode.plain : Mode := {}
def FW (ro : Option Nat) : Fence := { Fence.wide with round := ro }
structure WC (ro : Mode) (P : Program) (N : Nat) (c : Code) (Q : Kq) (ρ : Rf) (w : World) : Prop where
 iZ : ro.any = false → ∀ a, e9 N ro.D a ρ → c.wp P (eD N ro.D Q) a w
 jV : ∀ a, e9 N ro.D a ρ → ∀ n, c.wpIn (FW ro.round) n P (eD N ro.D Q) a w
structure WL (ro : Mode) (P : Program) (N : Nat) (ops : Array Oper) (Q : Kq) (l : List Oper) (ρ : Rf) (w : World) : Prop where
 iZ : ro.any = false → ∀ a, e9 N ro.D a ρ → wpList P ops (eD N ro.D Q) l a w
 jV : ∀ a, e9 N ro.D a ρ → ∀ n, wpListIn (FW ro.round) n P ops (eD N ro.D Q) l a w
def eF (next : Rf → World → Prop) (Q : Kq) : Kq
 | .normal, ρ, w => next ρ w
 | e, ρ, w => Q e ρ w
def qa (id : Nat) (Q : Kq) : Kq
 | .exit id', ρ, w => if id' = id then Q .normal ρ w else Q (.exit id') ρ w
 | e, ρ, w => Q e ρ w
section code
variable {ro : Mode} {P : Program} {N : Nat} {Q : Kq} {ρ : Rf} {w : World}
theorem WC.kx {D : List Deferred} {c : Code} (h : ∀ a, e9 N D a ρ → c.wp P (eD N D Q) a w) : WC ⟨none, D, false⟩ P N c Q ρ w := ⟨fun _ => h, fun a hf _ => wpIn_wide.2 (h a hf)⟩
theorem WC.out {D : List Deferred} {c : Code} (h : WC ⟨none, D, false⟩ P N c Q ρ w) : ∀ a, e9 N D a ρ → c.wp P (eD N D Q) a w := h.iZ rfl
theorem WL.out {D : List Deferred} {ops : Array Oper} {l : List Oper} (h : WL ⟨none, D, false⟩ P N ops Q l ρ w) : ∀ a, e9 N D a ρ → wpList P ops (eD N D Q) l a w := h.iZ rfl
theorem oQ {D : List Deferred} {Q Q' : Kq} (h : ∀ e ρ w, Q e ρ w → Q' e ρ w) (e : Exit) (a : Act) (w : World) : eD N D Q e a w → eD N D Q' e a w :=
 fun ⟨ρ, hf, hq⟩ => ⟨ρ, hf, h _ _ _ hq⟩
theorem WC.mono {c : Code} {Q' : Kq} (h : WC ro P N c Q ρ w) (hq : ∀ e ρ w, Q e ρ w → Q' e ρ w) : WC ro P N c Q' ρ w :=
 ⟨fun hm a hf => wp_mono (h.iZ hm a hf) (oQ hq), fun a hf n => wpIn_mono (h.jV a hf n) (oQ hq)⟩
theorem ai {x y : Code} (h : WC ro P N x (eF (fun ρ w => WC ro P N y Q ρ w) Q) ρ w) : WC ro P N (.seq x y) Q ρ w :=
 ⟨fun hm a hf => wp_seq (wp_mono (h.iZ hm a hf) fun e a' w' ⟨ρ', hf', hq⟩ => by
  cases e with
  | normal => exact hq.iZ hm a' hf'
  | _ => exact ⟨ρ', hf', hq⟩),
 fun a hf n => wpIn_seq (wpIn_mono (h.jV a hf n) fun e a' w' ⟨ρ', hf', hq⟩ => by
  cases e with
  | normal => exact hq.jV a' hf' n
  | _ => exact ⟨ρ', hf', hq⟩)⟩
theorem al (h : Q .normal ρ w) : WC ro P N .skip Q ρ w := ⟨fun _ _ hf => wp_skip ⟨ρ, hf, h⟩, fun _ hf _ => wpIn_skip ⟨ρ, hf, h⟩⟩
theorem ao (h : Q .ret ρ w) : WC ro P N .ret Q ρ w := ⟨fun _ _ hf => wp_ret ⟨ρ, hf, h⟩, fun _ hf _ => wpIn_ret ⟨ρ, hf, h⟩⟩
theorem a4 {id : Nat} (h : Q (.exit id) ρ w) : WC ro P N (.exit id) Q ρ w := ⟨fun _ _ hf => wp_exit ⟨ρ, hf, h⟩, fun _ hf _ => wpIn_exit ⟨ρ, hf, h⟩⟩
theorem aq {id : Nat} {c : Code} (h : WC ro P N c (qa id Q) ρ w) : WC ro P N (.block id c) Q ρ w :=
 have key : ∀ (D : List Deferred) e a' w', eD N D (qa id Q) e a' w' → Exit.inBlock id (eD N D Q) e a' w' := fun D e a' w' ⟨ρ', hf', hq⟩ => by
  cases e with
  | exit id' =>
   by_cases hid : id' = id
   ·simp only [qa, hid, if_true] at hq
    simp only [Exit.inBlock, hid, if_true]
    exact ⟨ρ', hf', hq⟩
   ·simp only [qa, hid, if_false] at hq
    simp only [Exit.inBlock, hid, if_false]
    exact ⟨ρ', hf', hq⟩
  | _ => exact ⟨ρ', hf', hq⟩
 ⟨fun hm a hf => wp_block (wp_mono (h.iZ hm a hf) (key _)), fun a hf n => wpIn_block (wpIn_mono (h.jV a hf n) (key _))⟩
theorem uC {c : Operand} {x y : Code} (hc : ev ρ c = .bool true) (h : WC ro P N x Q ρ w) : WC ro P N (.cond c x y) Q ρ w :=
 ⟨fun hm a hf => wp_cond_true (by rw [hf.eval]; exact hc) (h.iZ hm a hf), fun a hf n => wpIn_cond_true (by rw [hf.eval]; exact hc) (h.jV a hf n)⟩
theorem uK {c : Operand} {x y : Code} (hc : ev ρ c = .bool false) (h : WC ro P N y Q ρ w) : WC ro P N (.cond c x y) Q ρ w :=
 ⟨fun hm a hf => wp_cond_false (by rw [hf.eval]; exact hc) (h.iZ hm a hf), fun a hf n => wpIn_cond_false (by rw [hf.eval]; exact hc) (h.jV a hf n)⟩
theorem au {id : Nat} {l : List Oper} (h : WL ro P N l.toArray Q l ρ w) : WC ro P N (.region id l.toArray false) Q ρ w :=
 ⟨fun hm a hf => wp_region_lit (h.iZ hm a hf), fun a hf n => wpIn_region_lit (h.jV a hf n)⟩
theorem aj {next : Rf → World → Prop} (h : next ρ w) : eF next Q .normal ρ w := h
theorem aM {next : Rf → World → Prop} (h : Q .ret ρ w) : eF next Q .ret ρ w := h
theorem aD {next : Rf → World → Prop} {id : Nat} (h : Q (.exit id) ρ w) : eF next Q (.exit id) ρ w := h
theorem a3 {id : Nat} (h : Q .normal ρ w) : qa id Q .normal ρ w := h
theorem bU {id : Nat} (h : Q .ret ρ w) : qa id Q .ret ρ w := h
theorem bp {id : Nat} (h : Q .normal ρ w) : qa id Q (.exit id) ρ w := by simpa [qa] using h
def mask (mods : List Nat) (ρ' ρ : Rf) : Rf := fun i => bif mods.contains i then ρ' i else ρ i
def iX (mods : List Nat) (ρ1 ρ : Rf) : Prop := ∀ i, mods.contains i = false → ρ1 i = ρ i
theorem aA (mods : List Nat) (ρ' ρ : Rf) : iX mods (mask mods ρ' ρ) ρ := fun i hi => by simp only [mask, hi, cond_false]
theorem aE {mods : List Nat} {ρ1 ρ : Rf} {d : Nat} {v : Value} (hd : mods.contains d = true) (h : iX mods ρ1 ρ) : iX mods (cv ρ1 d v) ρ := fun i hi => by
 rw [ir ρ1 (fun e => by rw [e, hd] at hi; cases hi)]
 exact h i hi
theorem ax {mods mods2 : List Nat} {ρ' ρ1 ρ : Rf} (hm : (mods2.all fun i => mods.contains i) = true) (h : iX mods ρ1 ρ) : iX mods (mask mods2 ρ' ρ1) ρ := fun i hi => by
 have h2 : mods2.contains i = false := by
  cases hc : mods2.contains i with
  | false => rfl
  | true =>
   have := List.all_eq_true.1 hm i (by simpa using hc)
   rw [this] at hi; cases hi
 simp only [mask, h2, cond_false]
 exact h i hi
theorem lE {mods : List Nat} {ρ1 ρ : Rf} (h : iX mods ρ1 ρ) : mask mods ρ1 ρ = ρ1 := by
 funext i
 simp only [mask]
 cases hc : mods.contains i with
 | true => rfl
 | false => simpa using (h i hc).symm
theorem iD (ρ : Rf) (d : Nat) : cv ρ d (ρ d) = ρ := by
 funext i
 by_cases h : i = d
 ·subst h; rw [nT]
 ·rw [ir ρ h]
theorem pR {c : Code} (I : Rf → World → Prop) (μ : Rf → World → Nat) (h0 : I ρ w)
  (round : ∀ ρ w, I ρ w → WC ro P N c (eF (fun ρ' w' => I ρ' w' ∧ μ ρ' w' < μ ρ w) Q) ρ w) : WC ro P N (.loop c) Q ρ w := by
 refine ⟨fun hm a hf => ?_, fun a hf n => ?_⟩
 ·refine wp_loop (fun a w => ∃ ρ, e9 N ro.D a ρ ∧ I ρ w) (fun a w => μ (fun i => a.tmps.getD i undef) w) ⟨ρ, hf, h0⟩ ?_
  rintro a w ⟨ρ, hf, hi⟩
  refine wp_mono ((round ρ w hi).iZ hm a hf) ?_
  rintro e a' w' ⟨ρ', hf', hq⟩
  have e1 : (fun i => a.tmps.getD i undef) = ρ := funext hf.at_
  have e2 : (fun i => a'.tmps.getD i undef) = ρ' := funext hf'.at_
  cases e with
  | normal => exact ⟨⟨ρ', hf', hq.1⟩, by rw [e1, e2]; exact hq.2⟩
  | _ => exact ⟨ρ', hf', hq⟩
 ·refine wpIn_loop (fun a w => ∃ ρ, e9 N ro.D a ρ ∧ I ρ w) (fun a w => μ (fun i => a.tmps.getD i undef) w) ⟨ρ, hf, h0⟩ ?_
  rintro a w ⟨ρ, hf, hi⟩
  refine wpIn_mono ((round ρ w hi).jV a hf n) ?_
  rintro e a' w' ⟨ρ', hf', hq⟩
  have e1 : (fun i => a.tmps.getD i undef) = ρ := funext hf.at_
  have e2 : (fun i => a'.tmps.getD i undef) = ρ' := funext hf'.at_
  cases e with
  | normal => exact ⟨⟨ρ', hf', hq.1⟩, by rw [e1, e2]; exact hq.2⟩
  | _ => exact ⟨ρ', hf', hq⟩
theorem bD {c : Code} (mods : List Nat) (s0 : Nat) (I : Value → World → Prop) (μ : Value → World → Nat) (h0 : I (ρ s0) w)
  (round : ∀ ρ' v0 w', I v0 w' → WC ro P N c (eF (fun ρ2 w2 => I (ρ2 s0) w2 ∧ μ (ρ2 s0) w2 < μ v0 w' ∧ iX mods ρ2 ρ) Q) (cv (mask mods ρ' ρ) s0 v0) w') : WC ro P N (.loop c) Q ρ w :=
 pR (fun ρ1 w1 => I (ρ1 s0) w1 ∧ iX mods ρ1 ρ) (fun ρ1 w1 => μ (ρ1 s0) w1) ⟨h0, fun _ _ => rfl⟩ fun ρ1 w1 ⟨hi, ha⟩ => by
  have h := round ρ1 (ρ1 s0) w1 hi
  rw [lE ha, iD] at h
  exact h.mono fun e ρ2 w2 hq => by
   cases e with
   | normal => exact ⟨⟨hq.1, hq.2.2⟩, hq.2.1⟩
   | _ => exact hq
theorem cY {c : Code} (mods : List Nat) (s0 s1 : Nat) (I : Value → Value → World → Prop) (μ : Value → Value → World → Nat) (h0 : I (ρ s0) (ρ s1) w)
  (round : ∀ ρ' v0 v1 w', I v0 v1 w' → WC ro P N c (eF (fun ρ2 w2 => I (ρ2 s0) (ρ2 s1) w2 ∧ μ (ρ2 s0) (ρ2 s1) w2 < μ v0 v1 w' ∧ iX mods ρ2 ρ) Q) (cv (cv (mask mods ρ' ρ) s0 v0) s1 v1) w') : WC ro P N (.loop c) Q ρ w :=
 pR (fun ρ1 w1 => I (ρ1 s0) (ρ1 s1) w1 ∧ iX mods ρ1 ρ) (fun ρ1 w1 => μ (ρ1 s0) (ρ1 s1) w1) ⟨h0, fun _ _ => rfl⟩ fun ρ1 w1 ⟨hi, ha⟩ => by
  have h := round ρ1 (ρ1 s0) (ρ1 s1) w1 hi
  rw [lE ha, iD, iD] at h
  exact h.mono fun e ρ2 w2 hq => by
   cases e with
   | normal => exact ⟨⟨hq.1, hq.2.2⟩, hq.2.1⟩
   | _ => exact hq
theorem wh {c : Code} (mods : List Nat) (s0 s1 s2 : Nat) (I : Value → Value → Value → World → Prop) (μ : Value → Value → Value → World → Nat) (h0 : I (ρ s0) (ρ s1) (ρ s2) w)
  (round : ∀ ρ' v0 v1 v2 w', I v0 v1 v2 w' → WC ro P N c (eF (fun ρ2 w2 => I (ρ2 s0) (ρ2 s1) (ρ2 s2) w2 ∧ μ (ρ2 s0) (ρ2 s1) (ρ2 s2) w2 < μ v0 v1 v2 w' ∧ iX mods ρ2 ρ) Q) (cv (cv (cv (mask mods ρ' ρ) s0 v0) s1 v1) s2 v2) w') : WC ro P N (.loop c) Q ρ w :=
 pR (fun ρ1 w1 => I (ρ1 s0) (ρ1 s1) (ρ1 s2) w1 ∧ iX mods ρ1 ρ) (fun ρ1 w1 => μ (ρ1 s0) (ρ1 s1) (ρ1 s2) w1) ⟨h0, fun _ _ => rfl⟩ fun ρ1 w1 ⟨hi, ha⟩ => by
  have h := round ρ1 (ρ1 s0) (ρ1 s1) (ρ1 s2) w1 hi
  rw [lE ha, iD, iD, iD] at h
  exact h.mono fun e ρ2 w2 hq => by
   cases e with
   | normal => exact ⟨⟨hq.1, hq.2.2⟩, hq.2.1⟩
   | _ => exact hq
end code
inductive wJ (P : Program) (ρ : Rf) (w : World) : ResultVar → Value → Prop
 | tmp (t : Tmp) {v : Value} (h : ρ t = v) : wJ P ρ w (.tmp t) v
 | cell (p : Tmp) (t : TypeId) {a : Addr} {v : Value} (hp : ρ p = .pointer (some a)) (h : (loadVar t a).run P w = .ok v w) : wJ P ρ w (.cell p t) v
def fM (P : Program) (ρ : Rf) (w : World) : List ResultVar → List Value → Prop
 | [], [] => True
 | r :: rs, v :: vs => wJ P ρ w r v ∧ fM P ρ w rs vs
 | _, _ => False
def rm : List Value → Value
 | [v] => v
 | vs => .tuple vs.toArray
def jW (P : Program) (fn : Func) (R : Ending → World → Prop) : Kq := fun e ρ w =>
 (e = .normal ∨ e = .ret) ∧ ∃ v, (∀ tmps : Array Value, (∀ i, tmps.getD i undef = ρ i) → (results fn tmps).run P w = .ok v w) ∧ R (.returned v) w
theorem tN {P : Program} {ρ : Rf} {w : World} {f : ResultVar → Sem Value} (h1 : ∀ t, (f (.tmp t)).run P w = .ok (ρ t) w)
  (h2 : ∀ p t a v, ρ p = .pointer (some a) → (loadVar t a).run P w = .ok v w → (f (.cell p t)).run P w = .ok v w) : ∀ (rs : List ResultVar) (vs : List Value), fM P ρ w rs vs →
  (rs.mapM f).run P w = .ok vs w
 | [], [], _ => by simp
 | [], _ :: _, h => h.elim
 | _ :: _, [], h => h.elim
 | r :: rs, v :: vs, h => by
  have ih := tN h1 h2 rs vs h.2
  obtain ⟨h3, _⟩ := h
  rw [List.mapM_cons]
  cases h3 with
  | tmp t hv => rw [Sem.run_bind, h1, Result.andThen_ok, Sem.run_bind, ih, Result.andThen_ok, Sem.run_pure, hv]
  | cell p t hp hl => rw [Sem.run_bind, h2 _ _ _ _ hp hl, Result.andThen_ok, Sem.run_bind, ih, Result.andThen_ok, Sem.run_pure]
theorem iT {P : Program} {fn : Func} {R : Ending → World → Prop} {ρ : Rf} {w : World} {rs : List ResultVar} {vs : List Value} {e : Exit} (he : e = .normal ∨ e = .ret) (hr : fn.results = rs.toArray)
  (hv : fM P ρ w rs vs) (h : R (.returned (rm vs)) w) : jW P fn R e ρ w := by
 refine ⟨he, rm vs, fun tmps ht => ?_, h⟩
 unfold results
 rw [hr, Sem.run_bind, List.mapM_toArray, Sem.run_map, tN (ρ := ρ) (fun t => by simp [ht]) (fun p t a v hp hl => by simp [ht, hp, asAddr, hl]) rs vs hv]
 simp only [Result.andThen_ok]
 match vs with
 | [] => simp [rm]
 | [v] => simp [rm]
 | _ :: _ :: _ => simp [rm]
theorem bg {P : Program} {ρ : Rf} {w : World} : fM P ρ w [] [] := trivial
theorem cB {P : Program} {ρ : Rf} {w : World} {t : Tmp} {v : Value} {rs : List ResultVar} {vs : List Value} (h : ρ t = v) (k : fM P ρ w rs vs) : fM P ρ w (.tmp t :: rs) (v :: vs) := ⟨.tmp t h, k⟩
theorem aU {P : Program} {ρ : Rf} {w : World} {p : Tmp} {t : TypeId} {a : Addr} {v : Value} {rs : List ResultVar} {vs : List Value} (hp : ρ p = .pointer (some a)) (h : (loadVar t a).run P w = .ok v w) (k : fM P ρ w rs vs) : fM P ρ w (.cell p t :: rs) (v :: vs) := ⟨.cell p t hp h, k⟩
theorem AD {P : Program} {fn : Func} {R : Ending → World → Prop} {ρ : Rf} {w : World} {t : Tmp} {e : Exit} {v : Value} (he : e = .normal ∨ e = .ret) (hr : fn.results = #[.tmp t]) (hv : ρ t = v) (h : R (.returned v) w) : jW P fn R e ρ w :=
 iT he hr (cB hv bg) h
theorem Av {P : Program} {fn : Func} {R : Ending → World → Prop} {ρ : Rf} {w : World} {t u : Tmp} {e : Exit} {v x : Value} (he : e = .normal ∨ e = .ret) (hr : fn.results = #[.tmp t, .tmp u]) (hv : ρ t = v) (hx : ρ u = x) (h : R (.returned (.tuple #[v, x])) w) : jW P fn R e ρ w :=
 iT he hr (cB hv (cB hx bg)) h
theorem Az {P : Program} {fn : Func} {R : Ending → World → Prop} {ρ : Rf} {w : World} {t u s : Tmp} {e : Exit} {v x y : Value} (he : e = .normal ∨ e = .ret) (hr : fn.results = #[.tmp t, .tmp u, .tmp s]) (hv : ρ t = v) (hx : ρ u = x) (hy : ρ s = y) (h : R (.returned (.tuple #[v, x, y])) w) : jW P fn R e ρ w :=
 iT he hr (cB hv (cB hx (cB hy bg))) h
theorem Al {P : Program} {fn : Func} {R : Ending → World → Prop} {ρ : Rf} {w : World} {e : Exit} (he : e = .normal ∨ e = .ret) (hr : fn.results = #[]) (h : R (.returned (.tuple #[])) w) : jW P fn R e ρ w :=
 iT he hr bg h
theorem Ab {P : Program} {fn : Func} {R : Ending → World → Prop} {ρ : Rf} {w : World} {r : ResultVar} {e : Exit} {v : Value} (he : e = .normal ∨ e = .ret) (hr : fn.results = #[r]) (h1 : fM P ρ w [r] [v]) (h : R (.returned v) w) : jW P fn R e ρ w :=
 iT he hr h1 h
theorem z4 {P : Program} {fn : Func} {R : Ending → World → Prop} {ρ : Rf} {w : World} {r s : ResultVar} {e : Exit} {v x : Value} (he : e = .normal ∨ e = .ret) (hr : fn.results = #[r, s]) (h1 : fM P ρ w [r, s] [v, x]) (h : R (.returned (.tuple #[v, x])) w) : jW P fn R e ρ w :=
 iT he hr h1 h
theorem zX {P : Program} {fn : Func} {R : Ending → World → Prop} {ρ : Rf} {w : World} {r s t : ResultVar} {e : Exit} {v x y : Value} (he : e = .normal ∨ e = .ret) (hr : fn.results = #[r, s, t]) (h1 : fM P ρ w [r, s, t] [v, x, y]) (h : R (.returned (.tuple #[v, x, y])) w) : jW P fn R e ρ w :=
 iT he hr h1 h
def yW (l : List Value) : Rf := fun i => l.getD i undef
theorem ak {P : Program} {f : FuncId} {fn : Func} {c : Code} {N : Nat} {l : List Value} {w : World} {R : Ending → World → Prop}
  (hf : P.funcs[f]? = some fn) (hb : fn.body = some c) (hn : fn.ntmps = N) (ha : l.length ≤ N)
  (h : WC .plain P N c (jW P fn R) (yW l) w) : Calls P f l.toArray w R := by
 refine calls_of_wp hf hb ?_
 refine wp_mono (h.out _ ⟨rfl, by simp [hn]; omega, fun i => ?_⟩) ?_
 ·simp only [yW]
  rcases Nat.lt_or_ge i l.length with hi | hi
  ·rw [Array.getD_eq_getD_getElem?, Array.getElem?_append_left (by simpa using hi)]
   simp [List.getD_eq_getElem?_getD]
  ·rw [Array.getD_eq_getD_getElem?, Array.getElem?_append_right (by simpa using hi)]
   simp only [List.getD_eq_getElem?_getD, List.getElem?_eq_none hi, Option.getD_none, Array.getElem?_replicate]
   split <;> rfl
 ·rintro e a w' ⟨ρ', hf', he, v, hr, hR⟩
  rcases he with rfl | rfl <;> exact ⟨hf'.nd, v, hr _ hf'.at_, hR⟩
end Go.Proofs.YtkgdagjklakajaaGreatDoor
namespace Go.Proofs.YtkgdagjklakajaaGreatDoor
open Go.RowKit
section
variable {ro : Mode} {P : Program} {N : Nat} {ops : Array Oper} {Q : Kq} {ρ : Rf} {w : World} {rest : List Oper}
theorem jE {f : Operand → Value} {o : Oper} {x : Next} {w' : World} (ro : Option Nat) (h : (execOp f o).run P w = .ok x w') (hx : ∀ d, x ≠ .defer d) : (o.semAt ro f).run P w = .ok x w' := by
 cases hop : o.op with
 | defer c =>
  exfalso
  unfold execOp at h
  rw [hop] at h
  simp only [Sem.run_bind] at h
  cases h2 : (resolve f c o.type).run P w with
  | ok v w2 =>
   rw [h2] at h
   simp at h
   exact hx _ h.1.symm
  | halt e w2 =>
   rw [h2] at h
   simp [Result.andThen] at h
 | _ => rw [Oper.semAt_eq _ _ _ (by rw [hop]; intro c hc; cases hc)]; exact h
theorem rl {r1 : Option Nat} {n : Nat} {f : FuncId} {args : Array Value} {R : Ending → World → Prop} (h : Calls P f args w R) : CallsIn (FW r1) n P f args w R := (callsIn_wide (n := n)).2 h
theorem aK (h : Q .normal ρ w) : WL ro P N ops Q [] ρ w := ⟨fun _ _ hf => wpList_nil ⟨ρ, hf, h⟩, fun _ hf _ => wpListIn_nil ⟨ρ, hf, h⟩⟩
theorem aa {next : Rf → World → Prop} {Q' : Kq} (h : next ρ w) : WL ro P N ops (eF next Q') [] ρ w := aK h
theorem aY {o : Oper} {d : Nat} {v : Value} {w' : World} (hg : o.guard = none) (hd : o.dst = some d) (hN : d < N)
  (hr : (execOp (ev ρ) o).run P w = .ok (.value v) w') (k : WL ro P N ops Q rest (cv ρ d v) w') : WL ro P N ops Q (o :: rest) ρ w :=
 ⟨fun hm a hf => wpList_plain hg fun K hK => by
  unfold Oper.wp
  rw [hf.eval, hr]
  show K (a.put o.dst v) w'
  rw [hd]
  exact hK _ _ (k.iZ hm _ (hf.put hN v)),
 fun a hf n => wpListIn_plain hg fun K hK => by
  refine ⟨fun _ _ => trivial, ?_⟩
  rw [hf.eval, jE _ hr (fun _ h => by cases h)]
  show K (a.put o.dst v) w'
  rw [hd]
  exact hK _ _ (k.jV _ (hf.put hN v) n)⟩
theorem tD {o : Oper} {w' : World} (hg : o.guard = none) (hd : o.dst = none)
  (hr : (execOp (ev ρ) o).run P w = .ok .skip w') (k : WL ro P N ops Q rest ρ w') : WL ro P N ops Q (o :: rest) ρ w :=
 ⟨fun hm a hf => wpList_plain hg fun K hK => by
  unfold Oper.wp
  rw [hf.eval, hr]
  show K (a.put o.dst undef) w'
  rw [hd]
  exact hK _ _ (k.iZ hm _ hf),
 fun a hf n => wpListIn_plain hg fun K hK => by
  refine ⟨fun _ _ => trivial, ?_⟩
  rw [hf.eval, jE _ hr (fun _ h => by cases h)]
  show K (a.put o.dst undef) w'
  rw [hd]
  exact hK _ _ (k.jV _ hf n)⟩
theorem qH {o : Oper} {d : Nat} {f : FuncId} {args : Array Value} {w1 : World} {R : Ending → World → Prop} (hg : o.guard = none) (hd : o.dst = some d) (hN : d < N)
  (hr : (execOp (ev ρ) o).run P w = .ok (.enter f args) w1) (hc : Calls P f args w1 R)
  (k : ∀ e w', R e w' → ∃ v, e = .returned v ∧ WL ro P N ops Q rest (cv ρ d v) w') : WL ro P N ops Q (o :: rest) ρ w :=
 ⟨fun hm a hf => wpList_plain hg fun K hK => by
  unfold Oper.wp
  rw [hf.eval, hr]
  show Calls P f args w1 _
  refine hc.mono fun e w' hR => ?_
  obtain ⟨v, rfl, hk⟩ := k e w' hR
  show K (a.put o.dst v) w'
  rw [hd]
  exact hK _ _ (hk.iZ hm _ (hf.put hN v)),
 fun a hf n => wpListIn_plain hg fun K hK => by
  refine ⟨fun _ _ => trivial, ?_⟩
  rw [hf.eval, jE _ hr (fun _ h => by cases h)]
  refine ⟨fun h => (by cases h), ?_⟩
  refine rl (hc.mono fun e w' hR => ?_)
  obtain ⟨v, rfl, hk⟩ := k e w' hR
  show K (a.put o.dst v) w'
  rw [hd]
  exact hK _ _ (hk.jV _ (hf.put hN v) n)⟩
theorem aX {d : Option Nat} {op : Op} {ty : TypeId} {pos : String} {af : Array Edge} {j dj : Nat} {b : Bool}
  (hj : (ops[j]?).bind (·.dst) = some dj) (hv : ρ dj = .bool b) (k : WL ro P N ops Q (⟨d, op, ty, pos, af, none⟩ :: rest) ρ w) :
  WL ro P N ops Q (⟨d, op, ty, pos, af, some (j, b)⟩ :: rest) ρ w :=
 have h0 : ∀ D a, e9 N D a ρ → Region.wanted ⟨d, op, ty, pos, af, some (j, b)⟩ (yielded ops a.tmps) = true := fun D a hf => by
  have h2 := hf.at_ dj
  rw [hv, Array.getD_eq_getD_getElem?] at h2
  cases h3 : a.tmps[dj]? with
  | none => rw [h3] at h2; cases h2
  | some x =>
   rw [h3] at h2
   simp only [Option.getD_some] at h2
   subst h2
   simp [Region.wanted, yielded, hj, h3]
 ⟨fun hm a hf => by
  have h2 := k.iZ hm a hf
  unfold wpList at h2 ⊢
  rw [if_pos (h0 _ a hf)]
  rw [if_pos (by simp [Region.wanted])] at h2
  exact h2,
 fun a hf n => by
  have h2 := k.jV a hf n
  unfold wpListIn at h2 ⊢
  rw [if_pos (h0 _ a hf)]
  rw [if_pos (by simp [Region.wanted])] at h2
  exact h2⟩
theorem bH {d : Nat} {op : Op} {ty : TypeId} {pos : String} {af : Array Edge} {j dj : Nat} {b c : Bool} (hN : d < N)
  (hj : (ops[j]?).bind (·.dst) = some dj) (hv : ρ dj = .bool c) (hb : c ≠ b) (k : WL ro P N ops Q rest (cv ρ d undef) w) :
  WL ro P N ops Q (⟨some d, op, ty, pos, af, some (j, b)⟩ :: rest) ρ w :=
 have h0 : ∀ D a, e9 N D a ρ → Region.wanted ⟨some d, op, ty, pos, af, some (j, b)⟩ (yielded ops a.tmps) = false := fun D a hf => by
  have h2 := hf.at_ dj
  rw [hv, Array.getD_eq_getD_getElem?] at h2
  cases h3 : a.tmps[dj]? with
  | none => rw [h3] at h2; cases h2
  | some x =>
   rw [h3] at h2
   simp only [Option.getD_some] at h2
   subst h2
   simp [Region.wanted, yielded, hj, h3, hb]
 ⟨fun hm a hf => by
  unfold wpList
  rw [h0 _ a hf]
  exact k.iZ hm _ (hf.put hN undef),
 fun a hf n => by
  unfold wpListIn
  rw [h0 _ a hf]
  exact ⟨fun _ _ => trivial, k.jV _ (hf.put hN undef) n⟩⟩
def nb (v : Value) (b : Bool) : Bool := match v with | .bool c => c != b | _ => true
theorem fF {d : Nat} {op : Op} {ty : TypeId} {pos : String} {af : Array Edge} {j dj : Nat} {b : Bool} (hN : d < N)
  (hj : (ops[j]?).bind (·.dst) = some dj) (hb : nb (ρ dj) b = true) (k : WL ro P N ops Q rest (cv ρ d undef) w) :
  WL ro P N ops Q (⟨some d, op, ty, pos, af, some (j, b)⟩ :: rest) ρ w := by
 cases hv : ρ dj with
 | bool c =>
  rw [hv] at hb
  exact bH hN hj hv (by simpa [nb] using hb) k
 | _ =>
  have h0 : ∀ D a, e9 N D a ρ → Region.wanted ⟨some d, op, ty, pos, af, some (j, b)⟩ (yielded ops a.tmps) = false := fun D a hf => by
   have h2 := hf.at_ dj
   rw [hv, Array.getD_eq_getD_getElem?] at h2
   cases h3 : a.tmps[dj]? with
   | none => simp [Region.wanted, yielded, hj, h3]
   | some x =>
    rw [h3] at h2
    simp only [Option.getD_some] at h2
    subst h2
    simp [Region.wanted, yielded, hj, h3]
  refine ⟨fun hm a hf => ?_, fun a hf n => ?_⟩
  ·unfold wpList
   rw [h0 _ a hf]
   exact k.iZ hm _ (hf.put hN undef)
  ·unfold wpListIn
   rw [h0 _ a hf]
   exact ⟨fun _ _ => trivial, k.jV _ (hf.put hN undef) n⟩
end
section
variable {P : Program} {ρ : Rf} {w : World} {d : Option Nat} {ty : TypeId} {pos : String} {af : Array Edge} {g : Option (Nat × Bool)}
theorem dt {x : Operand} {v : Value} (hx : ev ρ x = v) : (execOp (ev ρ) ⟨d, .move x, ty, pos, af, g⟩).run P w = .ok (.value v) w := by simp [execOp, hx]
theorem vF {x : Operand} {v : Value} (hx : ev ρ x = v) : (execOp (ev ρ) ⟨d, .assign x, ty, pos, af, g⟩).run P w = .ok (.value v) w := by simp [execOp, hx]
theorem rK {c a b : Operand} {v : Value} (hc : ev ρ c = .bool true) (hx : ev ρ a = v) : (execOp (ev ρ) ⟨d, .pick c a b, ty, pos, af, g⟩).run P w = .ok (.value v) w := by simp [execOp, asBool, hc, hx]
theorem qU {c a b : Operand} {v : Value} (hc : ev ρ c = .bool false) (hx : ev ρ b = v) : (execOp (ev ρ) ⟨d, .pick c a b, ty, pos, af, g⟩).run P w = .ok (.value v) w := by simp [execOp, asBool, hc, hx]
section ints
variable {t u : TypeId} {x y : Operand} {k : IntKind} {a b : Int}
theorem yP (hx : ev ρ x = .int k a) (hy : ev ρ y = .int k b) : (execOp (ev ρ) ⟨d, .binOp .add t x y u, ty, pos, af, g⟩).run P w = .ok (.value (.int k (k.wrap (a + b)))) w := by
 simp [execOp, hx, hy, eqGuard, binOp, Op.intArith]
theorem y6 (hx : ev ρ x = .int k a) (hy : ev ρ y = .int k b) : (execOp (ev ρ) ⟨d, .binOp .sub t x y u, ty, pos, af, g⟩).run P w = .ok (.value (.int k (k.wrap (a - b)))) w := by
 simp [execOp, hx, hy, eqGuard, binOp, Op.intArith]
theorem yU (hx : ev ρ x = .int k a) (hy : ev ρ y = .int k b) : (execOp (ev ρ) ⟨d, .binOp .mul t x y u, ty, pos, af, g⟩).run P w = .ok (.value (.int k (k.wrap (a * b)))) w := by
 simp [execOp, hx, hy, eqGuard, binOp, Op.intArith]
theorem y2 (hx : ev ρ x = .int k a) (hy : ev ρ y = .int k b) (hb : b ≠ 0) : (execOp (ev ρ) ⟨d, .binOp .quo t x y u, ty, pos, af, g⟩).run P w = .ok (.value (.int k (k.wrap (a.tdiv b)))) w := by
 simp [execOp, hx, hy, eqGuard, binOp, Op.intDiv, hb]
theorem yO (hx : ev ρ x = .int k a) (hy : ev ρ y = .int k b) (hb : b ≠ 0) : (execOp (ev ρ) ⟨d, .binOp .rem t x y u, ty, pos, af, g⟩).run P w = .ok (.value (.int k (a.tmod b))) w := by
 simp [execOp, hx, hy, eqGuard, binOp, Op.intDiv, hb]
theorem Ap (hx : ev ρ x = .int k a) (hy : ev ρ y = .int k b) : (execOp (ev ρ) ⟨d, .binOp .and t x y u, ty, pos, af, g⟩).run P w = .ok (.value (.int k (k.wrap (BitVec.ofInt k.bits a &&& BitVec.ofInt k.bits b).toNat))) w := by
 simp [execOp, hx, hy, eqGuard, binOp, Op.intBits]
theorem AA (hx : ev ρ x = .int k a) (hy : ev ρ y = .int k b) : (execOp (ev ρ) ⟨d, .binOp .or t x y u, ty, pos, af, g⟩).run P w = .ok (.value (.int k (k.wrap (BitVec.ofInt k.bits a ||| BitVec.ofInt k.bits b).toNat))) w := by
 simp [execOp, hx, hy, eqGuard, binOp, Op.intBits]
theorem zV {k' : IntKind} (hx : ev ρ x = .int k a) (hy : ev ρ y = .int k' b) (hb : 0 ≤ b) : (execOp (ev ρ) ⟨d, .binOp .shl t x y u, ty, pos, af, g⟩).run P w = .ok (.value (.int k (k.wrap (a * 2 ^ (min b.toNat k.bits))))) w := by
 simp [execOp, hx, hy, eqGuard, binOp, Op.shift, show ¬ b < 0 by omega]
theorem Aj {k' : IntKind} (hx : ev ρ x = .int k a) (hy : ev ρ y = .int k' b) (hb : 0 ≤ b) : (execOp (ev ρ) ⟨d, .binOp .shr t x y u, ty, pos, af, g⟩).run P w = .ok (.value (.int k (a.fdiv (2 ^ (min b.toNat k.bits))))) w := by
 simp [execOp, hx, hy, eqGuard, binOp, Op.shift, show ¬ b < 0 by omega]
theorem qB {op : BinOp} : (eqGuard op t x y (.int k a) (.int k b)).run P w = .ok () w := by
 unfold eqGuard; cases op <;> simp
theorem jr {op : BinOp} {r : Bool} (hx : ev ρ x = .int k a) (hy : ev ρ y = .int k b) (hop : (Op.intCmp op a b).run P w = .ok (.bool r) w) (hc : op = .eql ∨ op = .neq ∨ op = .lss ∨ op = .leq ∨ op = .gtr ∨ op = .geq) :
  (execOp (ev ρ) ⟨d, .binOp op t x y u, ty, pos, af, g⟩).run P w = .ok (.value (.bool r)) w := by
 rcases hc with h | h | h | h | h | h <;> subst h <;> simp [execOp, hx, hy, qB, binOp, hop]
theorem xq (hx : ev ρ x = .int k a) (hy : ev ρ y = .int k b) (h : a < b) : (execOp (ev ρ) ⟨d, .binOp .lss t x y u, ty, pos, af, g⟩).run P w = .ok (.value (.bool true)) w :=
 jr hx hy (by simp [Op.intCmp, h]) (by simp)
theorem yA (hx : ev ρ x = .int k a) (hy : ev ρ y = .int k b) (h : ¬ a < b) : (execOp (ev ρ) ⟨d, .binOp .lss t x y u, ty, pos, af, g⟩).run P w = .ok (.value (.bool false)) w :=
 jr hx hy (by simp [Op.intCmp]; omega) (by simp)
theorem xI (hx : ev ρ x = .int k a) (hy : ev ρ y = .int k b) (h : a ≤ b) : (execOp (ev ρ) ⟨d, .binOp .leq t x y u, ty, pos, af, g⟩).run P w = .ok (.value (.bool true)) w :=
 jr hx hy (by simp [Op.intCmp, h]) (by simp)
theorem yG (hx : ev ρ x = .int k a) (hy : ev ρ y = .int k b) (h : ¬ a ≤ b) : (execOp (ev ρ) ⟨d, .binOp .leq t x y u, ty, pos, af, g⟩).run P w = .ok (.value (.bool false)) w :=
 jr hx hy (by simp [Op.intCmp]; omega) (by simp)
theorem yE (hx : ev ρ x = .int k a) (hy : ev ρ y = .int k b) (h : b < a) : (execOp (ev ρ) ⟨d, .binOp .gtr t x y u, ty, pos, af, g⟩).run P w = .ok (.value (.bool true)) w :=
 jr hx hy (by simp [Op.intCmp, h]) (by simp)
theorem xU (hx : ev ρ x = .int k a) (hy : ev ρ y = .int k b) (h : ¬ b < a) : (execOp (ev ρ) ⟨d, .binOp .gtr t x y u, ty, pos, af, g⟩).run P w = .ok (.value (.bool false)) w :=
 jr hx hy (by simp [Op.intCmp]; omega) (by simp)
theorem xM (hx : ev ρ x = .int k a) (hy : ev ρ y = .int k b) (h : b ≤ a) : (execOp (ev ρ) ⟨d, .binOp .geq t x y u, ty, pos, af, g⟩).run P w = .ok (.value (.bool true)) w :=
 jr hx hy (by simp [Op.intCmp, h]) (by simp)
theorem yc (hx : ev ρ x = .int k a) (hy : ev ρ y = .int k b) (h : ¬ b ≤ a) : (execOp (ev ρ) ⟨d, .binOp .geq t x y u, ty, pos, af, g⟩).run P w = .ok (.value (.bool false)) w :=
 jr hx hy (by simp [Op.intCmp]; omega) (by simp)
theorem xY (hx : ev ρ x = .int k a) (hy : ev ρ y = .int k b) (h : a ≠ b) : (execOp (ev ρ) ⟨d, .binOp .neq t x y u, ty, pos, af, g⟩).run P w = .ok (.value (.bool true)) w :=
 jr hx hy (by simp [Op.intCmp, h]) (by simp)
theorem yJ (hx : ev ρ x = .int k a) (hy : ev ρ y = .int k b) (h : a = b) : (execOp (ev ρ) ⟨d, .binOp .neq t x y u, ty, pos, af, g⟩).run P w = .ok (.value (.bool false)) w :=
 jr hx hy (by simp [Op.intCmp, h]) (by simp)
theorem tZ (hx : ev ρ x = .int k a) (hy : ev ρ y = .int k b) : (execOp (ev ρ) ⟨d, .binOp .eql t x y u, ty, pos, af, g⟩).run P w = .ok (.value (.bool (decide (a = b)))) w :=
 jr hx hy (by simp [Op.intCmp]; rw [Bool.eq_iff_iff]; simp) (by simp)
theorem y5 (hx : ev ρ x = .int k a) : (execOp (ev ρ) ⟨d, .unOp .neg t x, ty, pos, af, g⟩).run P w = .ok (.value (.int k (k.wrap (-a)))) w := by
 simp [execOp, hx, Op.unary, Op.intArith]
theorem iA {n : Int} (h1 : -9223372036854775808 ≤ n) (h2 : n ≤ 9223372036854775807) : IntKind.i64.wrap n = n := IntWalk.i64_in n ⟨h1, h2⟩
theorem xl (hx : ev ρ x = .int .i64 a) (hy : ev ρ y = .int .i64 b) (h1 : -9223372036854775808 ≤ a + b) (h2 : a + b ≤ 9223372036854775807) : (execOp (ev ρ) ⟨d, .binOp .add t x y u, ty, pos, af, g⟩).run P w = .ok (.value (.int .i64 (a + b))) w := by
 rw [yP hx hy, iA h1 h2]
theorem vZ (hx : ev ρ x = .int .i64 a) (hy : ev ρ y = .int .i64 b) (h1 : -9223372036854775808 ≤ a - b) (h2 : a - b ≤ 9223372036854775807) : (execOp (ev ρ) ⟨d, .binOp .sub t x y u, ty, pos, af, g⟩).run P w = .ok (.value (.int .i64 (a - b))) w := by
 rw [y6 hx hy, iA h1 h2]
theorem xj (hx : ev ρ x = .int .i64 a) (hy : ev ρ y = .int .i64 b) (h1 : -9223372036854775808 ≤ a * b) (h2 : a * b ≤ 9223372036854775807) : (execOp (ev ρ) ⟨d, .binOp .mul t x y u, ty, pos, af, g⟩).run P w = .ok (.value (.int .i64 (a * b))) w := by
 rw [yU hx hy, iA h1 h2]
theorem ns (hx : ev ρ x = .int .i64 a) (h1 : -9223372036854775808 ≤ -a) (h2 : -a ≤ 9223372036854775807) : (execOp (ev ρ) ⟨d, .unOp .neg t x, ty, pos, af, g⟩).run P w = .ok (.value (.int .i64 (-a))) w := by
 rw [y5 hx, iA h1 h2]
theorem pJ (hx : ev ρ x = .int .i64 a) (hy : ev ρ y = .int .i64 b) (ha : 0 ≤ a) (hb : 0 < b) (h2 : a ≤ 9223372036854775807) : (execOp (ev ρ) ⟨d, .binOp .quo t x y u, ty, pos, af, g⟩).run P w = .ok (.value (.int .i64 (a / b))) w := by
 have h3 : a / b ≤ a := Int.ediv_le_self b ha
 have h4 : 0 ≤ a / b := Int.ediv_nonneg ha (by omega)
 rw [y2 hx hy (by omega), Int.tdiv_eq_ediv_of_nonneg ha, iA (by omega) (by omega)]
theorem lJ (hx : ev ρ x = .int .i64 a) (hy : ev ρ y = .int .i64 b) (ha : 0 ≤ a) (hb : 0 < b) : (execOp (ev ρ) ⟨d, .binOp .rem t x y u, ty, pos, af, g⟩).run P w = .ok (.value (.int .i64 (a % b))) w := by
 rw [yO hx hy (by omega), Int.tmod_eq_emod_of_nonneg ha]
end ints
theorem yT {t : TypeId} {x : Operand} {b : Bool} (hx : ev ρ x = .bool b) : (execOp (ev ρ) ⟨d, .unOp .not t x, ty, pos, af, g⟩).run P w = .ok (.value (.bool !b)) w := by
 simp [execOp, hx, Op.unary]
section bools
variable {t u : TypeId} {x y : Operand} {a b : Bool}
theorem px (n : Nat) (ht : P.underlying t = some .bool) : (Op.equalIn (n + 1) t (.bool a) (.bool b)).run P w = .ok (a == b) w := by
 simp [Op.equalIn, run_underlying ht]
theorem mX (ht : P.underlying t = some .bool) : (Op.equal t (.bool a) (.bool b)).run P w = .ok (a == b) w := px 9999 ht
theorem nQ (ht : P.underlying t = some .bool) : (binOp .eql t (.bool a) (.bool b)).run P w = .ok (.bool (a == b)) w := by
 simp only [binOp]
 simp [mX ht]
theorem mQ (ht : P.underlying t = some .bool) : (binOp .neq t (.bool a) (.bool b)).run P w = .ok (.bool (a != b)) w := by
 simp only [binOp]
 simp [mX ht, bne]
theorem m3 (ht : P.underlying t = some .bool) (hx : ev ρ x = .bool a) (hy : ev ρ y = .bool b) : (execOp (ev ρ) ⟨d, .binOp .eql t x y u, ty, pos, af, g⟩).run P w = .ok (.value (.bool (a == b))) w := by
 simp only [execOp, hx, hy, eqGuard]
 simp [nQ ht]
theorem kd (ht : P.underlying t = some .bool) (hx : ev ρ x = .bool a) (hy : ev ρ y = .bool b) : (execOp (ev ρ) ⟨d, .binOp .neq t x y u, ty, pos, af, g⟩).run P w = .ok (.value (.bool (a != b))) w := by
 simp only [execOp, hx, hy, eqGuard]
 simp [mQ ht]
end bools
section qK
variable {t u : TypeId} {x y : Operand} {a b : ByteArray}
theorem qD {op : BinOp} : (eqGuard op t x y (.string a) (.string b)).run P w = .ok () w := by
 unfold eqGuard; cases op <;> simp
theorem qE {op : BinOp} {r : Value} (hx : ev ρ x = .string a) (hy : ev ρ y = .string b) (hs : op ≠ .shl ∧ op ≠ .shr) (hop : (Op.stringOp op a b).run P w = .ok r w) :
  (execOp (ev ρ) ⟨d, .binOp op t x y u, ty, pos, af, g⟩).run P w = .ok (.value r) w := by
 cases op <;> simp_all [execOp, qD, binOp]
theorem o8 (hx : ev ρ x = .string a) (hy : ev ρ y = .string b) : (execOp (ev ρ) ⟨d, .binOp .eql t x y u, ty, pos, af, g⟩).run P w = .ok (.value (.bool (a.toList == b.toList))) w :=
 qE hx hy (by simp) (by simp [Op.stringOp])
theorem o4 (hx : ev ρ x = .string a) (hy : ev ρ y = .string b) : (execOp (ev ρ) ⟨d, .binOp .neq t x y u, ty, pos, af, g⟩).run P w = .ok (.value (.bool !(a.toList == b.toList))) w :=
 qE hx hy (by simp) (by simp [Op.stringOp])
theorem wF {a b : ByteArray} : (a.toList == b.toList) = decide (a = b) := by
 have key : ∀ s : ByteArray, s.toList = s.data.toList := fun s => by
  unfold ByteArray.toList
  have : ∀ (n i : Nat) (r : List UInt8), s.size - i = n → ByteArray.toList.loop s i r = r.reverse ++ s.data.toList.drop i := by
   intro n
   induction n with
   | zero =>
    intro i r h
    rw [ByteArray.toList.loop, if_neg (by omega), List.drop_of_length_le (by rw [Array.length_toList]; show s.size ≤ i; omega)]
    simp
   | succ n ih =>
    intro i r h
    have hi : i < s.size := by omega
    rw [ByteArray.toList.loop, if_pos hi, ih (i + 1) _ (by omega)]
    have hi2 : i < s.data.toList.length := by rw [Array.length_toList]; exact hi
    rw [List.drop_eq_getElem_cons hi2]
    have : s.get! i = s.data.toList[i] := by
     show s.data[i]! = _
     rw [getElem!_pos s.data i (by simpa using hi2)]
     simp
    simp [this]
  simpa using this (s.size - 0) 0 [] rfl
 rw [Bool.eq_iff_iff, beq_iff_eq, decide_eq_true_eq, key, key]
 constructor
 ·intro h; cases a; cases b; congr 1; exact Array.ext' h
 ·intro h; rw [h]
theorem rE (hx : ev ρ x = .string a) (hy : ev ρ y = .string b) (h : a = b) : (execOp (ev ρ) ⟨d, .binOp .eql t x y u, ty, pos, af, g⟩).run P w = .ok (.value (.bool true)) w := by
 rw [o8 hx hy, wF]; simp [h]
theorem qQ (hx : ev ρ x = .string a) (hy : ev ρ y = .string b) (h : ¬ a = b) : (execOp (ev ρ) ⟨d, .binOp .eql t x y u, ty, pos, af, g⟩).run P w = .ok (.value (.bool false)) w := by
 rw [o8 hx hy, wF]; simp [h]
theorem rB (hx : ev ρ x = .string a) (hy : ev ρ y = .string b) (h : ¬ a = b) : (execOp (ev ρ) ⟨d, .binOp .neq t x y u, ty, pos, af, g⟩).run P w = .ok (.value (.bool true)) w := by
 rw [o4 hx hy, wF]; simp [h]
theorem qN (hx : ev ρ x = .string a) (hy : ev ρ y = .string b) (h : a = b) : (execOp (ev ρ) ⟨d, .binOp .neq t x y u, ty, pos, af, g⟩).run P w = .ok (.value (.bool false)) w := by
 rw [o4 hx hy, wF]; simp [h]
theorem uI (hx : ev ρ x = .string a) (hy : ev ρ y = .string b) : (execOp (ev ρ) ⟨d, .binOp .lss t x y u, ty, pos, af, g⟩).run P w = .ok (.value (.bool (Op.bytesLess a.toList b.toList))) w :=
 qE hx hy (by simp) (by simp [Op.stringOp])
theorem uZ (hx : ev ρ x = .string a) (hy : ev ρ y = .string b) : (execOp (ev ρ) ⟨d, .binOp .gtr t x y u, ty, pos, af, g⟩).run P w = .ok (.value (.bool !(Op.bytesLess a.toList b.toList || a.toList == b.toList))) w :=
 qE hx hy (by simp) (by simp [Op.stringOp])
theorem ve (hx : ev ρ x = .string a) (hy : ev ρ y = .string b) : (execOp (ev ρ) ⟨d, .binOp .geq t x y u, ty, pos, af, g⟩).run P w = .ok (.value (.bool !(Op.bytesLess a.toList b.toList))) w :=
 qE hx hy (by simp) (by simp [Op.stringOp])
end qK
theorem iQ {s t : TypeId} {x : Operand} {k k' : IntKind} {a : Int} {sd : TypeDesc} (hs : P.underlying s = some sd) (ht : P.underlying t = some (.int k)) (hx : ev ρ x = .int k' a) :
  (execOp (ev ρ) ⟨d, .convert s t x, ty, pos, af, g⟩).run P w = .ok (.value (.int k (k.wrap a))) w := by
 simp [execOp, hx, convert, run_underlying hs, run_underlying ht, Conv.intToInt]
theorem r9 {s t : TypeId} {x : Operand} {k' : IntKind} {a : Int} {sd : TypeDesc} (hs : P.underlying s = some sd) (ht : P.underlying t = some (.int .i64)) (hx : ev ρ x = .int k' a) (h1 : -9223372036854775808 ≤ a) (h2 : a ≤ 9223372036854775807) :
  (execOp (ev ρ) ⟨d, .convert s t x, ty, pos, af, g⟩).run P w = .ok (.value (.int .i64 a)) w := by
 rw [iQ hs ht hx, iA h1 h2]
theorem cw {x : Operand} {i : Nat} {vs : List Value} {v : Value} (hx : ev ρ x = .tuple vs.toArray) (hv : vs[i]? = some v) :
  (execOp (ev ρ) ⟨d, .extract x i, ty, pos, af, g⟩).run P w = .ok (.value v) w := by
 simp [execOp, hx, Instr.extract, hv]
def qq (ρ : Rf) : List Operand → List Value
 | [] => []
 | x :: l => ev ρ x :: qq ρ l
theorem kO {ρ : Rf} (args : Array Operand) {vs : List Value} (h : qq ρ args.toList = vs) : args.map (ev ρ) = vs.toArray := by
 have h1 : ∀ l : List Operand, l.map (ev ρ) = qq ρ l := by
  intro l
  induction l with
  | nil => rfl
  | cons a l ih => simp only [List.map_cons, ih]; rfl
 subst h
 rw [← h1]
 apply Array.ext'
 simp
theorem sO {fn : Fn} {first captured : Array Operand} {fs cs : List Value} (hf : qq ρ first.toList = fs) (hc : qq ρ captured.toList = cs) :
  (execOp (ev ρ) ⟨d, .makeFunc fn first captured, ty, pos, af, g⟩).run P w = .ok (.value (.func fn fs.toArray cs.toArray)) w := by
 simp [execOp, kO _ hf, kO _ hc, Instr.makeFunc]
theorem dq {i : Nat} {k : IntKind} {n : Int} (h : ρ i = .int k n) : ρ i = .int k n := h
theorem fq {i : Nat} {b : Bool} (h : ρ i = .bool b) : ρ i = .bool b := h
theorem oE {i : Nat} {s : ByteArray} (h : ρ i = .string s) : ρ i = .string s := h
theorem vp {i : Nat} {A : Option Addr} {n c : Nat} (h : ρ i = .slice A n c) : ρ i = .slice A n c := h
theorem bI {x : Operand} {k : IntKind} {n : Int} (h : ev ρ x = .int k n) : ev ρ x = .int k n := h
theorem mq {x : Operand} {b : Bool} (h : ev ρ x = .bool b) : ev ρ x = .bool b := h
theorem wj {x : Operand} {s : ByteArray} (h : ev ρ x = .string s) : ev ρ x = .string s := h
theorem yY {x : Operand} {A : Option Addr} {n c : Nat} (h : ev ρ x = .slice A n c) : ev ρ x = .slice A n c := h
theorem km {x : Operand} {a : Addr} (h : ev ρ x = .pointer (some a)) : ev ρ x = .pointer (some a) := h
theorem bq {x : Operand} {l : List Value} (h : ev ρ x = .agg l.toArray) : ev ρ x = .agg l.toArray := h
theorem za {x : Operand} {l : List Value} (h : ev ρ x = .tuple l.toArray) : ev ρ x = .tuple l.toArray := h
theorem gm {x : Operand} {f : Fn} {a b : List Value} (h : ev ρ x = .func f a.toArray b.toArray) : ev ρ x = .func f a.toArray b.toArray := h
theorem u5 {x : Operand} {t : TypeId} {s : ByteArray} (ht : P.underlying t = some .string) (hx : ev ρ x = .string s) :
  (execOp (ev ρ) ⟨d, .call ⟨.builtin .len, #[x], #[t]⟩, ty, pos, af, g⟩).run P w = .ok (.value (.int .i64 s.size)) w := by
 simp [execOp, resolve, invoke, builtin, Builtin.len_, hx, run_underlying ht, goInt]
theorem rO {x : Operand} {t e : TypeId} {A : Option Addr} {n c : Nat} (ht : P.underlying t = some (.slice e)) (hx : ev ρ x = .slice A n c) :
  (execOp (ev ρ) ⟨d, .call ⟨.builtin .len, #[x], #[t]⟩, ty, pos, af, g⟩).run P w = .ok (.value (.int .i64 n)) w := by
 simp [execOp, resolve, invoke, builtin, Builtin.len_, hx, run_underlying ht, goInt]
theorem Ac {x y : Operand} {ts : Array TypeId} {k : IntKind} {a b : Int} (hx : ev ρ x = .int k a) (hy : ev ρ y = .int k b) :
  (execOp (ev ρ) ⟨d, .call ⟨.builtin .min, #[x, y], ts⟩, ty, pos, af, g⟩).run P w = .ok (.value (.int k (if b < a then b else a))) w := by
 simp [execOp, resolve, invoke, builtin, Builtin.min_, Builtin.min2, hx, hy, List.foldlM]
theorem An {x y : Operand} {ts : Array TypeId} {k : IntKind} {a b : Int} (hx : ev ρ x = .int k a) (hy : ev ρ y = .int k b) :
  (execOp (ev ρ) ⟨d, .call ⟨.builtin .max, #[x, y], ts⟩, ty, pos, af, g⟩).run P w = .ok (.value (.int k (if b > a then b else a))) w := by
 simp [execOp, resolve, invoke, builtin, Builtin.max_, Builtin.max2, hx, hy, List.foldlM]
theorem lW {t : TypeId} {x i : Operand} {s : ByteArray} {n : Int} {k : IntKind} {c : UInt8} (ht : P.underlying t = some .string) (hx : ev ρ x = .string s) (hi : ev ρ i = .int k n)
  (h0 : 0 ≤ n) (hc : s.data.toList[n.toNat]? = some c) : (execOp (ev ρ) ⟨d, .index t x i, ty, pos, af, g⟩).run P w = .ok (.value (.int .u8 c.toNat)) w := by
 have hs : s[n.toNat]? = some c := by
  rw [← hc]
  obtain ⟨h1, h2⟩ := List.getElem?_eq_some_iff.1 hc
  have h3 : n.toNat < s.size := by simpa using h1
  rw [getElem?_pos s n.toNat h3, getElem?_pos s.data.toList n.toNat h1]
  rfl
 simp [execOp, hx, hi, Instr.index, asIntOf, run_underlying ht, h0, hs]
theorem qL {t : TypeId} {x : Operand} {lo hi : Option Operand} {s : ByteArray} {l h : Nat} (ht : P.underlying t = some .string) (hx : ev ρ x = .string s)
  (hlo : match lo with | none => l = 0 | some o => ∃ (k : IntKind) (n : Int), ev ρ o = .int k n ∧ n = l) (hhi : match hi with | none => h = s.size | some o => ∃ (k : IntKind) (n : Int), ev ρ o = .int k n ∧ n = h)
  (h1 : l ≤ h) (h2 : h ≤ s.size) : (execOp (ev ρ) ⟨d, .slice t x lo hi none, ty, pos, af, g⟩).run P w = .ok (.value (.string (s.extract l h))) w := by
 have e1 : (l : Int) ≤ h := by omega
 have e2 : (h : Int) ≤ s.size := by omega
 cases lo <;> cases hi <;> simp only [] at hlo hhi
 ·subst hlo; subst hhi
  simp [execOp, hx, Instr.sliceAt, Instr.slice, run_underlying ht, Instr.sliceBounds]
 ·obtain ⟨k2, n2, hv2, rfl⟩ := hhi
  subst hlo
  simp [execOp, hx, Instr.sliceAt, Instr.slice, run_underlying ht, Instr.sliceBounds, Instr.sliceBound, asIntOf, hv2, h2]
 ·obtain ⟨k2, n2, hv2, rfl⟩ := hlo
  subst hhi
  simp [execOp, hx, Instr.sliceAt, Instr.slice, run_underlying ht, Instr.sliceBounds, Instr.sliceBound, asIntOf, hv2, h1]
 ·obtain ⟨k2, n2, hv2, rfl⟩ := hhi
  obtain ⟨k3, n3, hv3, rfl⟩ := hlo
  simp [execOp, hx, Instr.sliceAt, Instr.slice, run_underlying ht, Instr.sliceBounds, Instr.sliceBound, asIntOf, hv2, hv3, h1, h2]
theorem gD {t e : TypeId} {x : Operand} {lo hi : Option Operand} {A : Option Addr} {n c l h sz : Nat} (ht : P.underlying t = some (.slice e)) (hsz : (P.info? e).map (·.size) = some sz) (hx : ev ρ x = .slice A n c)
  (hlo : match lo with | none => l = 0 | some o => ∃ (k : IntKind) (n : Int), ev ρ o = .int k n ∧ n = l) (hhi : match hi with | none => h = n | some o => ∃ (k : IntKind) (n : Int), ev ρ o = .int k n ∧ n = h)
  (h1 : l ≤ h) (h2 : h ≤ c) : (execOp (ev ρ) ⟨d, .slice t x lo hi none, ty, pos, af, g⟩).run P w = .ok (.value (.slice (if c = l then A else A.map (·.add (l * sz))) (h - l) (c - l))) w := by
 obtain ⟨i, hi1, hi2⟩ := Option.map_eq_some_iff.1 hsz
 have e1 : (l : Int) ≤ h := by omega
 have e2 : (h : Int) ≤ c := by omega
 cases lo <;> cases hi <;> simp only [] at hlo hhi
 ·subst hlo; subst hhi
  simp [execOp, hx, Instr.sliceAt, Instr.slice, run_underlying ht, Instr.sliceBounds, sizeOf, typeInfo, hi1]
 ·obtain ⟨k2, n2, hv2, rfl⟩ := hhi
  subst hlo
  simp [execOp, hx, Instr.sliceAt, Instr.slice, run_underlying ht, Instr.sliceBounds, Instr.sliceBound, asIntOf, hv2, h2, sizeOf, typeInfo, hi1]
 ·obtain ⟨k2, n2, hv2, rfl⟩ := hlo
  subst hhi
  simp [execOp, hx, Instr.sliceAt, Instr.slice, run_underlying ht, Instr.sliceBounds, Instr.sliceBound, asIntOf, hv2, h1, sizeOf, typeInfo, hi1, hi2]
 ·obtain ⟨k2, n2, hv2, rfl⟩ := hhi
  obtain ⟨k3, n3, hv3, rfl⟩ := hlo
  simp [execOp, hx, Instr.sliceAt, Instr.slice, run_underlying ht, Instr.sliceBounds, Instr.sliceBound, asIntOf, hv2, hv3, h1, h2, sizeOf, typeInfo, hi1, hi2]
theorem dv {t e : TypeId} {x i : Operand} {ad : Addr} {n c sz : Nat} {k : IntKind} {m : Int} (ht : P.underlying t = some (.slice e)) (hsz : (P.info? e).map (·.size) = some sz) (hx : ev ρ x = .slice (some ad) n c) (hi : ev ρ i = .int k m)
  (h0 : 0 ≤ m) (h1 : m < n) : (execOp (ev ρ) ⟨d, .indexAddr t x i, ty, pos, af, g⟩).run P w = .ok (.value (.pointer (some (ad.add (m.toNat * sz))))) w := by
 obtain ⟨i, hi1, hi2⟩ := Option.map_eq_some_iff.1 hsz
 simp [execOp, hx, hi, Instr.indexAt, asIntOf, run_underlying ht, sizeOf, typeInfo, hi1, hi2, h0, h1]
theorem nP {t e : TypeId} {x i : Operand} {b n c sz k : Nat} {kk : IntKind} {m : Int} (ht : P.underlying t = some (.slice e)) (hsz : (P.info? e).map (·.size) = some sz) (hx : ev ρ x = .slice (some ⟨b, 0, none⟩) n c) (hi : ev ρ i = .int kk m)
  (hm : m = (k : Int)) (h1 : k < n) : (execOp (ev ρ) ⟨d, .indexAddr t x i, ty, pos, af, g⟩).run P w = .ok (.value (.pointer (some ⟨b, k * sz, none⟩))) w := by
 have h := dv (P := P) (w := w) (d := d) (ty := ty) (pos := pos) (af := af) (g := g) ht hsz hx hi (by omega) (by omega)
 rw [h, hm]
 have : (⟨b, 0, none⟩ : Addr).add (((k : Int)).toNat * sz) = ⟨b, k * sz, none⟩ := by
  unfold Addr.add
  split
  ·rename_i h0
   rw [Int.toNat_natCast] at h0
   rw [h0]
  ·rw [Int.toNat_natCast]; simp
 rw [this]
theorem wb {x : Operand} {args : Array Operand} {ts : Array TypeId} {f : FuncId} {fn : Func} {first cap : Array Value} {vs : Array Value} (hf : P.funcs[f]? = some fn) (hb : fn.body.isNone = false) (hn : (fn.name == "runtime.NumGoroutine") = false)
  (hx : ev ρ x = .func (.func f) first cap) (ha : args.map (ev ρ) = vs) : (execOp (ev ρ) ⟨d, .call ⟨.value x, args, ts⟩, ty, pos, af, g⟩).run P w = .ok (.enter f (first ++ vs ++ cap)) w := by
 have h1 : ¬ fn.name = "runtime.NumGoroutine" := by simpa using hn
 have h2 : ¬ fn.body = none := by intro h; simp [h] at hb
 simp [execOp, resolve, Deferred.ofValue, hx, ha, invoke, callFunc, program, Sem.run, hf, h1, h2]
end
end Go.Proofs.YtkgdagjklakajaaGreatDoor
namespace Go.Proofs.YtkgdagjklakajaaGreatDoor
open Go.RowKit
def cZ (P : Program) (t : TypeId) : Option (Nat × Bool × Nat × List Value) :=
 match P.info? t, P.underlying t with
 | some i, some d => i.zero.map fun z => (i.size, (match d with | .struct _ | .array _ _ => true | _ => false), i.bytes, z.cells.toList)
 | _, _ => none
theorem ej {P : Program} {t : TypeId} {n by' : Nat} {ag : Bool} {zc : List Value} (h : cZ P t = some (n, ag, by', zc)) :
  ∃ i z d, P.info? t = some i ∧ P.underlying t = some d ∧ i.zero = some z ∧ i.size = n ∧ i.bytes = by' ∧ z.cells = zc.toArray ∧ (match d with | .struct _ | .array _ _ => true | _ => false) = ag := by
 unfold cZ at h
 split at h
 ·rename_i i d hi hd
  obtain ⟨z, hz, he⟩ := Option.map_eq_some_iff.1 h
  simp only [Prod.mk.injEq] at he
  exact ⟨i, z, d, hi, hd, hz, he.1, he.2.2.1, by rw [← he.2.2.2], he.2.1⟩
 ·cases h
section
variable {P : Program} {w : World} {t : TypeId} {n by' : Nat} {ag : Bool} {zc : List Value}
theorem eg (h : cZ P t = some (n, ag, by', zc)) : (sizeOf t).run P w = .ok n w := by
 obtain ⟨i, z, d, hi, hd, hz, hs, _⟩ := ej h
 simp [sizeOf, typeInfo, hi, hs]
theorem gK (h : cZ P t = some (n, ag, by', zc)) : (isAgg t).run P w = .ok ag w := by
 obtain ⟨i, z, d, hi, hd, hz, hs, _, _, ha⟩ := ej h
 simp only [isAgg, Sem.run_bind, run_underlying hd, Result.andThen_ok]
 subst ha
 cases d <;> rfl
theorem dz (h : cZ P t = some (n, ag, by', zc)) : ∃ z, (zeroValue t).run P w = .ok z w ∧ z.cells = zc.toArray := by
 obtain ⟨i, z, d, hi, hd, hz, hs, _, hc, _⟩ := ej h
 exact ⟨z, by simp [zeroValue, typeInfo, hi, hz], hc⟩
end
def Rd (w : World) (ad : Addr) (vs : List Value) : Prop := ∀ j u, vs[j]? = some u → w.cell? (ad.add j) = some u
def Sl (w : World) (A : Option Addr) (n k : Nat) (xs : List Value) : Prop := xs.length = n * k ∧ (0 < n → ∃ ad, A = some ad ∧ Rd w ad xs)
theorem eu (b o n : Nat) : (⟨b, o, none⟩ : Addr).add n = ⟨b, o + n, none⟩ := by
 unfold Addr.add
 split
 ·rename_i h; subst h; rfl
 ·rfl
theorem k4 (a : Addr) (i j : Nat) : (a.add i).add j = a.add (i + j) := by
 unfold Addr.add
 by_cases hi : i = 0 <;> by_cases hj : j = 0 <;> simp [hi, hj, Nat.add_assoc]
theorem pV {w : World} {a : Addr} {v : Value} (h : w.cell? a = some v) : a.block < w.heap.size := block_lt_of_cell h
theorem dA {w w' : World} (h : Below w.heap.size w w') {a : Addr} {v : Value} (hc : w.cell? a = some v) : w'.cell? a = some v := (h.cell (pV hc)).trans hc
theorem Rd.ext {w w' : World} {ad : Addr} {vs : List Value} (h : Rd w ad vs) (hb : Below w.heap.size w w') : Rd w' ad vs := fun j u hu => dA hb (h j u hu)
theorem Sl.ext {w w' : World} {A : Option Addr} {n k : Nat} {xs : List Value} (h : Sl w A n k xs) (hb : Below w.heap.size w w') : Sl w' A n k xs :=
 ⟨h.1, fun hn => let ⟨ad, ha, hr⟩ := h.2 hn; ⟨ad, ha, hr.ext hb⟩⟩
theorem Rd.drop {w : World} {ad : Addr} {vs : List Value} (h : Rd w ad vs) (i : Nat) : Rd w (ad.add i) (vs.drop i) := fun j u hu => by
 rw [k4]
 exact h _ u (by rw [← hu, List.getElem?_drop])
theorem Rd.take {w : World} {ad : Addr} {vs : List Value} (h : Rd w ad vs) (n : Nat) : Rd w ad (vs.take n) := fun j u hu => by
 rw [List.getElem?_take] at hu
 split at hu
 ·exact h _ u hu
 ·cases hu
theorem Rd.cell {w : World} {ad : Addr} {vs : List Value} (h : Rd w ad vs) {i : Nat} {v : Value} (hv : vs[i]? = some v) : w.cell? (ad.add i) = some v := h i v hv
theorem Sl.nil (w : World) (A : Option Addr) (k : Nat) : Sl w A 0 k [] := ⟨by simp, fun h => absurd h (by omega)⟩
theorem Sl.at_ {w : World} {A : Option Addr} {n k : Nat} {xs : List Value} (h : Sl w A n k xs) (hn : 0 < n) : ∃ ad, A = some ad ∧ Rd w ad xs := h.2 hn
theorem Rd.elem {w : World} {ad : Addr} {xs : List Value} (h : Rd w ad xs) (i k : Nat) : Rd w (ad.add (i * k)) ((xs.drop (i * k)).take k) := (h.drop _).take _
theorem Sl.cut {w : World} {A : Option Addr} {n k c l m : Nat} {xs : List Value} (h : Sl w A n k xs) (hl : l ≤ m) (hm : m ≤ n) (hc : n ≤ c) :
  Sl w (if c = l then A else A.map (·.add (l * k))) (m - l) k ((xs.drop (l * k)).take ((m - l) * k)) := by
 have hle : l * k + (m - l) * k ≤ n * k := by
  rw [← Nat.add_mul]
  exact Nat.mul_le_mul_right _ (by omega)
 refine ⟨by rw [List.length_take, List.length_drop, h.1]; omega, fun hn => ?_⟩
 obtain ⟨ad, rfl, hr⟩ := h.2 (by omega)
 rw [if_neg (by omega)]
 exact ⟨_, rfl, (hr.drop _).take _⟩
inductive HE where
 | blk (b : Nat) (t : TypeId) (cs : List Value) (fz : Nat × Nat)
 | row (A : Option Addr) (n c : Nat) (t : TypeId) (sz : Nat) (xs : List Value)
 | ob (b : Nat) (o : Obj)
abbrev HE.it (b : Nat) (s : ByteArray) (pos : Nat) : HE := .ob b (.stringIter s pos)
def HE.id : HE → Option Nat
 | .blk b _ _ _ => some b
 | .row A _ _ _ _ _ => A.map (·.block)
 | .ob b _ => some b
def HE.holds (base : Nat) (w : World) : HE → Prop
 | .blk b t cs fz => base ≤ b ∧ w.heap[b]? = some (.cells cs.toArray t fz) ∧ (cs.length ≤ fz.1 ∨ fz.2 ≤ fz.1)
 | .row A n c t sz xs => w.ownsRow base t sz (.slice A n c) n xs
 | .ob b o => base ≤ b ∧ w.heap[b]? = some o
structure Hp (w0 : World) (H : List HE) (w : World) : Prop where
 below : Below w0.heap.size w0 w
 own : ∀ x ∈ H, x.holds w0.heap.size w
 nd : (H.filterMap HE.id).Nodup
section
variable {w0 w w' : World} {H : List HE}
theorem Hp.start (w : World) : Hp w [] w := ⟨Below.refl _ _, fun _ h => (nomatch h), List.nodup_nil⟩
theorem Hp.size (h : Hp w0 H w) : w0.heap.size ≤ w.heap.size := h.below.size
theorem ew {base : Nat} {x : HE} (h : x.holds base w) {b : Nat} (hb : x.id = some b) : base ≤ b ∧ b < w.heap.size := by
 cases x with
 | blk b' t cs fz =>
  obtain rfl : b' = b := by simpa [HE.id] using hb
  refine ⟨h.1, ?_⟩
  rcases Nat.lt_or_ge b' w.heap.size with hlt | hge
  ·exact hlt
  ·have := h.2.1; rw [Array.getElem?_eq_none hge] at this; cases this
 | row A n c t sz xs =>
  cases A with
  | none => simp [HE.id] at hb
  | some a => exact World.ownsRow.lt h b (by simpa [HE.id, Value.ownBlock] using hb)
 | ob b' o =>
  obtain rfl : b' = b := by simpa [HE.id] using hb
  refine ⟨h.1, ?_⟩
  rcases Nat.lt_or_ge b' w.heap.size with hlt | hge
  ·exact hlt
  ·have := h.2; rw [Array.getElem?_eq_none hge] at this; cases this
theorem ng {base : Nat} {x : HE} (h : x.holds base w) (hk : ∀ b, x.id = some b → w'.heap[b]? = w.heap[b]?) : x.holds base w' := by
 cases x with
 | blk b t cs fz => exact ⟨h.1, (hk b rfl).trans h.2.1, h.2.2⟩
 | row A n c t sz xs =>
  obtain ⟨h1, h2⟩ := h
  refine ⟨h1, ?_⟩
  rcases h2 with h2 | ⟨g, cap, cur, hv, hg, hh, r⟩
  ·exact .inl h2
  ·have hA : A = some ⟨g, 0, none⟩ := by injection hv
   subst hA
   exact .inr ⟨g, cap, cur, hv, hg, (hk g rfl).trans hh, r⟩
 | ob b o => exact ⟨h.1, (hk b rfl).trans h.2⟩
theorem Hp.ext (h : Hp w0 H w) (hb : Below w.heap.size w w') : Hp w0 H w' :=
 ⟨h.below.trans (hb.mono h.size), fun x hx => ng (h.own x hx) fun _ hi => hb.block _ (ew (h.own x hx) hi).2, h.nd⟩
theorem Hp.sub (h : Hp w0 H w) {H' : List HE} (hs : H'.Sublist H) : Hp w0 H' w := ⟨h.below, fun x hx => h.own x (hs.subset hx), h.nd.sublist (hs.filterMap _)⟩
theorem Hp.at_ (h : Hp w0 H w) {i : Nat} {x : HE} (hi : H[i]? = some x) : x.holds w0.heap.size w := h.own x (List.mem_of_getElem? hi)
theorem Hp.a9 (h : Hp w0 H w) (hb : Below w.heap.size w w') {x : HE} (hx : x.holds w.heap.size w') : Hp w0 (x :: H) w' := by
 have h' := h.ext hb
 refine ⟨h'.below, ?_, ?_⟩
 ·intro y hy
  rcases List.mem_cons.1 hy with rfl | hy
  ·cases y with
   | blk b t cs fz => exact ⟨Nat.le_trans h.size hx.1, hx.2⟩
   | row A n c t sz xs =>
    obtain ⟨h1, h2⟩ := hx
    exact ⟨h1, h2.imp id fun ⟨g, cap, cur, hv, hg, r⟩ => ⟨g, cap, cur, hv, Nat.le_trans h.size hg, r⟩⟩
   | ob b o => exact ⟨Nat.le_trans h.size hx.1, hx.2⟩
  ·exact h'.own y hy
 ·rw [List.filterMap_cons]
  split
  ·exact h'.nd
  ·rename_i b hb'
   refine List.nodup_cons.2 ⟨fun hm => ?_, h'.nd⟩
   obtain ⟨y, hy, hyb⟩ := List.mem_filterMap.1 hm
   have h1 := (ew hx hb').1
   have h2 := (ew (h.own y hy) hyb).2
   omega
theorem Hp.y9 (h : Hp w0 H w) {i : Nat} {x y : HE} (hi : H[i]? = some x) (hid : ∀ b, y.id = some b → x.id = some b ∨ w.heap.size ≤ b)
  (hb : Below w0.heap.size w0 w') (hk : ∀ b, b < w.heap.size → x.id ≠ some b → w'.heap[b]? = w.heap[b]?) (hy : y.holds w0.heap.size w') : Hp w0 (H.set i y) w' := by
 obtain ⟨hlt, hx⟩ := List.getElem?_eq_some_iff.1 hi
 have hsplit : H = H.take i ++ x :: H.drop (i + 1) := by
  rw [← hx, ← List.drop_eq_getElem_cons hlt, List.take_append_drop]
 have hset : H.set i y = H.take i ++ y :: H.drop (i + 1) := by rw [List.set_eq_take_append_cons_drop, if_pos hlt]
 have hnd := h.nd
 rw [hsplit, List.filterMap_append] at hnd
 have hother : ∀ z, z ∈ H.take i ∨ z ∈ H.drop (i + 1) → z ∈ H ∧ (∀ b, z.id = some b → x.id ≠ some b) := by
  intro z hz
  refine ⟨hz.elim List.mem_of_mem_take List.mem_of_mem_drop, fun b hzb hxb => ?_⟩
  rw [List.filterMap_cons, hxb] at hnd
  simp only [] at hnd
  rw [List.nodup_append] at hnd
  rcases hz with hz | hz
  ·exact hnd.2.2 b (List.mem_filterMap.2 ⟨z, hz, hzb⟩) b (List.mem_cons_self) rfl
  ·exact (List.nodup_cons.1 hnd.2.1).1 (List.mem_filterMap.2 ⟨z, hz, hzb⟩)
 have hold : ∀ z, z ∈ H.take i ∨ z ∈ H.drop (i + 1) → z.holds w0.heap.size w' := fun z hz => by
  obtain ⟨hm, hne⟩ := hother z hz
  exact ng (h.own z hm) fun b hzb => hk b (ew (h.own z hm) hzb).2 (hne b hzb)
 rw [hset]
 refine ⟨hb, ?_, ?_⟩
 ·intro z hz
  rcases List.mem_append.1 hz with hz | hz
  ·exact hold z (.inl hz)
  ·rcases List.mem_cons.1 hz with rfl | hz
   ·exact hy
   ·exact hold z (.inr hz)
 ·rw [List.filterMap_append]
  have hsub : ((H.take i).filterMap HE.id ++ (H.drop (i + 1)).filterMap HE.id).Nodup := by
   refine hnd.sublist (List.Sublist.append (List.Sublist.refl _) ?_)
   exact List.Sublist.filterMap _ (List.sublist_cons_self _ _)
  rw [List.filterMap_cons]
  split
  ·exact hsub
  ·rename_i b hyb
   have hfresh : ∀ z, z ∈ H.take i ∨ z ∈ H.drop (i + 1) → z.id ≠ some b := fun z hz hzb => by
    obtain ⟨hm, hne⟩ := hother z hz
    rcases hid b hyb with h1 | h1
    ·exact hne b hzb h1
    ·have := (ew (h.own z hm) hzb).2; omega
   rw [List.nodup_append] at hsub ⊢
   refine ⟨hsub.1, List.nodup_cons.2 ⟨fun hm => ?_, hsub.2.1⟩, fun u hu v hv => ?_⟩
   ·obtain ⟨z, hz, hzb⟩ := List.mem_filterMap.1 hm
    exact hfresh z (.inr hz) hzb
   ·rcases List.mem_cons.1 hv with rfl | hv
    ·rintro rfl
     obtain ⟨z, hz, hzb⟩ := List.mem_filterMap.1 hu
     exact hfresh z (.inl hz) hzb
    ·exact hsub.2.2 u hu v hv
end
section
variable {w0 w w' : World} {H : List HE}
theorem Hp.vK (h : Hp w0 H w) {i b : Nat} {t : TypeId} {cs : List Value} {fz : Nat × Nat} (hi : H[i]? = some (.blk b t cs fz)) : Rd w ⟨b, 0, none⟩ cs := fun j u hu => by
 have h1 := (h.at_ hi).2.1
 rw [eu, Nat.zero_add, cell_of_row w b j _ t fz h1]
 simpa using hu
theorem Hp.iH (h : Hp w0 H w) {i b o : Nat} {t : TypeId} {cs : List Value} {fz : Nat × Nat} {v : Value} (hi : H[i]? = some (.blk b t cs fz)) (hv : cs[o]? = some v) : w.cell? ⟨b, o, none⟩ = some v := by
 have := h.vK hi o v hv
 rwa [eu, Nat.zero_add] at this
theorem Hp.aw (h : Hp w0 H w) {i b o n : Nat} {t : TypeId} {cs vs : List Value} {fz : Nat × Nat} (hi : H[i]? = some (.blk b t cs fz)) (hv : (cs.drop o).take n = vs) : Rd w ⟨b, o, none⟩ vs := by
 have := ((h.vK hi).drop o).take n
 rwa [eu, Nat.zero_add, hv] at this
theorem tG {base : Nat} {t : TypeId} {A : Option Addr} {n c sz : Nat} {xs : List Value} (h : w.ownsRow base t sz (.slice A n c) n xs) : Sl w A n sz xs := by
 refine ⟨h.1, fun hn => ?_⟩
 obtain ⟨g, cap, hv, _, hlt⟩ := h.form hn
 have hA : A = some ⟨g, 0, none⟩ := by injection hv
 subst hA
 exact ⟨_, rfl, h.cells (g := g) rfl⟩
theorem Hp.gH (h : Hp w0 H w) {i n c sz : Nat} {A : Option Addr} {t : TypeId} {xs : List Value} (hi : H[i]? = some (.row A n c t sz xs)) (hn : 0 < n) : ∃ g, A = some ⟨g, 0, none⟩ := by
 obtain ⟨g, cap, hv, _⟩ := World.ownsRow.form (h.at_ hi) hn
 injection hv with hA
 exact ⟨g, hA⟩
theorem Hp.cE (h : Hp w0 H w) {i b n c sz o : Nat} {t : TypeId} {xs : List Value} {v : Value} (hi : H[i]? = some (.row (some ⟨b, 0, none⟩) n c t sz xs)) (hv : xs[o]? = some v) : w.cell? ⟨b, o, none⟩ = some v := by
 have := World.ownsRow.cells (h.at_ hi) (g := b) rfl o v hv
 rwa [eu, Nat.zero_add] at this
theorem Hp.yL (h : Hp w0 H w) {i n c sz : Nat} {A : Option Addr} {t : TypeId} {xs : List Value} (hi : H[i]? = some (.row A n c t sz xs)) : xs.length = n * sz := (h.at_ hi).1
theorem Hp.az (h : Hp w0 H w) {i n c sz : Nat} {A : Option Addr} {t : TypeId} {xs : List Value} (hi : H[i]? = some (.row A n c t sz xs)) : Sl w A n sz xs := tG (h.at_ hi)
end
section
variable {P : Program} {ρ : Rf} {w : World} {d : Option Nat} {ty : TypeId} {pos : String} {af : Array Edge} {g : Option (Nat × Bool)}
theorem sY {t : TypeId} {x : Operand} {ad : Addr} {n by' : Nat} {zc vs : List Value} (ht : cZ P t = some (n, true, by', zc)) (hx : ev ρ x = .pointer (some ad)) (hr : Rd w ad vs) (hl : vs.length = n) :
  (execOp (ev ρ) ⟨d, .load t x, ty, pos, af, g⟩).run P w = .ok (.value (.agg vs.toArray)) w := by
 subst hl
 simp [execOp, hx, Instr.loadAt, Instr.sureAddr, loadVar, gK ht, eg ht, run_loadCells_list (P := P) w ad vs hr]
theorem gU {t : TypeId} {x : Operand} {ad : Addr} {n by' : Nat} {zc : List Value} {v : Value} (ht : cZ P t = some (n, false, by', zc)) (hx : ev ρ x = .pointer (some ad)) (hc : w.cell? ad = some v) :
  (execOp (ev ρ) ⟨d, .load t x, ty, pos, af, g⟩).run P w = .ok (.value v) w := by
 simp [execOp, hx, Instr.loadAt, Instr.sureAddr, loadVar, gK ht, run_load, hc]
theorem aV {t : TypeId} {ad : Addr} {n by' : Nat} {zc vs : List Value} (ht : cZ P t = some (n, true, by', zc)) (hr : Rd w ad vs) (hl : vs.length = n) :
  (loadVar t ad).run P w = .ok (.agg vs.toArray) w := by
 subst hl
 simp [loadVar, gK ht, eg ht, run_loadCells_list (P := P) w ad vs hr]
def gN (P : Program) (s : TypeId) (i : Nat) : Option (Nat × TypeId) :=
 match P.underlying s with
 | some (.struct fs) => match fs[i]? with
  | some f => if P.cellsOf f.type = 0 then none else some (f.offset, f.type)
  | none => none
 | _ => none
theorem l3 {s : TypeId} {x : Operand} {f b o off : Nat} {ft : TypeId} (hf : gN P s f = some (off, ft)) (hx : ev ρ x = .pointer (some ⟨b, o, none⟩)) :
  (execOp (ev ρ) ⟨d, .fieldAddr s x f, ty, pos, af, g⟩).run P w = .ok (.value (.pointer (some ⟨b, o + off, none⟩))) w := by
 unfold gN at hf
 split at hf
 ·rename_i fs hs
  split at hf
  ·rename_i fd hfd
   split at hf
   ·cases hf
   ·rename_i hc
    simp only [Option.some.injEq, Prod.mk.injEq] at hf
    obtain ⟨rfl, rfl⟩ := hf
    have hsz : ∃ i, P.info? fd.type = some i ∧ i.size ≠ 0 := by
     unfold Program.cellsOf at hc
     cases hi : P.info? fd.type with
     | none => simp [hi] at hc
     | some i => exact ⟨i, rfl, by simpa [hi] using hc⟩
    obtain ⟨i, hi, hi0⟩ := hsz
    simp [execOp, hx, Instr.fieldAt, run_underlying hs, hfd, Instr.sureAddr, fieldPlace, sizeOf, typeInfo, hi, hi0, eu]
  ·cases hf
 ·cases hf
theorem kU {s : TypeId} {x : Operand} {f off : Nat} {ad : Addr} {ft : TypeId} (hf : gN P s f = some (off, ft)) (hx : ev ρ x = .pointer (some ad)) :
  (execOp (ev ρ) ⟨d, .fieldAddr s x f, ty, pos, af, g⟩).run P w = .ok (.value (.pointer (some (ad.add off)))) w := by
 unfold gN at hf
 split at hf
 ·rename_i fs hs
  split at hf
  ·rename_i fd hfd
   split at hf
   ·cases hf
   ·rename_i hc
    simp only [Option.some.injEq, Prod.mk.injEq] at hf
    obtain ⟨rfl, rfl⟩ := hf
    have hsz : ∃ i, P.info? fd.type = some i ∧ i.size ≠ 0 := by
     unfold Program.cellsOf at hc
     cases hi : P.info? fd.type with
     | none => simp [hi] at hc
     | some i => exact ⟨i, rfl, by simpa [hi] using hc⟩
    obtain ⟨i, hi, hi0⟩ := hsz
    simp [execOp, hx, Instr.fieldAt, run_underlying hs, hfd, Instr.sureAddr, fieldPlace, sizeOf, typeInfo, hi, hi0]
  ·cases hf
 ·cases hf
end
end Go.Proofs.YtkgdagjklakajaaGreatDoor
namespace Go.Proofs.YtkgdagjklakajaaGreatDoor
open Go.RowKit
variable {ro : Mode}
def bV (cs : List Value) (o : Nat) (vs : List Value) : List Value := cs.take o ++ vs ++ cs.drop (o + vs.length)
theorem eA {cs vs : List Value} {o : Nat} (h : o + vs.length ≤ cs.length) : (bV cs o vs).length = cs.length := by
 simp only [bV, List.length_append, List.length_take, List.length_drop]; omega
theorem nt (cs : List Value) (o : Nat) : bV cs o [] = cs := by simp [bV]
theorem l8 {cs vs : List Value} {o : Nat} {v : Value} (h : o + (v :: vs).length ≤ cs.length) : bV cs o (v :: vs) = bV (cs.set o v) (o + 1) vs := by
 simp only [List.length_cons] at h
 have h0 : cs.set o v = cs.take o ++ v :: cs.drop (o + 1) := by rw [List.set_eq_take_append_cons_drop, if_pos (by omega)]
 have h2 : (cs.take o).length = o := by simp; omega
 have h1 : (cs.set o v).take (o + 1) = cs.take o ++ [v] := by
  rw [h0, List.take_append, h2, List.take_of_length_le (by omega)]
  simp
 have h3 : (cs.set o v).drop (o + 1 + vs.length) = cs.drop (o + 1 + vs.length) := List.drop_set_of_lt (by omega)
 unfold bV
 rw [h1, h3]
 simp [Nat.add_assoc, Nat.add_comm 1]
theorem nY {a b c : World} {r : Option Nat} (h : a.grownBy b r) (k : b.grownBy c r) : a.grownBy c r :=
 ⟨k.os.trans h.os, k.tape.trans h.tape, k.output.trans h.output, Nat.le_trans h.size k.size, fun i hi hne => (k.block i (Nat.lt_of_lt_of_le hi h.size) hne).trans (h.block i hi hne)⟩
theorem rj (w : World) (b o : Nat) (v : Value) : w.grownBy (w.setCell ⟨b, o, none⟩ v) (some b) :=
 ⟨rfl, rfl, rfl, by simp [World.setCell], fun k _ hne => Below.heap_setCell w _ v k (fun e => hne (by rw [e]))⟩
section
variable {P : Program}
theorem e6 {b : Nat} {t : TypeId} {fz : Nat × Nat} (o : Nat) : ∀ (vs : List Value) (i : Nat) (cs : List Value) (w : World), w.heap[b]? = some (.cells cs.toArray t fz) → (cs.length ≤ fz.1 ∨ fz.2 ≤ fz.1) →
  o + i + vs.length ≤ cs.length → (∀ v ∈ vs, v.oneCell' = true) →
  ∃ w', (storeCells ⟨b, o, none⟩ vs i).run P w = .ok () w' ∧ w'.heap[b]? = some (.cells (bV cs (o + i) vs).toArray t fz) ∧ w.grownBy w' (some b) ∧ w'.heap.size = w.heap.size
 | [], i, cs, w, hw, _, _, _ => ⟨w, by simp [storeCells], by rw [nt]; exact hw, World.grownBy.refl _ _, rfl⟩
 | v :: vs, i, cs, w, hw, hf, hl, h1 => by
  simp only [List.length_cons] at hl
  have hoi : o + i < cs.length := by omega
  have hc : w.cell? ⟨b, o + i, none⟩ = some cs[o + i] := by
   rw [cell_of_row w b (o + i) _ t fz hw]
   simp [List.getElem?_eq_getElem hoi]
  have hfr : w.frozen? ⟨b, o + i, none⟩ = false := by
   simp only [World.frozen?, hw]
   rcases hf with hf | hf <;> simp <;> omega
  have hw2 : (w.setCell ⟨b, o + i, none⟩ v).heap[b]? = some (.cells (cs.set (o + i) v).toArray t fz) := by
   simp [World.setCell, Array.getElem?_modify, hw]
  obtain ⟨w', hr, hb', hg, hs⟩ := e6 (b := b) (t := t) (fz := fz) o vs (i + 1) (cs.set (o + i) v) _ hw2 (by simpa using hf) (by simp; omega) (fun u hu => h1 u (List.mem_cons_of_mem _ hu))
  refine ⟨w', ?_, ?_, nY (rj w b (o + i) v) hg, hs.trans (by simp [World.setCell])⟩
  ·simp only [storeCells, Sem.run_bind, eu, run_store P w ⟨b, o + i, none⟩ v .plain (h1 v (List.mem_cons_self)), hc, hfr]
   simpa using hr
  ·rw [l8 (by simp; omega)]
   exact hb'
end
def iy (pl : Nat → Option (Nat × Nat)) : List Value → List (Nat × Value) → Option (List Value)
 | cs, [] => some cs
 | cs, (i, v) :: r =>
  match pl i with
  | none => none
  | some (off, size) => if v.cells.toList.length ≠ size ∨ cs.length < off + v.cells.toList.length then none else iy pl (bV cs off v.cells.toList) r
theorem la : ∀ (vs : List Value) (k o : Nat) (cs : List Value), o + k + vs.length ≤ cs.length →
  (vs.zipIdx k).foldl (fun (cs : Array Value) (x : Value × Nat) => cs.setIfInBounds (o + x.2) x.1) cs.toArray = (bV cs (o + k) vs).toArray
 | [], k, o, cs, _ => by simp [nt]
 | v :: vs, k, o, cs, h => by
  rw [List.zipIdx_cons, List.foldl_cons]
  simp only [List.setIfInBounds_toArray]
  rw [la vs (k + 1) o (cs.set (o + k) v) (by simp at h ⊢; omega), l8 (by simp at h ⊢; omega)]
  rfl
theorem mA {pl : Nat → Option (Nat × Nat)} : ∀ (ps : List (Nat × Value)) (zs cs : List Value), iy pl zs ps = some cs → Instr.fill pl zs.toArray ps = some cs.toArray
 | [], zs, cs, h => by simp only [iy, Option.some.injEq] at h; subst h; rfl
 | (i, v) :: r, zs, cs, h => by
  unfold iy at h
  unfold Instr.fill
  split at h
  ·cases h
  ·rename_i off size hpl
   split at h
   ·cases h
   ·rename_i hc
    simp only [ne_eq, not_or, Decidable.not_not, Nat.not_lt] at hc
    simp only [hpl]
    have h1 : ¬ ((v.cells.size ≠ size || decide (off + v.cells.size > zs.toArray.size)) = true) := by
     have e : v.cells.size = v.cells.toList.length := by simp
     simp only [e, hc.1, List.size_toArray, Bool.or_eq_true, decide_eq_true_eq, ne_eq, not_true, decide_false, Bool.false_eq_true, false_or]
     omega
    rw [if_neg h1]
    have h2 : v.cells.zipIdx.foldl (fun (cs : Array Value) (x : Value × Nat) => cs.setIfInBounds (off + x.2) x.1) zs.toArray = (bV zs off v.cells.toList).toArray := by
     have := la v.cells.toList 0 off zs (by omega)
     rw [Nat.add_zero] at this
     rw [← this, ← Array.foldl_toList, Array.toList_zipIdx]
    exact (congrArg (fun x => Instr.fill pl x r) h2).trans (mA r _ cs h)
def fj : Nat → List Value → List Value
 | 0, _ => []
 | n + 1, zc => zc ++ fj n zc
theorem jn (n : Nat) (zc : List Value) : (fj n zc).length = n * zc.length := by
 induction n with
 | zero => simp [fj]
 | succ n ih => simp [fj, ih, Nat.add_mul, Nat.add_comm]
theorem pL : ∀ (n : Nat) (zc : List Value) (i : Nat), i < n * zc.length → (fj n zc)[i]? = zc[i % zc.length]?
 | 0, zc, i, h => by simp at h
 | n + 1, zc, i, h => by
  unfold fj
  rcases Nat.lt_or_ge i zc.length with hi | hi
  ·rw [List.getElem?_append_left hi, Nat.mod_eq_of_lt hi]
  ·rw [List.getElem?_append_right hi, pL n zc (i - zc.length) (by rw [Nat.add_mul] at h; omega)]
   congr 1
   rw [Nat.mod_eq_sub_mod hi]
theorem jy (n : Nat) (zc : List Value) : (Array.range (n * zc.length)).map (fun i => zc.toArray[i % zc.length]!) = (fj n zc).toArray := by
 apply Array.ext_getElem?
 intro i
 rcases Nat.lt_or_ge i (n * zc.length) with h | h
 ·have hpos : 0 < zc.length := by
   rcases Nat.eq_zero_or_pos zc.length with h0 | h0
   ·rw [h0] at h; omega
   ·exact h0
  have hm : i % zc.length < zc.length := Nat.mod_lt _ hpos
  simp [h, pL n zc i h, List.getElem?_eq_getElem hm]
 ·have h2 : (fj n zc).length ≤ i := by rw [jn]; exact h
  simp [h2, h]
def rQ (ρ : Rf) : List (Nat × Operand) → List (Nat × Value)
 | [] => []
 | (i, x) :: l => (i, ev ρ x) :: rQ ρ l
theorem p8 {ρ : Rf} (parts : Array (Nat × Operand)) {ps : List (Nat × Value)} (h : rQ ρ parts.toList = ps) : (parts.map fun (i, x) => (i, ev ρ x)) = ps.toArray := by
 have h1 : ∀ l : List (Nat × Operand), l.map (fun (i, x) => (i, ev ρ x)) = rQ ρ l := by
  intro l
  induction l with
  | nil => rfl
  | cons a l ih => simp only [List.map_cons, ih]; rfl
 subst h
 rw [← h1]
 apply Array.ext'
 simp
section
variable {P : Program} {N : Nat} {ops : Array Oper} {Q : Kq} {ρ : Rf} {w w0 : World} {rest : List Oper} {H : List HE} {d : Nat} {ty : TypeId} {pos : String} {af : Array Edge}
theorem nE {w' : World} {r : Option Nat} (h : Below w0.heap.size w0 w) (hg : w.grownBy w' r) (hr : ∀ k, r = some k → w0.heap.size ≤ k) : Below w0.heap.size w0 w' := h.grown hg h.size hr
theorem Hp.grown {w' : World} {x y : HE} {i : Nat} (h : Hp w0 H w) (hi : H[i]? = some x) (hg : w.grownBy w' x.id) (hid : y.id = x.id ∨ y.id = none ∨ y.id = some w.heap.size) (hy : y.holds w0.heap.size w') : Hp w0 (H.set i y) w' := by
 refine h.y9 hi (fun b hb => ?_) (nE h.below hg fun k hk => (ew (h.at_ hi) hk).1) (fun b hlt hne => hg.block b hlt (fun e => hne e.symm)) hy
 rcases hid with e | e | e
 ·exact .inl (by rw [← e]; exact hb)
 ·rw [e] at hb; cases hb
 ·rw [e] at hb
  injection hb with hb
  exact .inr (by omega)
theorem Hp.fE (h : Hp w0 H w) (t : TypeId) (sz : Nat) : Hp w0 (.row none 0 0 t sz [] :: H) w :=
 ⟨h.below, fun x hx => by
  rcases List.mem_cons.1 hx with rfl | hx
  ·exact World.ownsRow_nil _ _ _ _
  ·exact h.own x hx, by show (List.filterMap HE.id H).Nodup; exact h.nd⟩
theorem Hp.tt (h : Hp w0 H w) (t : TypeId) (cs : List Value) : Hp w0 (.blk w.heap.size t cs (0, 0) :: H) (w.alloc (.cells cs.toArray t)) :=
 h.a9 ((Below.refl _ _).alloc (Nat.le_refl _) _) ⟨Nat.le_refl _, heap_alloc_new w _, .inr (Nat.le_refl _)⟩
theorem Hp.uj (h : Hp w0 H w) (t : TypeId) (sz n : Nat) (cs : List Value) (hl : cs.length = n * sz) (hn : n ≤ maxLen) : Hp w0 (.row (some ⟨w.heap.size, 0, none⟩) n n t sz cs :: H) (w.alloc (.cells cs.toArray t)) :=
 h.a9 ((Below.refl _ _).alloc (Nat.le_refl _) _) ⟨hl, .inr ⟨w.heap.size, n, cs.toArray, rfl, Nat.le_refl _, heap_alloc_new w _, Nat.le_refl _, hn, by simpa using hl, by simp only [List.take_of_length_le (show cs.length ≤ n * sz by omega)]⟩⟩
theorem zH (hh : Hp w0 H w) {t : TypeId} {x : Operand} {cs : List Value} {v : Value} (hx : ev ρ x = v) (hc : v.cells = cs.toArray) (hN : d < N)
  (k : ∀ b w', Hp w0 (.blk b t cs (0, 0) :: H) w' → WL ro P N ops Q rest (cv ρ d (.pointer (some ⟨b, 0, none⟩))) w') : WL ro P N ops Q (⟨some d, .box t x, ty, pos, af, none⟩ :: rest) ρ w :=
 aY rfl rfl hN (w' := w.alloc (.cells cs.toArray t)) (v := .pointer (some ⟨w.heap.size, 0, none⟩)) (by simp [execOp, hx, Instr.box, newVar, newRow, hc]) (k _ _ (hh.tt t cs))
theorem vT (hh : Hp w0 H w) {t : TypeId} {n by' : Nat} {ag : Bool} {zc : List Value} (ht : cZ P t = some (n, ag, by', zc)) (hN : d < N)
  (k : ∀ b w', Hp w0 (.blk b t zc (0, 0) :: H) w' → WL ro P N ops Q rest (cv ρ d (.pointer (some ⟨b, 0, none⟩))) w') : WL ro P N ops Q (⟨some d, .alloc t, ty, pos, af, none⟩ :: rest) ρ w := by
 obtain ⟨z, hz, hzc⟩ := dz (w := w) ht
 exact aY rfl rfl hN (w' := w.alloc (.cells zc.toArray t)) (v := .pointer (some ⟨w.heap.size, 0, none⟩)) (by simp [execOp, Instr.alloc, newVar, newRow, hz, hzc]) (k _ _ (hh.tt t zc))
theorem xb (hh : Hp w0 H w) {t t' : TypeId} {x y : Operand} {i b o n by' : Nat} {ag : Bool} {zc cs vs : List Value} {fz : Nat × Nat} {v : Value} (hx : ev ρ x = .pointer (some ⟨b, o, none⟩)) (hi : H[i]? = some (.blk b t' cs fz))
  (hy : ev ρ y = v) (hc : v.cells = vs.toArray) (ht : cZ P t = some (n, ag, by', zc)) (hl : vs.length = n) (ho : o + n ≤ cs.length) (h1 : (vs.all Value.oneCell') = true)
  (k : ∀ w', Hp w0 (H.set i (.blk b t' (bV cs o vs) fz)) w' → WL ro P N ops Q rest ρ w') : WL ro P N ops Q (⟨none, .store t x y, ty, pos, af, none⟩ :: rest) ρ w := by
 have hb := hh.at_ hi
 obtain ⟨w', hr, hb', hg, hs⟩ := e6 (P := P) (b := b) (t := t') (fz := fz) o vs 0 cs w hb.2.1 hb.2.2 (by omega) (by simpa using h1)
 refine tD rfl rfl (w' := w') ?_ (k w' (hh.grown hi hg (.inl rfl) ⟨hb.1, by simpa using hb', by rw [eA (by omega)]; exact hb.2.2⟩))
 simp [execOp, hx, hy, Instr.storeAt, Instr.sureAddr, storeVar, eg ht, hl, hc, hr]
theorem br (hh : Hp w0 H w) {t t' : TypeId} {x y : Operand} {i b o n m c sz by' : Nat} {ag : Bool} {zc xs vs : List Value} {v : Value} (hx : ev ρ x = .pointer (some ⟨b, o, none⟩)) (hi : H[i]? = some (.row (some ⟨b, 0, none⟩) m c t' sz xs))
  (hy : ev ρ y = v) (hc : v.cells = vs.toArray) (ht : cZ P t = some (n, ag, by', zc)) (hl : vs.length = n) (ho : o + n ≤ xs.length) (h1 : (vs.all Value.oneCell') = true)
  (k : ∀ w', Hp w0 (H.set i (.row (some ⟨b, 0, none⟩) m c t' sz (bV xs o vs))) w' → WL ro P N ops Q rest ρ w') : WL ro P N ops Q (⟨none, .store t x y, ty, pos, af, none⟩ :: rest) ρ w := by
 have hrow := hh.at_ hi
 obtain ⟨hlen, h2⟩ := hrow
 rcases h2 with ⟨h2, _⟩ | ⟨g, cap, cur, hv, hg, hheap, hmc, hcm, hcur, htake⟩
 ·injection h2 with h2; cases h2
 ·injection hv with hA hn hcap
  injection hA with hA
  injection hA with hA
  subst hA; subst hcap
  have hcl : cur.size = cur.toList.length := by simp
  have hle : m * sz ≤ c * sz := Nat.mul_le_mul_right _ hmc
  obtain ⟨w', hr, hb', hgr, hs⟩ := e6 (P := P) (b := b) (t := t') (fz := (0, 0)) o vs 0 cur.toList w (by simpa using hheap) (.inr (Nat.le_refl _)) (by rw [← hcl]; omega) (by simpa using h1)
  refine tD rfl rfl (w' := w') ?_ (k w' (hh.grown hi hgr (.inl rfl) ⟨by rw [eA (by omega)]; exact hlen, .inr ⟨b, c, (bV cur.toList o vs).toArray, rfl, hg, by simpa using hb', hmc, hcm, ?_, ?_⟩⟩))
  ·simp [execOp, hx, hy, Instr.storeAt, Instr.sureAddr, storeVar, eg ht, hl, hc, hr]
  ·simp only [List.size_toArray]
   rw [eA (by rw [← hcl]; omega), ← hcl, hcur]
  ·simp only [bV]
   rw [← htake]
   have h5 : o + vs.length ≤ m * sz := by omega
   have h6 : m * sz ≤ cur.toList.length := by rw [← hcl, hcur]; exact hle
   rw [List.take_take, Nat.min_eq_left (by omega), List.drop_take, List.append_assoc, List.append_assoc, List.take_append, List.take_append]
   simp only [List.length_take, Nat.min_eq_left (show o ≤ cur.toList.length by omega)]
   rw [List.take_of_length_le (l := cur.toList.take o) (by simp; omega), List.take_of_length_le (l := vs) (by omega)]
   congr 2
   congr 1
   omega
theorem aO (hh : Hp w0 H w) {t e : TypeId} {len sz by' : Nat} {ag : Bool} {parts : Array (Nat × Operand)} {ps : List (Nat × Value)} {zc cs : List Value} (ht : P.underlying t = some (.slice e)) (hte : cZ P e = some (sz, ag, by', zc))
  (hp : rQ ρ parts.toList = ps) (hzl : zc.length = sz) (hf : iy (fun i => some (i * sz, sz)) (fj len zc) ps = some cs) (h0 : ¬ len * sz = 0) (hle : len ≤ 1000) (hsl : len * sz ≤ 16777216) (hl : cs.length = len * sz) (hN : d < N)
  (k : ∀ b w', Hp w0 (.row (some ⟨b, 0, none⟩) len len e sz cs :: H) w' → WL ro P N ops Q rest (cv ρ d (.slice (some ⟨b, 0, none⟩) len len)) w') : WL ro P N ops Q (⟨some d, .buildSlice t len parts, ty, pos, af, none⟩ :: rest) ρ w := by
 obtain ⟨z, hz, hzc⟩ := dz (w := w) hte
 refine aY rfl rfl hN (w' := w.alloc (.cells cs.toArray e)) (v := .slice (some ⟨w.heap.size, 0, none⟩) len len) ?_ (k _ _ (hh.uj e sz len cs hl (by unfold maxLen; omega)))
 have h16 : ¬ 2 ^ 24 < len * sz := by omega
 have hf' := mA _ _ _ hf
 rw [← jy, hzl] at hf'
 have hzs : zc.toArray.size = sz := by simpa using hzl
 have hp' := p8 parts hp
 simp only [execOp, hp', Instr.buildSlice, Sem.run_bind, run_underlying ht, Result.andThen_ok, eg hte, gt_iff_lt, if_neg h16, if_neg h0, hz, hzc, Sem.run_pure, hzs, hf']
 simp [newRow]
def kG (P : Program) (t : TypeId) : Option (List (Nat × Nat)) :=
 match P.underlying t with
 | some (.struct fs) => fs.toList.mapM fun f => (P.info? f.type).map fun i => (f.offset, i.size)
 | _ => none
theorem nk {P : Program} {w : World} : ∀ (l : List Field) (pl : List (Nat × Nat)), (l.mapM fun f => (P.info? f.type).map fun i => (f.offset, i.size)) = some pl →
  (l.mapM (m := Sem) fun f => do pure (f.offset, ← sizeOf f.type)).run P w = .ok pl w
 | [], pl, h => by
  simp at h; subst h; simp
 | f :: l, pl, h => by
  rw [List.mapM_cons] at h
  cases hi : P.info? f.type with
  | none => simp [hi] at h
  | some i =>
   cases hr : l.mapM (fun f => (P.info? f.type).map fun i => (f.offset, i.size)) with
   | none => simp [hr] at h
   | some pl' =>
    simp [hi, hr] at h
    have ih := nk (w := w) l pl' hr
    have hs : (sizeOf f.type).run P w = .ok i.size w := by simp [sizeOf, typeInfo, hi]
    rw [List.mapM_cons, Sem.run_bind, Sem.run_bind, hs, Result.andThen_ok, Sem.run_pure, Result.andThen_ok, Sem.run_bind, ih, Result.andThen_ok, Sem.run_pure, h]
theorem pH {dd : Option Nat} {g : Option (Nat × Bool)} {t : TypeId} {n by' : Nat} {parts : Array (Nat × Operand)} {ps : List (Nat × Value)} {zc cs : List Value} {pl : List (Nat × Nat)} (hte : cZ P t = some (n, true, by', zc))
  (hpl : kG P t = some pl)
  (hp : rQ ρ parts.toList = ps) (hf : iy (pl[·]?) zc ps = some cs) :
  (execOp (ev ρ) ⟨dd, .build t parts, ty, pos, af, g⟩).run P w = .ok (.value (.agg cs.toArray)) w := by
 obtain ⟨z, hz, hzc⟩ := dz (w := w) hte
 unfold kG at hpl
 split at hpl
 ·rename_i fs hfs
  have h1 := nk (w := w) _ _ hpl
  have h2 : (fs.mapM (m := Sem) fun f => do pure (f.offset, ← sizeOf f.type)).run P w = .ok pl.toArray w := by
   have e : fs = fs.toList.toArray := by simp
   rw [e, List.mapM_toArray, Sem.run_map, h1]
   rfl
  have hf' := mA _ _ _ hf
  have hpp : (fun (x : Nat) => pl.toArray[x]?) = fun x => pl[x]? := by funext x; simp
  have hp' := p8 parts hp
  simp only [execOp, hp', Instr.build, Sem.run_bind, hz, Result.andThen_ok, run_underlying hfs, h2, hzc, hpp, hf', Sem.run_pure]
 ·cases hpl
end
end Go.Proofs.YtkgdagjklakajaaGreatDoor
namespace Go.Proofs.YtkgdagjklakajaaGreatDoor
open Go.RowKit
variable {ro : Mode}
theorem fI (A : Option Addr) (n c : Nat) : (Value.slice A n c).ownBlock = A.map (·.block) := by cases A <;> rfl
theorem rr (n : Nat) (z : Value) : fj n [z] = List.replicate n z := by
 induction n with
 | zero => rfl
 | succ n ih => simp [fj, ih, List.replicate_succ]
theorem gE {w : World} {ad : Addr} {xs : List Value} {m : Int} {k : Nat} {v : Value} (h : Rd w ad xs) (hx : xs[k]? = some v) (hm : m = (k : Int)) : w.cell? (ad.add (m.toNat * 1)) = some v := by
 subst hm
 simpa using h k v hx
def j6 (l : List UInt8) : List Value := l.map fun c => .int .u8 c.toNat
theorem mF (l : List UInt8) : (j6 l).length = l.length := by simp [j6]
section
variable {P : Program} {w : World}
theorem kv (base : Nat) (t ty e : TypeId) (i : TypeInfo) (ht : P.underlying t = some (.slice e)) (hi : P.info? e = some i)
  (v : Value) (n : Nat) (xs : List Value) (sz : Nat) (hown : w.ownsRow base e sz v n xs) (c : Nat) : (Builtin.append_ #[t, t] ty #[v, .slice none 0 c]).run P w = .ok v w := by
 rcases hown.2 with ⟨rfl, rfl⟩ | ⟨g, cap, cur, rfl, _, _, hnc, _⟩
 ·simp [Builtin.append_, run_underlying ht, sizeOf, typeInfo, hi, Builtin.lenOf, Builtin.firstCells]
 ·simp [Builtin.append_, run_underlying ht, sizeOf, typeInfo, hi, Builtin.lenOf, Builtin.firstCells, hnc, storeCells]
theorem nX (base : Nat) (t ty e : TypeId) (sz by' : Nat) (ag : Bool) (zc : List Value) (ht : P.underlying t = some (.slice e)) (hte : cZ P e = some (sz, ag, by', zc)) (hzl : zc.length = sz) (hsz : 0 < sz)
  (A : Option Addr) (n c : Nat) (xs : List Value) (hown : w.ownsRow base e sz (.slice A n c) n xs) (B : Option Addr) (m c' : Nat) (news : List Value) (hsl : Sl w B m sz news) (h1 : ∀ u ∈ news, u.oneCell' = true)
  (h63 : n + m ≤ maxLen) (hbytes : (n + m) * by' ≤ 140737488355328) (hbase : base ≤ w.heap.size) :
  ∃ A' c2 w', (Builtin.append_ #[t, t] ty #[.slice A n c, .slice B m c']).run P w = .ok (.slice A' (n + m) c2) w' ∧ w'.ownsRow base e sz (.slice A' (n + m) c2) (n + m) (xs ++ news) ∧
   w.grownBy w' (A.map (·.block)) ∧ (A'.map (·.block) = A.map (·.block) ∨ A'.map (·.block) = none ∨ A'.map (·.block) = some w.heap.size) := by
 obtain ⟨i, z, d, hi, hd, hz, hs, hby, hzc, _⟩ := ej hte
 have hzs : z.cells.size = sz := by rw [hzc]; simpa using hzl
 have fin : ∀ (ad : Addr), B = some ad → Rd w ad news → ∃ A' c2 w', (Builtin.append_ #[t, t] ty #[.slice A n c, .slice B m c']).run P w = .ok (.slice A' (n + m) c2) w' ∧ w'.ownsRow base e sz (.slice A' (n + m) c2) (n + m) (xs ++ news) ∧
   w.grownBy w' (A.map (·.block)) ∧ (A'.map (·.block) = A.map (·.block) ∨ A'.map (·.block) = none ∨ A'.map (·.block) = some w.heap.size) := by
  rintro ad rfl hr
  obtain ⟨v', w', hrun, h2, h3, _, h5⟩ := run_append_own_at (P := P) w base t ty e i z sz by' ht hi hz hs hby hzs hsz (.slice A n c) n xs hown ad m c' news hsl.1 hr h1 h63 hbytes hbase
  rw [fI] at h3
  rcases h2.2 with ⟨hv, h0⟩ | ⟨g, cap, cur, hv, r⟩
  ·subst hv
   refine ⟨none, 0, w', by rw [hrun, h0], by rw [h0]; exact h0 ▸ h2, h3, .inr (.inl rfl)⟩
  ·subst hv
   refine ⟨_, _, w', hrun, h2, h3, ?_⟩
   rcases h5 with h5 | h5
   ·exact .inl (by rw [← fI _ (n + m) cap, h5, fI])
   ·exact .inr (.inr (by rw [← fI _ (n + m) cap, h5]))
 rcases Nat.eq_zero_or_pos m with h0 | h0
 ·subst h0
  have hnews : news = [] := List.eq_nil_of_length_eq_zero (by simpa using hsl.1)
  subst hnews
  cases B with
  | none => exact ⟨A, c, w, kv base t ty e i ht hi _ n xs sz hown c', by simpa using hown, World.grownBy.refl _ _, .inl rfl⟩
  | some ad => exact fin ad rfl (fun j u hu => by simp at hu)
 ·obtain ⟨ad, hB, hr⟩ := hsl.2 h0
  exact fin ad hB hr
theorem n9 {A : Option Addr} {n c : Nat} {l : List UInt8} (h : Sl w A n 1 (j6 l)) : (Conv.bytesToString (.slice A n c)).run P w = .ok (.string ⟨l.toArray⟩) w := by
 have hn : l.length = n := by have := h.1; rw [mF] at this; omega
 cases A with
 | none =>
  have h0 : n = 0 := by
   rcases Nat.eq_zero_or_pos n with h0 | h0
   ·exact h0
   ·obtain ⟨ad, h1, _⟩ := h.2 h0; cases h1
  have : l = [] := List.eq_nil_of_length_eq_zero (by omega)
  subst this
  simp [Conv.bytesToString, ByteArray.empty, ByteArray.emptyWithCapacity]
  rfl
 | some a =>
  have hr : Rd w a (j6 l) := by
   rcases Nat.eq_zero_or_pos n with h0 | h0
   ·have : l = [] := List.eq_nil_of_length_eq_zero (by omega)
    subst this
    intro j u hu; simp [j6] at hu
   ·obtain ⟨ad, h1, h2⟩ := h.2 h0
    injection h1 with h1; subst h1; exact h2
  have e1 : j6 l = (l.map fun c : UInt8 => (c.toNat : Int)).map (Value.int .u8) := by simp [j6]
  have hld := run_loadCells_list (P := P) w a (j6 l) hr
  rw [mF, hn, e1] at hld
  rw [run_bytesToString w a n c _ hld]
  congr 2
  have : ∀ (l : List UInt8) (s : ByteArray), (l.map fun c : UInt8 => (c.toNat : Int)).foldl (fun r n => r.push (UInt8.ofNat n.toNat)) s = ⟨s.data ++ l.toArray⟩ := by
   intro l
   induction l with
   | nil => intro s; simp
   | cons c l ih =>
    intro s
    simp only [List.map_cons, List.foldl_cons]
    rw [ih]
    have : (s.push (UInt8.ofNat ((c.toNat : Int)).toNat)).data = s.data.push c := by simp [ByteArray.push]
    rw [this]
    congr 1
    apply Array.ext'
    simp
  rw [this]
  congr 1
  apply Array.ext'
  simp [ByteArray.empty, ByteArray.emptyWithCapacity]
  rfl
end
section
variable {P : Program} {N : Nat} {ops : Array Oper} {Q : Kq} {ρ : Rf} {w w0 : World} {rest : List Oper} {H : List HE} {d : Nat} {ty : TypeId} {pos : String} {af : Array Edge}
theorem cO (hh : Hp w0 H w) {t e : TypeId} {s x : Operand} {i n c m c' sz by' : Nat} {ag : Bool} {A B : Option Addr} {zc xs news : List Value} (hi : H[i]? = some (.row A n c e sz xs)) (hs : ev ρ s = .slice A n c) (hx : ev ρ x = .slice B m c')
  (hsl : Sl w B m sz news) (ht : P.underlying t = some (.slice e)) (hte : cZ P e = some (sz, ag, by', zc)) (hzl : zc.length = sz) (hsz : 0 < sz) (h1 : (news.all Value.oneCell') = true)
  (h63 : n + m ≤ 9223372036854775807) (hbytes : (n + m) * by' ≤ 140737488355328) (hN : d < N)
  (k : ∀ A' c2 w', Hp w0 (H.set i (.row A' (n + m) c2 e sz (xs ++ news))) w' → WL ro P N ops Q rest (cv ρ d (.slice A' (n + m) c2)) w') :
  WL ro P N ops Q (⟨some d, .call ⟨.builtin .append, #[s, x], #[t, t]⟩, ty, pos, af, none⟩ :: rest) ρ w := by
 obtain ⟨A', c2, w', hr, hown, hg, hid⟩ := nX (P := P) w0.heap.size t ty e sz by' ag zc ht hte hzl hsz A n c xs (hh.at_ hi) B m c' news hsl (by simpa using h1) (by unfold maxLen; omega) hbytes hh.size
 refine aY rfl rfl hN (w' := w') (v := .slice A' (n + m) c2) ?_ (k A' c2 w' (hh.grown hi hg hid hown))
 simp only [execOp, resolve, invoke, builtin, Sem.run_bind, Sem.run_pure, Result.andThen_ok, List.map_toArray, List.map_cons, List.map_nil, hs, hx, hr]
theorem fH (hh : Hp w0 H w) {t e : TypeId} {l cp : Operand} {kl kc : IntKind} {L C : Int} {n sz by' : Nat} {ag : Bool} {zc : List Value} (hl : ev ρ l = .int kl L) (hc : ev ρ cp = .int kc C) (hL : L = (n : Int)) (hC : C = (n : Int))
  (ht : P.underlying t = some (.slice e)) (hte : cZ P e = some (sz, ag, by', zc)) (hzl : zc.length = sz) (hb : by' * n ≤ 281474976710656) (h63 : n ≤ 9223372036854775807) (hN : d < N)
  (k : ∀ b w', Hp w0 (.row (some ⟨b, 0, none⟩) n n e sz (fj n zc) :: H) w' → WL ro P N ops Q rest (cv ρ d (.slice (some ⟨b, 0, none⟩) n n)) w') :
  WL ro P N ops Q (⟨some d, .makeSlice t l cp, ty, pos, af, none⟩ :: rest) ρ w := by
 obtain ⟨i, z, dd, hi, hd, hz, hs, hby, hzc, _⟩ := ej hte
 subst hL; subst hC
 obtain ⟨w', hr, hown, hg⟩ := run_make_full (P := P) w w.heap.size t e i z sz ht hi hz hs kl kc n (by rw [hby]; exact hb) (by unfold maxLen; omega) (Nat.le_refl _)
 have hzz : (madeCells z.cells (n * sz)).toList = fj n zc := by
  have := jy n zc
  rw [hzl] at this
  unfold madeCells
  rw [hzc]
  have e2 : zc.toArray.size = sz := by simpa using hzl
  rw [e2, this]
 rw [hzz] at hown
 refine aY rfl rfl hN (w' := w') (v := .slice (some ⟨w.heap.size, 0, none⟩) n n) ?_ (k _ w' (hh.a9 ⟨hg.os, hg.tape, hg.output, hg.size, fun j hj => hg.block j hj (by simp)⟩ hown))
 simp [execOp, hl, hc, hr]
theorem m5 (hh : Hp w0 H w) {t e : TypeId} {sz by' : Nat} {ag : Bool} {zc : List Value} (ht : P.underlying t = some (.slice e)) (hte : cZ P e = some (sz, ag, by', zc)) (hN : d < N)
  (k : ∀ b w', Hp w0 (.row (some ⟨b, 0, none⟩) 0 0 e sz [] :: H) w' → WL ro P N ops Q rest (cv ρ d (.slice (some ⟨b, 0, none⟩) 0 0)) w') : WL ro P N ops Q (⟨some d, .buildSlice t 0 #[], ty, pos, af, none⟩ :: rest) ρ w := by
 refine aY rfl rfl hN (w' := w.alloc (.cells #[] e)) (v := .slice (some ⟨w.heap.size, 0, none⟩) 0 0) ?_ (k _ _ (hh.uj e sz 0 [] (by simp) (by unfold maxLen; omega)))
 have e0 : Array.range 0 = #[] := rfl
 simp [execOp, Instr.buildSlice, run_underlying ht, eg hte, Instr.fill, newRow, e0]
theorem jt {dd : Option Nat} {g : Option (Nat × Bool)} {s t e : TypeId} {x : Operand} {A : Option Addr} {n c : Nat} {l : List UInt8} (hs : P.underlying s = some (.slice e)) (he : P.underlying e = some (.int .u8)) (ht : P.underlying t = some .string)
  (hx : ev ρ x = .slice A n c) (h : Sl w A n 1 (j6 l)) : (execOp (ev ρ) ⟨dd, .convert s t x, ty, pos, af, g⟩).run P w = .ok (.value (.string ⟨l.toArray⟩)) w := by
 simp [execOp, hx, run_convert_bytes_string w s t e A n c hs he ht, n9 h]
theorem pz (hh : Hp w0 H w) {t : TypeId} {x : Operand} {s : ByteArray} (ht : P.underlying t = some .string) (hx : ev ρ x = .string s) (hN : d < N)
  (k : ∀ b w', Hp w0 (.it b s 0 :: H) w' → WL ro P N ops Q rest (cv ρ d (.pointer (some ⟨b, 0, none⟩))) w') : WL ro P N ops Q (⟨some d, .range t x, ty, pos, af, none⟩ :: rest) ρ w := by
 refine aY rfl rfl hN (w' := w.alloc (.stringIter s 0)) (v := .pointer (some ⟨w.heap.size, 0, none⟩)) (by simp [execOp, hx, Instr.range, run_underlying ht]) (k _ _ (hh.a9 ((Below.refl _ _).alloc (Nat.le_refl _) _) ⟨Nat.le_refl _, heap_alloc_new w _⟩))
theorem qi (hh : Hp w0 H w) {x : Operand} {i b p : Nat} {s : ByteArray} (hi : H[i]? = some (.it b s p)) (hx : ev ρ x = .pointer (some ⟨b, 0, none⟩)) (hp : ¬ p < s.size) (hN : d < N)
  (k : WL ro P N ops Q rest (cv ρ d (.tuple #[.bool false])) w) : WL ro P N ops Q (⟨some d, .next x true, ty, pos, af, none⟩ :: rest) ρ w := by
 have h1 := (hh.at_ hi).2
 refine aY rfl rfl hN (w' := w) (v := .tuple #[.bool false]) ?_ k
 simp [execOp, hx, Instr.next, getObj, Sem.run, h1, hp]
theorem pM (hh : Hp w0 H w) {x : Operand} {i b p : Nat} {s : ByteArray} {c : UInt8} (hi : H[i]? = some (.it b s p)) (hx : ev ρ x = .pointer (some ⟨b, 0, none⟩)) (hc : s.data.toList[p]? = some c) (h128 : c.toNat < 128) (hN : d < N)
  (k : ∀ w', Hp w0 (H.set i (.it b s (p + 1))) w' → WL ro P N ops Q rest (cv ρ d (.tuple #[.bool true, .int .i64 p, .int .i32 c.toNat])) w') : WL ro P N ops Q (⟨some d, .next x true, ty, pos, af, none⟩ :: rest) ρ w := by
 have h1 := (hh.at_ hi).2
 obtain ⟨hlt, hcc⟩ := List.getElem?_eq_some_iff.1 hc
 have hlt' : p < s.size := by simpa using hlt
 have hget : s.get! p = c := by
  have : s.get! p = s.data[p]! := rfl
  rw [this, getElem!_pos s.data p hlt']
  simpa using hcc
 have hdec : Utf8.decode s p = (c.toNat, 1) := by
  unfold Utf8.decode
  simp only [Nat.add_zero, hget]
  rw [if_pos h128]
 let w' : World := { w with heap := w.heap.setIfInBounds b (.stringIter s (p + 1)) }
 have hb := ew (hh.at_ hi) (b := b) rfl
 have hg : w.grownBy w' (some b) := ⟨rfl, rfl, rfl, by simp [w'], fun k _ hne => by
  show (w.heap.setIfInBounds b _)[k]? = _
  rw [Array.getElem?_setIfInBounds_ne (fun e => hne (by rw [e]))]⟩
 refine aY rfl rfl hN (w' := w') (v := .tuple #[.bool true, .int .i64 p, .int .i32 c.toNat]) ?_ (k w' (hh.grown hi hg (.inl rfl) ⟨hb.1, ?_⟩))
 ·simp [execOp, hx, Instr.next, getObj, setObj, Sem.run, h1, hlt', hdec, goInt, w']
 ·show (w.heap.setIfInBounds b _)[b]? = _
  simp [hb.2]
end
end Go.Proofs.YtkgdagjklakajaaGreatDoor
namespace Go.Proofs.YtkgdagjklakajaaGreatDoor
open Go.RowKit
class UK (k : IntKind) (b : outParam Nat) (M : outParam Nat) : Prop where
 bits : k.bits = b
 sgn : k.signed = false
 pow : 2 ^ b = M
instance : UK .u8 8 256 := ⟨rfl, rfl, rfl⟩
instance : UK .u16 16 65536 := ⟨rfl, rfl, rfl⟩
instance : UK .u32 32 4294967296 := ⟨rfl, rfl, rfl⟩
instance : UK .u64 64 18446744073709551616 := ⟨rfl, rfl, rfl⟩
theorem UK.wrap {k : IntKind} {b M : Nat} [h : UK k b M] (n : Nat) : k.wrap (n : Int) = ((n % M : Nat) : Int) := by
 unfold IntKind.wrap
 have hM : (2 : Int) ^ k.bits = (M : Int) := by rw [h.bits, ← h.pow]; simp
 simp only [h.sgn, hM, Bool.false_and]
 simp
theorem UK.kZ {k : IntKind} {b M : Nat} [UK k b M] {n : Nat} (hn : n < M) : k.wrap (n : Int) = (n : Int) := by rw [UK.wrap, Nat.mod_eq_of_lt hn]
theorem UK.wrap_add {k : IntKind} {b M : Nat} [h : UK k b M] (z : Int) : k.wrap (z + M) = k.wrap z := by
 unfold IntKind.wrap
 have hM : (2 : Int) ^ k.bits = (M : Int) := by rw [h.bits, ← h.pow]; simp
 simp [hM]
section
variable {P : Program} {ρ : Rf} {w : World} {d : Option Nat} {ty : TypeId} {pos : String} {af : Array Edge} {g : Option (Nat × Bool)}
section unats
variable {t u : TypeId} {x y : Operand} {k : IntKind} {q M : Nat} {a b : Nat}
theorem zD [UK k q M] (hx : ev ρ x = .int k (a : Int)) (hy : ev ρ y = .int k (b : Int)) : (execOp (ev ρ) ⟨d, .binOp .add t x y u, ty, pos, af, g⟩).run P w = .ok (.value (.int k (((a + b) % M : Nat) : Int))) w := by
 rw [yP hx hy, ← Int.natCast_add, UK.wrap]
theorem zp [UK k q M] (hx : ev ρ x = .int k (a : Int)) (hy : ev ρ y = .int k (b : Int)) (hb : b ≤ M) : (execOp (ev ρ) ⟨d, .binOp .sub t x y u, ty, pos, af, g⟩).run P w = .ok (.value (.int k (((a + M - b) % M : Nat) : Int))) w := by
 rw [y6 hx hy, ← UK.wrap (k := k)]
 have h : ((a + M - b : Nat) : Int) = (a : Int) - b + M := by omega
 rw [h, UK.wrap_add]
theorem zb [UK k q M] (hx : ev ρ x = .int k (a : Int)) (hy : ev ρ y = .int k (b : Int)) : (execOp (ev ρ) ⟨d, .binOp .mul t x y u, ty, pos, af, g⟩).run P w = .ok (.value (.int k (((a * b) % M : Nat) : Int))) w := by
 rw [yU hx hy, ← Int.natCast_mul, UK.wrap]
theorem zt [UK k q M] (hx : ev ρ x = .int k (a : Int)) (hy : ev ρ y = .int k (b : Int)) (hb : 0 < b) (ha : a < M) : (execOp (ev ρ) ⟨d, .binOp .quo t x y u, ty, pos, af, g⟩).run P w = .ok (.value (.int k ((a / b : Nat) : Int))) w := by
 rw [y2 hx hy (by omega), ← Int.ofNat_tdiv, UK.kZ (Nat.lt_of_le_of_lt (Nat.div_le_self _ _) ha)]
theorem zL (hx : ev ρ x = .int k (a : Int)) (hy : ev ρ y = .int k (b : Int)) (hb : 0 < b) : (execOp (ev ρ) ⟨d, .binOp .rem t x y u, ty, pos, af, g⟩).run P w = .ok (.value (.int k ((a % b : Nat) : Int))) w := by
 rw [yO hx hy (by omega), ← Int.ofNat_tmod]
theorem jU (n : Nat) (a : Nat) : BitVec.ofInt n (a : Int) = BitVec.ofNat n a := by simp
theorem zW [h : UK k q M] (hx : ev ρ x = .int k (a : Int)) (hy : ev ρ y = .int k (b : Int)) (ha : a < M) (hb : b < M) : (execOp (ev ρ) ⟨d, .binOp .or t x y u, ty, pos, af, g⟩).run P w = .ok (.value (.int k ((a ||| b : Nat) : Int))) w := by
 rw [AA hx hy, jU, jU, BitVec.toNat_or, BitVec.toNat_ofNat, BitVec.toNat_ofNat, h.bits, h.pow, Nat.mod_eq_of_lt ha, Nat.mod_eq_of_lt hb, UK.kZ]
 rw [← h.pow] at ha hb ⊢
 exact Nat.or_lt_two_pow ha hb
theorem zF [h : UK k q M] (hx : ev ρ x = .int k (a : Int)) (hy : ev ρ y = .int k (b : Int)) (ha : a < M) (hb : b < M) : (execOp (ev ρ) ⟨d, .binOp .and t x y u, ty, pos, af, g⟩).run P w = .ok (.value (.int k ((a &&& b : Nat) : Int))) w := by
 rw [Ap hx hy, jU, jU, BitVec.toNat_and, BitVec.toNat_ofNat, BitVec.toNat_ofNat, h.bits, h.pow, Nat.mod_eq_of_lt ha, Nat.mod_eq_of_lt hb, UK.kZ]
 exact Nat.lt_of_le_of_lt Nat.and_le_left ha
theorem pT [h : UK k q M] {k' : IntKind} {s : Int} (hx : ev ρ x = .int k (a : Int)) (hy : ev ρ y = .int k' s) (hs : 0 ≤ s ∧ s ≤ q) : (execOp (ev ρ) ⟨d, .binOp .shl t x y u, ty, pos, af, g⟩).run P w = .ok (.value (.int k (((a * 2 ^ s.toNat) % M : Nat) : Int))) w := by
 have e : (a : Int) * 2 ^ (min s.toNat k.bits) = ((a * 2 ^ s.toNat : Nat) : Int) := by
  rw [h.bits, Nat.min_eq_left (by omega), Int.natCast_mul, Int.natCast_pow]; rfl
 rw [zV hx hy hs.1, e, UK.wrap]
theorem rU [h : UK k q M] {k' : IntKind} {s : Int} (hx : ev ρ x = .int k (a : Int)) (hy : ev ρ y = .int k' s) (hs : 0 ≤ s ∧ s ≤ q) : (execOp (ev ρ) ⟨d, .binOp .shr t x y u, ty, pos, af, g⟩).run P w = .ok (.value (.int k ((a / 2 ^ s.toNat : Nat) : Int))) w := by
 rw [Aj hx hy hs.1, h.bits, Nat.min_eq_left (by omega), Int.fdiv_eq_ediv_of_nonneg _ (Int.le_of_lt (Int.pow_pos (by omega)))]
 simp
theorem xK [UK k q M] {k' : IntKind} {s m : Nat} (hx : ev ρ x = .int k (a : Int)) (hy : ev ρ y = .int k' (s : Int)) (hs : s ≤ q) (hm : 2 ^ s = m) : (execOp (ev ρ) ⟨d, .binOp .shr t x y u, ty, pos, af, g⟩).run P w = .ok (.value (.int k ((a / m : Nat) : Int))) w := by
 rw [rU hx hy (by omega), ← hm]; rfl
theorem zl [h : UK k q M] (hx : ev ρ x = .int k (a : Int)) (ha : a ≤ M) : (execOp (ev ρ) ⟨d, .unOp .neg t x, ty, pos, af, g⟩).run P w = .ok (.value (.int k (((M - a) % M : Nat) : Int))) w := by
 rw [y5 hx, ← UK.wrap (k := k)]
 have e : ((M - a : Nat) : Int) = -(a : Int) + M := by omega
 rw [e, UK.wrap_add]
theorem tS [UK k q M] {s t : TypeId} {k' : IntKind} {sd : TypeDesc} (hs : P.underlying s = some sd) (ht : P.underlying t = some (.int k)) (hx : ev ρ x = .int k' (a : Int)) :
  (execOp (ev ρ) ⟨d, .convert s t x, ty, pos, af, g⟩).run P w = .ok (.value (.int k ((a % M : Nat) : Int))) w := by
 rw [iQ hs ht hx, UK.wrap]
theorem nv [UK k q M] {s t : TypeId} {k' : IntKind} {sd : TypeDesc} (hs : P.underlying s = some sd) (ht : P.underlying t = some (.int k)) (hx : ev ρ x = .int k' (a : Int)) (ha : a < M) :
  (execOp (ev ρ) ⟨d, .convert s t x, ty, pos, af, g⟩).run P w = .ok (.value (.int k (a : Int))) w := by
 rw [iQ hs ht hx, UK.kZ ha]
end unats
section ints
variable {t u : TypeId} {x y : Operand} {k : IntKind} {a b : Int}
theorem yw (hx : ev ρ x = .int k a) (hy : ev ρ y = .int k b) : (execOp (ev ρ) ⟨d, .binOp .lss t x y u, ty, pos, af, g⟩).run P w = .ok (.value (.bool (decide (a < b)))) w := by
 by_cases h : a < b
 ·rw [xq hx hy h, decide_eq_true h]
 ·rw [yA hx hy h, decide_eq_false h]
theorem yn (hx : ev ρ x = .int k a) (hy : ev ρ y = .int k b) : (execOp (ev ρ) ⟨d, .binOp .leq t x y u, ty, pos, af, g⟩).run P w = .ok (.value (.bool (decide (a ≤ b)))) w := by
 by_cases h : a ≤ b
 ·rw [xI hx hy h, decide_eq_true h]
 ·rw [yG hx hy h, decide_eq_false h]
theorem ur (hx : ev ρ x = .int k a) (hy : ev ρ y = .int k b) : (execOp (ev ρ) ⟨d, .binOp .gtr t x y u, ty, pos, af, g⟩).run P w = .ok (.value (.bool (decide (b < a)))) w := by
 by_cases h : b < a
 ·rw [yE hx hy h, decide_eq_true h]
 ·rw [xU hx hy h, decide_eq_false h]
theorem xN (hx : ev ρ x = .int k a) (hy : ev ρ y = .int k b) : (execOp (ev ρ) ⟨d, .binOp .geq t x y u, ty, pos, af, g⟩).run P w = .ok (.value (.bool (decide (b ≤ a)))) w := by
 by_cases h : b ≤ a
 ·rw [xM hx hy h, decide_eq_true h]
 ·rw [yc hx hy h, decide_eq_false h]
theorem yB (hx : ev ρ x = .int k a) (hy : ev ρ y = .int k b) : (execOp (ev ρ) ⟨d, .binOp .neq t x y u, ty, pos, af, g⟩).run P w = .ok (.value (.bool (decide (a ≠ b)))) w := by
 by_cases h : a = b
 ·rw [yJ hx hy h, decide_eq_false (by simpa using h)]
 ·rw [xY hx hy h, decide_eq_true h]
end ints
section bools
variable {t u : TypeId} {x y : Operand} {a b : Bool}
theorem xP (ht : P.underlying t = some .bool) (hx : ev ρ x = .bool a) (hy : ev ρ y = .bool b) (h : a = b) : (execOp (ev ρ) ⟨d, .binOp .eql t x y u, ty, pos, af, g⟩).run P w = .ok (.value (.bool true)) w := by
 rw [m3 ht hx hy, h, beq_self_eq_true]
theorem xt (ht : P.underlying t = some .bool) (hx : ev ρ x = .bool a) (hy : ev ρ y = .bool b) (h : ¬ a = b) : (execOp (ev ρ) ⟨d, .binOp .eql t x y u, ty, pos, af, g⟩).run P w = .ok (.value (.bool false)) w := by
 rw [m3 ht hx hy, beq_false_of_ne h]
theorem tm (ht : P.underlying t = some .bool) (hx : ev ρ x = .bool a) (hy : ev ρ y = .bool b) (h : ¬ a = b) : (execOp (ev ρ) ⟨d, .binOp .neq t x y u, ty, pos, af, g⟩).run P w = .ok (.value (.bool true)) w := by
 rw [kd ht hx hy, bne, beq_false_of_ne h]; rfl
theorem ui (ht : P.underlying t = some .bool) (hx : ev ρ x = .bool a) (hy : ev ρ y = .bool b) (h : a = b) : (execOp (ev ρ) ⟨d, .binOp .neq t x y u, ty, pos, af, g⟩).run P w = .ok (.value (.bool false)) w := by
 rw [kd ht hx hy, bne, h, beq_self_eq_true]; rfl
end bools
theorem eC {t e : TypeId} {x i : Operand} {ad : Addr} {n c sz k : Nat} {kk : IntKind} {m : Int} (ht : P.underlying t = some (.slice e)) (hsz : (P.info? e).map (·.size) = some sz) (hx : ev ρ x = .slice (some ad) n c) (hi : ev ρ i = .int kk m)
  (hm : m = (k : Int)) (h1 : k < n) : (execOp (ev ρ) ⟨d, .indexAddr t x i, ty, pos, af, g⟩).run P w = .ok (.value (.pointer (some (ad.add (k * sz))))) w := by
 rw [dv ht hsz hx hi (by omega) (by omega), hm]; rfl
theorem sf {t e : TypeId} {x i : Operand} {b o n c sz k : Nat} {kk : IntKind} {m : Int} (ht : P.underlying t = some (.slice e)) (hsz : (P.info? e).map (·.size) = some sz) (hx : ev ρ x = .slice (some ⟨b, o, none⟩) n c) (hi : ev ρ i = .int kk m)
  (hm : m = (k : Int)) (h1 : k < n) : (execOp (ev ρ) ⟨d, .indexAddr t x i, ty, pos, af, g⟩).run P w = .ok (.value (.pointer (some ⟨b, o + k * sz, none⟩))) w := by
 rw [dv ht hsz hx hi (by omega) (by omega), hm, eu]; rfl
theorem ta {t e : TypeId} {x i : Operand} {ad : Addr} {n sz k : Nat} {kk : IntKind} {m : Int} (ht : P.underlying t = some (.array n e)) (hsz : (P.info? e).map (·.size) = some sz) (hx : ev ρ x = .pointer (some ad)) (hi : ev ρ i = .int kk m)
  (hm : m = (k : Int)) (h1 : k < n) : (execOp (ev ρ) ⟨d, .indexAddr t x i, ty, pos, af, g⟩).run P w = .ok (.value (.pointer (some (ad.add (k * sz))))) w := by
 obtain ⟨i, hi1, hi2⟩ := Option.map_eq_some_iff.1 hsz
 have h2 : (k : Int) < n := by omega
 subst hm
 simp [execOp, hx, hi, Instr.indexAt, asIntOf, run_underlying ht, sizeOf, typeInfo, hi1, hi2, Instr.sureAddr, h1]
theorem ra {t e : TypeId} {x hi : Operand} {A : Option Addr} {n c h sz : Nat} {k : IntKind} {m : Int} (ht : P.underlying t = some (.slice e)) (hsz : (P.info? e).map (·.size) = some sz) (hx : ev ρ x = .slice A n c) (hhi : ev ρ hi = .int k m)
  (hm : m = (h : Int)) (h2 : h ≤ c) : (execOp (ev ρ) ⟨d, .slice t x none (some hi) none, ty, pos, af, g⟩).run P w = .ok (.value (.slice A h c)) w := by
 rw [gD (lo := none) (hi := some hi) (l := 0) (h := h) ht hsz hx rfl ⟨k, m, hhi, hm⟩ (Nat.zero_le _) h2]
 congr 3
 cases A with
 | none => simp
 | some ad => simp [Addr.add]
theorem sM {t e : TypeId} {x lo : Operand} {b o n c l sz : Nat} {k : IntKind} {m : Int} (ht : P.underlying t = some (.slice e)) (hsz : (P.info? e).map (·.size) = some sz) (hx : ev ρ x = .slice (some ⟨b, o, none⟩) n c) (hlo : ev ρ lo = .int k m)
  (hm : m = (l : Int)) (h1 : l ≤ n) (h2 : n ≤ c) (h3 : l < c) : (execOp (ev ρ) ⟨d, .slice t x (some lo) none none, ty, pos, af, g⟩).run P w = .ok (.value (.slice (some ⟨b, o + l * sz, none⟩) (n - l) (c - l))) w := by
 rw [gD (lo := some lo) (hi := none) (l := l) (h := n) ht hsz hx ⟨k, m, hlo, hm⟩ rfl h1 h2, if_neg (by omega)]
 simp only [Option.map_some, eu]
theorem q6 {t e : TypeId} {x lo : Operand} {ad : Addr} {n c l sz : Nat} {k : IntKind} {m : Int} (ht : P.underlying t = some (.slice e)) (hsz : (P.info? e).map (·.size) = some sz) (hx : ev ρ x = .slice (some ad) n c) (hlo : ev ρ lo = .int k m)
  (hm : m = (l : Int)) (h1 : l ≤ n) (h2 : n ≤ c) (h3 : l < c) : (execOp (ev ρ) ⟨d, .slice t x (some lo) none none, ty, pos, af, g⟩).run P w = .ok (.value (.slice (some (ad.add (l * sz))) (n - l) (c - l))) w := by
 rw [gD (lo := some lo) (hi := none) (l := l) (h := n) ht hsz hx ⟨k, m, hlo, hm⟩ rfl h1 h2, if_neg (by omega)]
 rfl
end
theorem Rd.mg {w : World} {ad : Addr} {xs : List Value} {k : Nat} {v : Value} (h : Rd w ad xs) (hx : xs[k]? = some v) : w.cell? (ad.add (k * 1)) = some v := by
 rw [Nat.mul_one]; exact h k v hx
def cu (l : List Nat) : List Value := l.map fun (d : Nat) => .int .u64 (d : Int)
theorem aQ (l : List Nat) : (cu l).length = l.length := by simp [cu]
theorem dH {l : List Nat} {k d : Nat} (h : l[k]? = some d) : (cu l)[k]? = some (.int .u64 (d : Int)) := by simp [cu, h]
theorem eG (l : List Nat) (k d : Nat) : (cu l).set k (.int .u64 (d : Int)) = cu (l.set k d) := by simp [cu, List.map_set]
theorem q8 (a b : List Nat) : cu (a ++ b) = cu a ++ cu b := by simp [cu]
theorem po (a : List Nat) (k : Nat) : cu (a.take k) = (cu a).take k := by simp [cu, List.map_take]
theorem o6 (a : List Nat) (k : Nat) : cu (a.drop k) = (cu a).drop k := by simp [cu, List.map_drop]
theorem cU (l : List Nat) : ((cu l).all Value.oneCell') = true := by simp [cu, Value.oneCell']
theorem kQ (n : Nat) : fj n [Value.int .u64 0] = cu (List.replicate n 0) := by rw [rr]; simp [cu]
def eZ (l : List Nat) : List Value := l.map fun (d : Nat) => .int .u8 (d : Int)
theorem bY (l : List Nat) : (eZ l).length = l.length := by simp [eZ]
theorem lA {l : List Nat} {k d : Nat} (h : l[k]? = some d) : (eZ l)[k]? = some (.int .u8 (d : Int)) := by simp [eZ, h]
theorem jO (l : List Nat) (k d : Nat) : (eZ l).set k (.int .u8 (d : Int)) = eZ (l.set k d) := by simp [eZ, List.map_set]
theorem nu (a b : List Nat) : eZ (a ++ b) = eZ a ++ eZ b := by simp [eZ]
theorem qV (a : List Nat) (k : Nat) : eZ (a.take k) = (eZ a).take k := by simp [eZ, List.map_take]
theorem dK (l : List Nat) : ((eZ l).all Value.oneCell') = true := by simp [eZ, Value.oneCell']
theorem k6 (n : Nat) : fj n [Value.int .u8 0] = eZ (List.replicate n 0) := by rw [rr]; simp [eZ]
theorem oT {l : List Nat} (h : ∀ d ∈ l, d < 256) : eZ l = j6 (l.map UInt8.ofNat) := by
 rw [eZ, j6, List.map_map]
 apply List.map_congr_left
 intro d hd
 have := h d hd
 simp only [Function.comp, UInt8.toNat_ofNat']
 congr 2
 omega
theorem Sl.zI {w : World} {ad : Addr} {n : Nat} {ys : List Nat} {k d : Nat} (h : Sl w (some ad) n 1 (cu ys)) (hd : ys[k]? = some d) : w.cell? (ad.add (k * 1)) = some (.int .u64 (d : Int)) := by
 have hl := h.1
 have hk := (List.getElem?_eq_some_iff.1 hd).1
 rw [aQ] at hl
 obtain ⟨ad', he, hr⟩ := h.2 (by omega)
 injection he with he
 subst he
 exact hr.mg (dH hd)
theorem pq {pre done r post : List Nat} {x : Nat} : (pre ++ (done ++ x :: r) ++ post)[pre.length + done.length]? = some x := by
 rw [List.append_assoc, List.getElem?_append_right (by omega), List.append_assoc, List.getElem?_append_right (by omega)]
 simp
theorem jB {pre done r post : List Nat} {x y : Nat} : (pre ++ (done ++ x :: r) ++ post).set (pre.length + done.length) y = pre ++ ((done ++ [y]) ++ r) ++ post := by
 rw [List.append_assoc, List.set_append_right _ _ (by omega), List.append_assoc, List.set_append_right _ _ (by omega)]
 simp
theorem bX {cs : List Value} {o : Nat} {v : Value} (h : o < cs.length) : bV cs o [v] = cs.set o v := by
 unfold bV
 rw [List.set_eq_take_append_cons_drop, if_pos h]
 simp
theorem Hp.front {w0 w : World} {H : List HE} {x : HE} (h : Hp w0 H w) (i : Nat) (hi : H[i]? = some x) : Hp w0 (x :: H.eraseIdx i) w := by
 have hp : H.Perm (x :: H.eraseIdx i) := by
  clear h
  induction H generalizing i with
  | nil => simp at hi
  | cons y H ih =>
   cases i with
   | zero => simp at hi; subst hi; simp
   | succ i =>
    simp only [List.getElem?_cons_succ] at hi
    simp only [List.eraseIdx_cons_succ]
    exact ((ih i hi).cons y).trans (List.Perm.swap x y _)
 exact ⟨h.below, fun y hy => h.own y (hp.mem_iff.2 hy), (hp.filterMap _).nodup_iff.1 h.nd⟩
theorem Hp.sx {w0 w : World} {H : List HE} {A : Option Addr} {n c : Nat} {t : TypeId} {sz : Nat} {xs : List Value} (h : Hp w0 (.row A n c t sz xs :: H) w) {k : Nat} (hk : k ≤ n) : Hp w0 (.row A k c t sz (xs.take (k * sz)) :: H) w := by
 refine ⟨h.below, fun y hy => ?_, h.nd⟩
 rcases List.mem_cons.1 hy with rfl | hy
 ·have h1 : w.ownsRow w0.heap.size t sz (.slice A n c) n xs := h.own _ List.mem_cons_self
  obtain ⟨h2, h3⟩ := h1
  have hkn : k * sz ≤ n * sz := Nat.mul_le_mul_right _ hk
  refine ⟨by rw [List.length_take]; omega, ?_⟩
  rcases h3 with ⟨h3, h4⟩ | ⟨g, cap, cur, hv, hb, hg, h4, h5, h6, h7⟩
  ·injection h3 with h5 h6 h7
   subst h5 h6 h7
   exact .inl ⟨by rw [show k = 0 by omega], by omega⟩
  ·injection hv with h8 h9 h10
   subst h8
   refine .inr ⟨g, cap, cur, by rw [h10], hb, hg, by omega, h5, h6, ?_⟩
   rw [← h7, List.take_take, Nat.min_eq_left hkn]
 ·exact h.own y (List.mem_cons_of_mem _ hy)
theorem Hp.dh {w0 w : World} {H : List HE} {A : Option Addr} {n c : Nat} {t : TypeId} {sz : Nat} {xs : List Value} {i : Nat} (h : Hp w0 H w) (hi : H[i]? = some (.row A n c t sz xs)) : n ≤ c := by
 have h1 : w.ownsRow w0.heap.size t sz (.slice A n c) n xs := h.at_ hi
 rcases h1.2 with ⟨h3, h4⟩ | ⟨g, cap, cur, hv, hb, hg, h4, h5, h6, h7⟩
 ·omega
 ·injection hv with h8 h9 h10
  omega
end Go.Proofs.YtkgdagjklakajaaGreatDoor
namespace Go.Proofs.YtkgdagjklakajaaGreatDoor
open Go.RowKit
variable {ro : Mode}
section
variable {P : Program} {N : Nat} {ops : Array Oper} {Q : Kq} {ρ : Rf} {w w0 : World} {rest : List Oper} {H : List HE} {d : Nat} {ty : TypeId} {pos : String} {af : Array Edge}
theorem fL {x : Operand} {v : Value} (hx : ev ρ x = v) (hN : d < N) (kk : WL ro P N ops Q rest (cv ρ d v) w) :
  WL ro P N ops Q (⟨some d, .move x, ty, pos, af, none⟩ :: rest) ρ w := aY rfl rfl hN (dt hx) kk
theorem kW {x : Operand} {v : Value} (hx : ev ρ x = v) (hN : d < N) (kk : WL ro P N ops Q rest (cv ρ d v) w) :
  WL ro P N ops Q (⟨some d, .assign x, ty, pos, af, none⟩ :: rest) ρ w := aY rfl rfl hN (vF hx) kk
theorem wC {c a b : Operand} {v : Value} (hc : ev ρ c = .bool true) (hx : ev ρ a = v) (hN : d < N) (kk : WL ro P N ops Q rest (cv ρ d v) w) :
  WL ro P N ops Q (⟨some d, .pick c a b, ty, pos, af, none⟩ :: rest) ρ w := aY rfl rfl hN (rK hc hx) kk
theorem wT {c a b : Operand} {v : Value} (hc : ev ρ c = .bool false) (hx : ev ρ b = v) (hN : d < N) (kk : WL ro P N ops Q rest (cv ρ d v) w) :
  WL ro P N ops Q (⟨some d, .pick c a b, ty, pos, af, none⟩ :: rest) ρ w := aY rfl rfl hN (qU hc hx) kk
section
variable {t u : TypeId} {x y : Operand} {k : IntKind} {a b : Int}
theorem tH (hx : ev ρ x = .int k a) (hy : ev ρ y = .int k b) (hN : d < N) (kk : WL ro P N ops Q rest (cv ρ d (.bool (decide (a = b)))) w) :
  WL ro P N ops Q (⟨some d, .binOp .eql t x y u, ty, pos, af, none⟩ :: rest) ρ w := aY rfl rfl hN (tZ hx hy) kk
theorem zg (hx : ev ρ x = .int .i64 a) (hy : ev ρ y = .int .i64 b) (h1 : -9223372036854775808 ≤ a + b) (h2 : a + b ≤ 9223372036854775807) (hN : d < N) (kk : WL ro P N ops Q rest (cv ρ d (.int .i64 (a + b))) w) :
  WL ro P N ops Q (⟨some d, .binOp .add t x y u, ty, pos, af, none⟩ :: rest) ρ w := aY rfl rfl hN (xl hx hy h1 h2) kk
theorem ze (hx : ev ρ x = .int .i64 a) (hy : ev ρ y = .int .i64 b) (h1 : -9223372036854775808 ≤ a - b) (h2 : a - b ≤ 9223372036854775807) (hN : d < N) (kk : WL ro P N ops Q rest (cv ρ d (.int .i64 (a - b))) w) :
  WL ro P N ops Q (⟨some d, .binOp .sub t x y u, ty, pos, af, none⟩ :: rest) ρ w := aY rfl rfl hN (vZ hx hy h1 h2) kk
theorem zJ (hx : ev ρ x = .int .i64 a) (hy : ev ρ y = .int .i64 b) (h1 : -9223372036854775808 ≤ a * b) (h2 : a * b ≤ 9223372036854775807) (hN : d < N) (kk : WL ro P N ops Q rest (cv ρ d (.int .i64 (a * b))) w) :
  WL ro P N ops Q (⟨some d, .binOp .mul t x y u, ty, pos, af, none⟩ :: rest) ρ w := aY rfl rfl hN (xj hx hy h1 h2) kk
theorem lg (hx : ev ρ x = .int .i64 a) (h1 : -9223372036854775808 ≤ -a) (h2 : -a ≤ 9223372036854775807) (hN : d < N) (kk : WL ro P N ops Q rest (cv ρ d (.int .i64 (-a))) w) :
  WL ro P N ops Q (⟨some d, .unOp .neg t x, ty, pos, af, none⟩ :: rest) ρ w := aY rfl rfl hN (ns hx h1 h2) kk
theorem ie (hx : ev ρ x = .int .i64 a) (hy : ev ρ y = .int .i64 b) (ha : 0 ≤ a) (hb : 0 < b) (h2 : a ≤ 9223372036854775807) (hN : d < N) (kk : WL ro P N ops Q rest (cv ρ d (.int .i64 (a / b))) w) :
  WL ro P N ops Q (⟨some d, .binOp .quo t x y u, ty, pos, af, none⟩ :: rest) ρ w := aY rfl rfl hN (pJ hx hy ha hb h2) kk
theorem jz (hx : ev ρ x = .int .i64 a) (hy : ev ρ y = .int .i64 b) (ha : 0 ≤ a) (hb : 0 < b) (hN : d < N) (kk : WL ro P N ops Q rest (cv ρ d (.int .i64 (a % b))) w) :
  WL ro P N ops Q (⟨some d, .binOp .rem t x y u, ty, pos, af, none⟩ :: rest) ρ w := aY rfl rfl hN (lJ hx hy ha hb) kk
end
theorem Aq {t : TypeId} {x : Operand} {b : Bool} (hx : ev ρ x = .bool b) (hN : d < N) (kk : WL ro P N ops Q rest (cv ρ d (.bool !b)) w) :
  WL ro P N ops Q (⟨some d, .unOp .not t x, ty, pos, af, none⟩ :: rest) ρ w := aY rfl rfl hN (yT hx) kk
section
variable {t u : TypeId} {x y : Operand} {a b : Bool}
end
section
variable {t u : TypeId} {x y : Operand} {a b : ByteArray}
theorem ec (hx : ev ρ x = .string a) (hy : ev ρ y = .string b) (h : a = b) (hN : d < N) (kk : WL ro P N ops Q rest (cv ρ d (.bool true)) w) :
  WL ro P N ops Q (⟨some d, .binOp .eql t x y u, ty, pos, af, none⟩ :: rest) ρ w := aY rfl rfl hN (rE hx hy h) kk
theorem ef (hx : ev ρ x = .string a) (hy : ev ρ y = .string b) (h : ¬ a = b) (hN : d < N) (kk : WL ro P N ops Q rest (cv ρ d (.bool false)) w) :
  WL ro P N ops Q (⟨some d, .binOp .eql t x y u, ty, pos, af, none⟩ :: rest) ρ w := aY rfl rfl hN (qQ hx hy h) kk
theorem fv (hx : ev ρ x = .string a) (hy : ev ρ y = .string b) (h : ¬ a = b) (hN : d < N) (kk : WL ro P N ops Q rest (cv ρ d (.bool true)) w) :
  WL ro P N ops Q (⟨some d, .binOp .neq t x y u, ty, pos, af, none⟩ :: rest) ρ w := aY rfl rfl hN (rB hx hy h) kk
theorem fy (hx : ev ρ x = .string a) (hy : ev ρ y = .string b) (h : a = b) (hN : d < N) (kk : WL ro P N ops Q rest (cv ρ d (.bool false)) w) :
  WL ro P N ops Q (⟨some d, .binOp .neq t x y u, ty, pos, af, none⟩ :: rest) ρ w := aY rfl rfl hN (qN hx hy h) kk
theorem uw (hx : ev ρ x = .string a) (hy : ev ρ y = .string b) (hN : d < N) (kk : WL ro P N ops Q rest (cv ρ d (.bool (Op.bytesLess a.toList b.toList))) w) :
  WL ro P N ops Q (⟨some d, .binOp .lss t x y u, ty, pos, af, none⟩ :: rest) ρ w := aY rfl rfl hN (uI hx hy) kk
theorem uG (hx : ev ρ x = .string a) (hy : ev ρ y = .string b) (hN : d < N) (kk : WL ro P N ops Q rest (cv ρ d (.bool !(Op.bytesLess a.toList b.toList || a.toList == b.toList))) w) :
  WL ro P N ops Q (⟨some d, .binOp .gtr t x y u, ty, pos, af, none⟩ :: rest) ρ w := aY rfl rfl hN (uZ hx hy) kk
theorem gp (hx : ev ρ x = .string a) (hy : ev ρ y = .string b) (hN : d < N) (kk : WL ro P N ops Q rest (cv ρ d (.bool !(Op.bytesLess a.toList b.toList))) w) :
  WL ro P N ops Q (⟨some d, .binOp .geq t x y u, ty, pos, af, none⟩ :: rest) ρ w := aY rfl rfl hN (ve hx hy) kk
end
theorem nJ {s t : TypeId} {x : Operand} {k k' : IntKind} {a : Int} {sd : TypeDesc} (hs : P.underlying s = some sd) (ht : P.underlying t = some (.int k)) (hx : ev ρ x = .int k' a) (hN : d < N) (kk : WL ro P N ops Q rest (cv ρ d (.int k (k.wrap a))) w) :
  WL ro P N ops Q (⟨some d, .convert s t x, ty, pos, af, none⟩ :: rest) ρ w := aY rfl rfl hN (iQ hs ht hx) kk
theorem dO {s t : TypeId} {x : Operand} {k' : IntKind} {a : Int} {sd : TypeDesc} (hs : P.underlying s = some sd) (ht : P.underlying t = some (.int .i64)) (hx : ev ρ x = .int k' a) (h1 : -9223372036854775808 ≤ a) (h2 : a ≤ 9223372036854775807) (hN : d < N) (kk : WL ro P N ops Q rest (cv ρ d (.int .i64 a)) w) :
  WL ro P N ops Q (⟨some d, .convert s t x, ty, pos, af, none⟩ :: rest) ρ w := aY rfl rfl hN (r9 hs ht hx h1 h2) kk
theorem uR {x : Operand} {i : Nat} {vs : List Value} {v : Value} (hx : ev ρ x = .tuple vs.toArray) (hv : vs[i]? = some v) (hN : d < N) (kk : WL ro P N ops Q rest (cv ρ d v) w) :
  WL ro P N ops Q (⟨some d, .extract x i, ty, pos, af, none⟩ :: rest) ρ w := aY rfl rfl hN (cw hx hv) kk
theorem fi {fn : Fn} {first captured : Array Operand} {fs cs : List Value} (hf : qq ρ first.toList = fs) (hc : qq ρ captured.toList = cs) (hN : d < N) (kk : WL ro P N ops Q rest (cv ρ d (.func fn fs.toArray cs.toArray)) w) :
  WL ro P N ops Q (⟨some d, .makeFunc fn first captured, ty, pos, af, none⟩ :: rest) ρ w := aY rfl rfl hN (sO hf hc) kk
theorem bB {x : Operand} {t : TypeId} {s : ByteArray} (ht : P.underlying t = some .string) (hx : ev ρ x = .string s) (hN : d < N) (kk : WL ro P N ops Q rest (cv ρ d (.int .i64 s.size)) w) :
  WL ro P N ops Q (⟨some d, .call ⟨.builtin .len, #[x], #[t]⟩, ty, pos, af, none⟩ :: rest) ρ w := aY rfl rfl hN (u5 ht hx) kk
theorem vU {x : Operand} {t e : TypeId} {A : Option Addr} {n c : Nat} (ht : P.underlying t = some (.slice e)) (hx : ev ρ x = .slice A n c) (hN : d < N) (kk : WL ro P N ops Q rest (cv ρ d (.int .i64 n)) w) :
  WL ro P N ops Q (⟨some d, .call ⟨.builtin .len, #[x], #[t]⟩, ty, pos, af, none⟩ :: rest) ρ w := aY rfl rfl hN (rO ht hx) kk
theorem wx {x y : Operand} {ts : Array TypeId} {k : IntKind} {a b : Int} (hx : ev ρ x = .int k a) (hy : ev ρ y = .int k b) (hN : d < N) (kk : WL ro P N ops Q rest (cv ρ d (.int k (if b < a then b else a))) w) :
  WL ro P N ops Q (⟨some d, .call ⟨.builtin .min, #[x, y], ts⟩, ty, pos, af, none⟩ :: rest) ρ w := aY rfl rfl hN (Ac hx hy) kk
theorem jc {x y : Operand} {ts : Array TypeId} {k : IntKind} {a b : Int} (hx : ev ρ x = .int k a) (hy : ev ρ y = .int k b) (hN : d < N) (kk : WL ro P N ops Q rest (cv ρ d (.int k (if b > a then b else a))) w) :
  WL ro P N ops Q (⟨some d, .call ⟨.builtin .max, #[x, y], ts⟩, ty, pos, af, none⟩ :: rest) ρ w := aY rfl rfl hN (An hx hy) kk
theorem bL {t : TypeId} {x i : Operand} {s : ByteArray} {n : Int} {k : IntKind} {c : UInt8} (ht : P.underlying t = some .string) (hx : ev ρ x = .string s) (hi : ev ρ i = .int k n)
  (h0 : 0 ≤ n) (hc : s.data.toList[n.toNat]? = some c) (hN : d < N) (kk : WL ro P N ops Q rest (cv ρ d (.int .u8 c.toNat)) w) :
  WL ro P N ops Q (⟨some d, .index t x i, ty, pos, af, none⟩ :: rest) ρ w := aY rfl rfl hN (lW ht hx hi h0 hc) kk
theorem lS {t : TypeId} {x : Operand} {lo hi : Option Operand} {s : ByteArray} {l h : Nat} (ht : P.underlying t = some .string) (hx : ev ρ x = .string s)
  (hlo : match lo with | none => l = 0 | some o => ∃ (k : IntKind) (n : Int), ev ρ o = .int k n ∧ n = l) (hhi : match hi with | none => h = s.size | some o => ∃ (k : IntKind) (n : Int), ev ρ o = .int k n ∧ n = h)
  (h1 : l ≤ h) (h2 : h ≤ s.size) (hN : d < N) (kk : WL ro P N ops Q rest (cv ρ d (.string (s.extract l h))) w) :
  WL ro P N ops Q (⟨some d, .slice t x lo hi none, ty, pos, af, none⟩ :: rest) ρ w := aY rfl rfl hN (qL ht hx hlo hhi h1 h2) kk
theorem fY {t e : TypeId} {x i : Operand} {ad : Addr} {n c sz : Nat} {k : IntKind} {m : Int} (ht : P.underlying t = some (.slice e)) (hsz : (P.info? e).map (·.size) = some sz) (hx : ev ρ x = .slice (some ad) n c) (hi : ev ρ i = .int k m)
  (h0 : 0 ≤ m) (h1 : m < n) (hN : d < N) (kk : WL ro P N ops Q rest (cv ρ d (.pointer (some (ad.add (m.toNat * sz))))) w) :
  WL ro P N ops Q (⟨some d, .indexAddr t x i, ty, pos, af, none⟩ :: rest) ρ w := aY rfl rfl hN (dv ht hsz hx hi h0 h1) kk
theorem bs {t e : TypeId} {x i : Operand} {b n c sz k : Nat} {kk : IntKind} {m : Int} (ht : P.underlying t = some (.slice e)) (hsz : (P.info? e).map (·.size) = some sz) (hx : ev ρ x = .slice (some ⟨b, 0, none⟩) n c) (hi : ev ρ i = .int kk m)
  (hm : m = (k : Int)) (h1 : k < n) (hN : d < N) (kk : WL ro P N ops Q rest (cv ρ d (.pointer (some ⟨b, k * sz, none⟩))) w) :
  WL ro P N ops Q (⟨some d, .indexAddr t x i, ty, pos, af, none⟩ :: rest) ρ w := aY rfl rfl hN (nP ht hsz hx hi hm h1) kk
theorem cb {t : TypeId} {x : Operand} {ad : Addr} {n by' : Nat} {zc vs : List Value} (ht : cZ P t = some (n, true, by', zc)) (hx : ev ρ x = .pointer (some ad)) (hr : Rd w ad vs) (hl : vs.length = n) (hN : d < N) (kk : WL ro P N ops Q rest (cv ρ d (.agg vs.toArray)) w) :
  WL ro P N ops Q (⟨some d, .load t x, ty, pos, af, none⟩ :: rest) ρ w := aY rfl rfl hN (sY ht hx hr hl) kk
theorem bJ {t : TypeId} {x : Operand} {ad : Addr} {n by' : Nat} {zc : List Value} {v : Value} (ht : cZ P t = some (n, false, by', zc)) (hx : ev ρ x = .pointer (some ad)) (hc : w.cell? ad = some v) (hN : d < N) (kk : WL ro P N ops Q rest (cv ρ d v) w) :
  WL ro P N ops Q (⟨some d, .load t x, ty, pos, af, none⟩ :: rest) ρ w := aY rfl rfl hN (gU ht hx hc) kk
theorem qR {s : TypeId} {x : Operand} {f b o off : Nat} {ft : TypeId} (hf : gN P s f = some (off, ft)) (hx : ev ρ x = .pointer (some ⟨b, o, none⟩)) (hN : d < N) (kk : WL ro P N ops Q rest (cv ρ d (.pointer (some ⟨b, o + off, none⟩))) w) :
  WL ro P N ops Q (⟨some d, .fieldAddr s x f, ty, pos, af, none⟩ :: rest) ρ w := aY rfl rfl hN (l3 hf hx) kk
theorem dM {s : TypeId} {x : Operand} {f off : Nat} {ad : Addr} {ft : TypeId} (hf : gN P s f = some (off, ft)) (hx : ev ρ x = .pointer (some ad)) (hN : d < N) (kk : WL ro P N ops Q rest (cv ρ d (.pointer (some (ad.add off)))) w) :
  WL ro P N ops Q (⟨some d, .fieldAddr s x f, ty, pos, af, none⟩ :: rest) ρ w := aY rfl rfl hN (kU hf hx) kk
theorem xB {t : TypeId} {n by' : Nat} {parts : Array (Nat × Operand)} {ps : List (Nat × Value)} {zc cs : List Value} {pl : List (Nat × Nat)} (hte : cZ P t = some (n, true, by', zc))
  (hpl : kG P t = some pl)
  (hp : rQ ρ parts.toList = ps) (hf : iy (pl[·]?) zc ps = some cs) (hN : d < N) (kk : WL ro P N ops Q rest (cv ρ d (.agg cs.toArray)) w) :
  WL ro P N ops Q (⟨some d, .build t parts, ty, pos, af, none⟩ :: rest) ρ w := aY rfl rfl hN (pH hte hpl hp hf) kk
theorem jl {s t e : TypeId} {x : Operand} {A : Option Addr} {n c : Nat} {l : List UInt8} (hs : P.underlying s = some (.slice e)) (he : P.underlying e = some (.int .u8)) (ht : P.underlying t = some .string)
  (hx : ev ρ x = .slice A n c) (h : Sl w A n 1 (j6 l)) (hN : d < N) (kk : WL ro P N ops Q rest (cv ρ d (.string ⟨l.toArray⟩)) w) :
  WL ro P N ops Q (⟨some d, .convert s t x, ty, pos, af, none⟩ :: rest) ρ w := aY rfl rfl hN (jt hs he ht hx h) kk
section
variable {t u : TypeId} {x y : Operand} {k : IntKind} {q M : Nat} {a b : Nat}
theorem fQ [UK k q M] (hx : ev ρ x = .int k (a : Int)) (hy : ev ρ y = .int k (b : Int)) (hN : d < N) (kk : WL ro P N ops Q rest (cv ρ d (.int k (((a + b) % M : Nat) : Int))) w) :
  WL ro P N ops Q (⟨some d, .binOp .add t x y u, ty, pos, af, none⟩ :: rest) ρ w := aY rfl rfl hN (zD hx hy) kk
theorem sn [UK k q M] (hx : ev ρ x = .int k (a : Int)) (hy : ev ρ y = .int k (b : Int)) (hb : b ≤ M) (hN : d < N) (kk : WL ro P N ops Q rest (cv ρ d (.int k (((a + M - b) % M : Nat) : Int))) w) :
  WL ro P N ops Q (⟨some d, .binOp .sub t x y u, ty, pos, af, none⟩ :: rest) ρ w := aY rfl rfl hN (zp hx hy hb) kk
theorem lN [UK k q M] (hx : ev ρ x = .int k (a : Int)) (hy : ev ρ y = .int k (b : Int)) (hN : d < N) (kk : WL ro P N ops Q rest (cv ρ d (.int k (((a * b) % M : Nat) : Int))) w) :
  WL ro P N ops Q (⟨some d, .binOp .mul t x y u, ty, pos, af, none⟩ :: rest) ρ w := aY rfl rfl hN (zb hx hy) kk
theorem zm [UK k q M] (hx : ev ρ x = .int k (a : Int)) (hy : ev ρ y = .int k (b : Int)) (hb : 0 < b) (ha : a < M) (hN : d < N) (kk : WL ro P N ops Q rest (cv ρ d (.int k ((a / b : Nat) : Int))) w) :
  WL ro P N ops Q (⟨some d, .binOp .quo t x y u, ty, pos, af, none⟩ :: rest) ρ w := aY rfl rfl hN (zt hx hy hb ha) kk
theorem sK (hx : ev ρ x = .int k (a : Int)) (hy : ev ρ y = .int k (b : Int)) (hb : 0 < b) (hN : d < N) (kk : WL ro P N ops Q rest (cv ρ d (.int k ((a % b : Nat) : Int))) w) :
  WL ro P N ops Q (⟨some d, .binOp .rem t x y u, ty, pos, af, none⟩ :: rest) ρ w := aY rfl rfl hN (zL hx hy hb) kk
theorem um [h : UK k q M] (hx : ev ρ x = .int k (a : Int)) (hy : ev ρ y = .int k (b : Int)) (ha : a < M) (hb : b < M) (hN : d < N) (kk : WL ro P N ops Q rest (cv ρ d (.int k ((a ||| b : Nat) : Int))) w) :
  WL ro P N ops Q (⟨some d, .binOp .or t x y u, ty, pos, af, none⟩ :: rest) ρ w := aY rfl rfl hN (zW hx hy ha hb) kk
theorem jo [h : UK k q M] (hx : ev ρ x = .int k (a : Int)) (hy : ev ρ y = .int k (b : Int)) (ha : a < M) (hb : b < M) (hN : d < N) (kk : WL ro P N ops Q rest (cv ρ d (.int k ((a &&& b : Nat) : Int))) w) :
  WL ro P N ops Q (⟨some d, .binOp .and t x y u, ty, pos, af, none⟩ :: rest) ρ w := aY rfl rfl hN (zF hx hy ha hb) kk
theorem rW [h : UK k q M] {k' : IntKind} {s : Int} (hx : ev ρ x = .int k (a : Int)) (hy : ev ρ y = .int k' s) (hs : 0 ≤ s ∧ s ≤ q) (hN : d < N) (kk : WL ro P N ops Q rest (cv ρ d (.int k ((a / 2 ^ s.toNat : Nat) : Int))) w) :
  WL ro P N ops Q (⟨some d, .binOp .shr t x y u, ty, pos, af, none⟩ :: rest) ρ w := aY rfl rfl hN (rU hx hy hs) kk
theorem dY [UK k q M] {k' : IntKind} {s m : Nat} (hx : ev ρ x = .int k (a : Int)) (hy : ev ρ y = .int k' (s : Int)) (hs : s ≤ q) (hm : 2 ^ s = m) (hN : d < N) (kk : WL ro P N ops Q rest (cv ρ d (.int k ((a / m : Nat) : Int))) w) :
  WL ro P N ops Q (⟨some d, .binOp .shr t x y u, ty, pos, af, none⟩ :: rest) ρ w := aY rfl rfl hN (xK hx hy hs hm) kk
theorem xe [h : UK k q M] (hx : ev ρ x = .int k (a : Int)) (ha : a ≤ M) (hN : d < N) (kk : WL ro P N ops Q rest (cv ρ d (.int k (((M - a) % M : Nat) : Int))) w) :
  WL ro P N ops Q (⟨some d, .unOp .neg t x, ty, pos, af, none⟩ :: rest) ρ w := aY rfl rfl hN (zl hx ha) kk
theorem eT [UK k q M] {s t : TypeId} {k' : IntKind} {sd : TypeDesc} (hs : P.underlying s = some sd) (ht : P.underlying t = some (.int k)) (hx : ev ρ x = .int k' (a : Int)) (hN : d < N) (kk : WL ro P N ops Q rest (cv ρ d (.int k ((a % M : Nat) : Int))) w) :
  WL ro P N ops Q (⟨some d, .convert s t x, ty, pos, af, none⟩ :: rest) ρ w := aY rfl rfl hN (tS hs ht hx) kk
theorem cS [UK k q M] {s t : TypeId} {k' : IntKind} {sd : TypeDesc} (hs : P.underlying s = some sd) (ht : P.underlying t = some (.int k)) (hx : ev ρ x = .int k' (a : Int)) (ha : a < M) (hN : d < N) (kk : WL ro P N ops Q rest (cv ρ d (.int k (a : Int))) w) :
  WL ro P N ops Q (⟨some d, .convert s t x, ty, pos, af, none⟩ :: rest) ρ w := aY rfl rfl hN (nv hs ht hx ha) kk
end
section
variable {t u : TypeId} {x y : Operand} {k : IntKind} {a b : Int}
theorem xZ (hx : ev ρ x = .int k a) (hy : ev ρ y = .int k b) (hN : d < N) (kk : WL ro P N ops Q rest (cv ρ d (.bool (decide (a < b)))) w) :
  WL ro P N ops Q (⟨some d, .binOp .lss t x y u, ty, pos, af, none⟩ :: rest) ρ w := aY rfl rfl hN (yw hx hy) kk
theorem xL (hx : ev ρ x = .int k a) (hy : ev ρ y = .int k b) (hN : d < N) (kk : WL ro P N ops Q rest (cv ρ d (.bool (decide (a ≤ b)))) w) :
  WL ro P N ops Q (⟨some d, .binOp .leq t x y u, ty, pos, af, none⟩ :: rest) ρ w := aY rfl rfl hN (yn hx hy) kk
theorem xy (hx : ev ρ x = .int k a) (hy : ev ρ y = .int k b) (hN : d < N) (kk : WL ro P N ops Q rest (cv ρ d (.bool (decide (b < a)))) w) :
  WL ro P N ops Q (⟨some d, .binOp .gtr t x y u, ty, pos, af, none⟩ :: rest) ρ w := aY rfl rfl hN (ur hx hy) kk
theorem xS (hx : ev ρ x = .int k a) (hy : ev ρ y = .int k b) (hN : d < N) (kk : WL ro P N ops Q rest (cv ρ d (.bool (decide (b ≤ a)))) w) :
  WL ro P N ops Q (⟨some d, .binOp .geq t x y u, ty, pos, af, none⟩ :: rest) ρ w := aY rfl rfl hN (xN hx hy) kk
theorem x9 (hx : ev ρ x = .int k a) (hy : ev ρ y = .int k b) (hN : d < N) (kk : WL ro P N ops Q rest (cv ρ d (.bool (decide (a ≠ b)))) w) :
  WL ro P N ops Q (⟨some d, .binOp .neq t x y u, ty, pos, af, none⟩ :: rest) ρ w := aY rfl rfl hN (yB hx hy) kk
end
section
variable {t u : TypeId} {x y : Operand} {a b : Bool}
theorem jM (ht : P.underlying t = some .bool) (hx : ev ρ x = .bool a) (hy : ev ρ y = .bool b) (h : a = b) (hN : d < N) (kk : WL ro P N ops Q rest (cv ρ d (.bool true)) w) :
  WL ro P N ops Q (⟨some d, .binOp .eql t x y u, ty, pos, af, none⟩ :: rest) ρ w := aY rfl rfl hN (xP ht hx hy h) kk
theorem jK (ht : P.underlying t = some .bool) (hx : ev ρ x = .bool a) (hy : ev ρ y = .bool b) (h : ¬ a = b) (hN : d < N) (kk : WL ro P N ops Q rest (cv ρ d (.bool false)) w) :
  WL ro P N ops Q (⟨some d, .binOp .eql t x y u, ty, pos, af, none⟩ :: rest) ρ w := aY rfl rfl hN (xt ht hx hy h) kk
theorem ql (ht : P.underlying t = some .bool) (hx : ev ρ x = .bool a) (hy : ev ρ y = .bool b) (h : ¬ a = b) (hN : d < N) (kk : WL ro P N ops Q rest (cv ρ d (.bool true)) w) :
  WL ro P N ops Q (⟨some d, .binOp .neq t x y u, ty, pos, af, none⟩ :: rest) ρ w := aY rfl rfl hN (tm ht hx hy h) kk
theorem pD (ht : P.underlying t = some .bool) (hx : ev ρ x = .bool a) (hy : ev ρ y = .bool b) (h : a = b) (hN : d < N) (kk : WL ro P N ops Q rest (cv ρ d (.bool false)) w) :
  WL ro P N ops Q (⟨some d, .binOp .neq t x y u, ty, pos, af, none⟩ :: rest) ρ w := aY rfl rfl hN (ui ht hx hy h) kk
end
theorem a0 {t e : TypeId} {x i : Operand} {ad : Addr} {n c sz k : Nat} {kk : IntKind} {m : Int} (ht : P.underlying t = some (.slice e)) (hsz : (P.info? e).map (·.size) = some sz) (hx : ev ρ x = .slice (some ad) n c) (hi : ev ρ i = .int kk m)
  (hm : m = (k : Int)) (h1 : k < n) (hN : d < N) (kk : WL ro P N ops Q rest (cv ρ d (.pointer (some (ad.add (k * sz))))) w) :
  WL ro P N ops Q (⟨some d, .indexAddr t x i, ty, pos, af, none⟩ :: rest) ρ w := aY rfl rfl hN (eC ht hsz hx hi hm h1) kk
theorem dn {t e : TypeId} {x i : Operand} {b o n c sz k : Nat} {kk : IntKind} {m : Int} (ht : P.underlying t = some (.slice e)) (hsz : (P.info? e).map (·.size) = some sz) (hx : ev ρ x = .slice (some ⟨b, o, none⟩) n c) (hi : ev ρ i = .int kk m)
  (hm : m = (k : Int)) (h1 : k < n) (hN : d < N) (kk : WL ro P N ops Q rest (cv ρ d (.pointer (some ⟨b, o + k * sz, none⟩))) w) :
  WL ro P N ops Q (⟨some d, .indexAddr t x i, ty, pos, af, none⟩ :: rest) ρ w := aY rfl rfl hN (sf ht hsz hx hi hm h1) kk
theorem sS {t e : TypeId} {x i : Operand} {ad : Addr} {n sz k : Nat} {kk : IntKind} {m : Int} (ht : P.underlying t = some (.array n e)) (hsz : (P.info? e).map (·.size) = some sz) (hx : ev ρ x = .pointer (some ad)) (hi : ev ρ i = .int kk m)
  (hm : m = (k : Int)) (h1 : k < n) (hN : d < N) (kk : WL ro P N ops Q rest (cv ρ d (.pointer (some (ad.add (k * sz))))) w) :
  WL ro P N ops Q (⟨some d, .indexAddr t x i, ty, pos, af, none⟩ :: rest) ρ w := aY rfl rfl hN (ta ht hsz hx hi hm h1) kk
theorem k7 {t e : TypeId} {x hi : Operand} {A : Option Addr} {n c h sz : Nat} {k : IntKind} {m : Int} (ht : P.underlying t = some (.slice e)) (hsz : (P.info? e).map (·.size) = some sz) (hx : ev ρ x = .slice A n c) (hhi : ev ρ hi = .int k m)
  (hm : m = (h : Int)) (h2 : h ≤ c) (hN : d < N) (kk : WL ro P N ops Q rest (cv ρ d (.slice A h c)) w) :
  WL ro P N ops Q (⟨some d, .slice t x none (some hi) none, ty, pos, af, none⟩ :: rest) ρ w := aY rfl rfl hN (ra ht hsz hx hhi hm h2) kk
theorem mW {t e : TypeId} {x lo : Operand} {b o n c l sz : Nat} {k : IntKind} {m : Int} (ht : P.underlying t = some (.slice e)) (hsz : (P.info? e).map (·.size) = some sz) (hx : ev ρ x = .slice (some ⟨b, o, none⟩) n c) (hlo : ev ρ lo = .int k m)
  (hm : m = (l : Int)) (h1 : l ≤ n) (h2 : n ≤ c) (h3 : l < c) (hN : d < N) (kk : WL ro P N ops Q rest (cv ρ d (.slice (some ⟨b, o + l * sz, none⟩) (n - l) (c - l))) w) :
  WL ro P N ops Q (⟨some d, .slice t x (some lo) none none, ty, pos, af, none⟩ :: rest) ρ w := aY rfl rfl hN (sM ht hsz hx hlo hm h1 h2 h3) kk
theorem l7 {t e : TypeId} {x lo : Operand} {ad : Addr} {n c l sz : Nat} {k : IntKind} {m : Int} (ht : P.underlying t = some (.slice e)) (hsz : (P.info? e).map (·.size) = some sz) (hx : ev ρ x = .slice (some ad) n c) (hlo : ev ρ lo = .int k m)
  (hm : m = (l : Int)) (h1 : l ≤ n) (h2 : n ≤ c) (h3 : l < c) (hN : d < N) (kk : WL ro P N ops Q rest (cv ρ d (.slice (some (ad.add (l * sz))) (n - l) (c - l))) w) :
  WL ro P N ops Q (⟨some d, .slice t x (some lo) none none, ty, pos, af, none⟩ :: rest) ρ w := aY rfl rfl hN (q6 ht hsz hx hlo hm h1 h2 h3) kk
theorem bj : qq ρ [] = [] := rfl
theorem aF {x : Operand} {l : List Operand} {v : Value} {r : List Value} (hx : ev ρ x = v) (h : qq ρ l = r) : qq ρ (x :: l) = v :: r := by simp only [qq, hx, h]
theorem bC : rQ ρ [] = [] := rfl
theorem aG {i : Nat} {x : Operand} {l : List (Nat × Operand)} {v : Value} {r : List (Nat × Value)} (hx : ev ρ x = v) (h : rQ ρ l = r) : rQ ρ ((i, x) :: l) = (i, v) :: r := by simp only [rQ, hx, h]
def s7 (P : Program) (f : FuncId) : Bool := match P.funcs[f]? with | some fn => !fn.body.isNone && !(fn.name == "runtime.NumGoroutine") | none => false
theorem pg {P : Program} {f : FuncId} (h : s7 P f = true) : ∃ fn, P.funcs[f]? = some fn ∧ fn.body.isNone = false ∧ (fn.name == "runtime.NumGoroutine") = false := by
 unfold s7 at h
 split at h
 ·rename_i fn hf
  simp only [Bool.and_eq_true, Bool.not_eq_true'] at h
  exact ⟨fn, hf, h.1, h.2⟩
 ·cases h
theorem bh {dd : Option Nat} {g : Option (Nat × Bool)} {f : FuncId} {args : Array Operand} {ts : Array TypeId} {vs : List Value} (hf : s7 P f = true) (ha : qq ρ args.toList = vs) :
  (execOp (ev ρ) ⟨dd, .call ⟨.value (.func f), args, ts⟩, ty, pos, af, g⟩).run P w = .ok (.enter f vs.toArray) w := by
 obtain ⟨fn, h1, h2, h3⟩ := pg hf
 have := wb (P := P) (w := w) (d := dd) (ty := ty) (pos := pos) (af := af) (g := g) (ts := ts) h1 h2 h3 (show ev ρ (.func f) = .func (.func f) #[] #[] from rfl) (kO args ha)
 simpa using this
theorem vf {dd : Option Nat} {g : Option (Nat × Bool)} {x : Operand} {f : FuncId} {args : Array Operand} {ts : Array TypeId} {first cap vs : List Value} (hf : s7 P f = true) (hx : ev ρ x = .func (.func f) first.toArray cap.toArray) (ha : first ++ (qq ρ args.toList ++ cap) = vs) :
  (execOp (ev ρ) ⟨dd, .call ⟨.value x, args, ts⟩, ty, pos, af, g⟩).run P w = .ok (.enter f vs.toArray) w := by
 obtain ⟨fn, h1, h2, h3⟩ := pg hf
 have := wb (P := P) (w := w) (d := dd) (ty := ty) (pos := pos) (af := af) (g := g) (ts := ts) h1 h2 h3 hx (kO args rfl)
 subst ha
 simpa using this
theorem aH {f : FuncId} {args : Array Operand} {ts : Array TypeId} {vs : List Value} {R : Ending → World → Prop} (hc : Calls P f vs.toArray w R) (hf : s7 P f = true) (ha : qq ρ args.toList = vs) (hN : d < N)
  (kk : ∀ e w', R e w' → ∃ v, e = .returned v ∧ WL ro P N ops Q rest (cv ρ d v) w') : WL ro P N ops Q (⟨some d, .call ⟨.value (.func f), args, ts⟩, ty, pos, af, none⟩ :: rest) ρ w :=
 qH rfl rfl hN (bh hf ha) hc kk
theorem fg {x : Operand} {f : FuncId} {args : Array Operand} {ts : Array TypeId} {first cap vs : List Value} {R : Ending → World → Prop} (hc : Calls P f vs.toArray w R) (hf : s7 P f = true) (hx : ev ρ x = .func (.func f) first.toArray cap.toArray) (ha : first ++ (qq ρ args.toList ++ cap) = vs) (hN : d < N)
  (kk : ∀ e w', R e w' → ∃ v, e = .returned v ∧ WL ro P N ops Q rest (cv ρ d v) w') : WL ro P N ops Q (⟨some d, .call ⟨.value x, args, ts⟩, ty, pos, af, none⟩ :: rest) ρ w :=
 qH rfl rfl hN (vf hf hx ha) hc kk
end
end Go.Proofs.YtkgdagjklakajaaGreatDoor
/- lO facts on the seat's types and functions, as instances that the rules find by themselves (printed by wip/gen/types.py). -/
namespace Go.Proofs.YtkgdagjklakajaaGreatDoor
set_option maxRecDepth 100000
class aJ (P : Program) (t : TypeId) (d : outParam TypeDesc) : Prop where out : P.underlying t = some d
class aC (P : Program) (t : TypeId) (n : outParam Nat) (ag : outParam Bool) (b : outParam Nat) (zc : outParam (List Value)) : Prop where out : cZ P t = some (n, ag, b, zc)
class eh (P : Program) (s : TypeId) (f : Nat) (off : outParam Nat) (ft : outParam TypeId) : Prop where out : gN P s f = some (off, ft)
class iY (P : Program) (s : TypeId) (pl : outParam (List (Nat × Nat))) : Prop where out : kG P s = some pl
class ar (P : Program) (f : FuncId) : Prop where out : s7 P f = true
theorem aC.size {P : Program} {t : TypeId} {n b : Nat} {ag : Bool} {zc : List Value} [h : aC P t n ag b zc] : (P.info? t).map (·.size) = some n := by
 obtain ⟨i, z, d, hi, hd, hz, hs, _⟩ := ej h.out
 rw [hi, Option.map_some, hs]
instance : aJ Tryz.prog 2 (.int .i64) := ⟨by kernel_rfl⟩
instance : aC Tryz.prog 2 1 false 8 [.int .i64 0] := ⟨by kernel_rfl⟩
instance : aJ Tryz.prog 3 (.int .i64) := ⟨by kernel_rfl⟩
instance : aC Tryz.prog 3 1 false 8 [.int .i64 0] := ⟨by kernel_rfl⟩
instance : aJ Tryz.prog 4 (.bool) := ⟨by kernel_rfl⟩
instance : aC Tryz.prog 4 1 false 1 [.bool false] := ⟨by kernel_rfl⟩
instance : aJ Tryz.prog 5 (.int .u8) := ⟨by kernel_rfl⟩
instance : aC Tryz.prog 5 1 false 1 [.int .u8 0] := ⟨by kernel_rfl⟩
instance : aJ Tryz.prog 6 (.int .u8) := ⟨by kernel_rfl⟩
instance : aC Tryz.prog 6 1 false 1 [.int .u8 0] := ⟨by kernel_rfl⟩
instance : aC Tryz.prog 7 4 true 24 [.int .i64 0, .int .i64 0, .bool false, .int .u8 0] := ⟨by kernel_rfl⟩
instance : eh Tryz.prog 7 0 0 2 := ⟨by kernel_rfl⟩
instance : eh Tryz.prog 7 1 1 3 := ⟨by kernel_rfl⟩
instance : eh Tryz.prog 7 2 2 4 := ⟨by kernel_rfl⟩
instance : eh Tryz.prog 7 3 3 6 := ⟨by kernel_rfl⟩
instance : iY Tryz.prog 7 [(0, 1), (1, 1), (2, 1), (3, 1)] := ⟨by kernel_rfl⟩
instance : aC Tryz.prog 8 4 true 24 [.int .i64 0, .int .i64 0, .bool false, .int .u8 0] := ⟨by kernel_rfl⟩
instance : eh Tryz.prog 8 0 0 2 := ⟨by kernel_rfl⟩
instance : eh Tryz.prog 8 1 1 3 := ⟨by kernel_rfl⟩
instance : eh Tryz.prog 8 2 2 4 := ⟨by kernel_rfl⟩
instance : eh Tryz.prog 8 3 3 6 := ⟨by kernel_rfl⟩
instance : iY Tryz.prog 8 [(0, 1), (1, 1), (2, 1), (3, 1)] := ⟨by kernel_rfl⟩
instance : aJ Tryz.prog 9 (.string) := ⟨by kernel_rfl⟩
instance : aC Tryz.prog 9 1 false 16 [.string { data := #[] }] := ⟨by kernel_rfl⟩
instance : aJ Tryz.prog 10 (.string) := ⟨by kernel_rfl⟩
instance : aC Tryz.prog 10 1 false 16 [.string { data := #[] }] := ⟨by kernel_rfl⟩
instance : aJ Tryz.prog 11 (.string) := ⟨by kernel_rfl⟩
instance : aC Tryz.prog 11 1 false 16 [.string { data := #[] }] := ⟨by kernel_rfl⟩
instance : aJ Tryz.prog 12 (.int .u64) := ⟨by kernel_rfl⟩
instance : aC Tryz.prog 12 1 false 8 [.int .u64 0] := ⟨by kernel_rfl⟩
instance : aC Tryz.prog 13 2 true 24 [.string { data := #[] }, .int .u64 0] := ⟨by kernel_rfl⟩
instance : eh Tryz.prog 13 0 0 9 := ⟨by kernel_rfl⟩
instance : eh Tryz.prog 13 1 1 12 := ⟨by kernel_rfl⟩
instance : iY Tryz.prog 13 [(0, 1), (1, 1)] := ⟨by kernel_rfl⟩
instance : aC Tryz.prog 14 2 true 24 [.string { data := #[] }, .int .u64 0] := ⟨by kernel_rfl⟩
instance : eh Tryz.prog 14 0 0 9 := ⟨by kernel_rfl⟩
instance : eh Tryz.prog 14 1 1 12 := ⟨by kernel_rfl⟩
instance : iY Tryz.prog 14 [(0, 1), (1, 1)] := ⟨by kernel_rfl⟩
instance : aJ Tryz.prog 15 (.pointer 264) := ⟨by kernel_rfl⟩
instance : aC Tryz.prog 15 1 false 8 [.pointer none] := ⟨by kernel_rfl⟩
instance : aJ Tryz.prog 16 (.pointer 267) := ⟨by kernel_rfl⟩
instance : aC Tryz.prog 16 1 false 8 [.pointer none] := ⟨by kernel_rfl⟩
instance : aJ Tryz.prog 17 (.pointer 276) := ⟨by kernel_rfl⟩
instance : aC Tryz.prog 17 1 false 8 [.pointer none] := ⟨by kernel_rfl⟩
instance : aC Tryz.prog 18 1 true 8 [.pointer none] := ⟨by kernel_rfl⟩
instance : eh Tryz.prog 18 0 0 17 := ⟨by kernel_rfl⟩
instance : iY Tryz.prog 18 [(0, 1)] := ⟨by kernel_rfl⟩
instance : aC Tryz.prog 19 1 true 8 [.pointer none] := ⟨by kernel_rfl⟩
instance : eh Tryz.prog 19 0 0 17 := ⟨by kernel_rfl⟩
instance : iY Tryz.prog 19 [(0, 1)] := ⟨by kernel_rfl⟩
instance : aJ Tryz.prog 21 (.int .i32) := ⟨by kernel_rfl⟩
instance : aC Tryz.prog 21 1 false 4 [.int .i32 0] := ⟨by kernel_rfl⟩
instance : aJ Tryz.prog 22 (.slice 58) := ⟨by kernel_rfl⟩
instance : aC Tryz.prog 22 1 false 24 [.slice none 0 0] := ⟨by kernel_rfl⟩
instance : aC Tryz.prog 23 2 true 24 [.bool false, .string { data := #[] }] := ⟨by kernel_rfl⟩
instance : eh Tryz.prog 23 0 0 4 := ⟨by kernel_rfl⟩
instance : eh Tryz.prog 23 1 1 9 := ⟨by kernel_rfl⟩
instance : iY Tryz.prog 23 [(0, 1), (1, 1)] := ⟨by kernel_rfl⟩
instance : aC Tryz.prog 24 2 true 24 [.bool false, .string { data := #[] }] := ⟨by kernel_rfl⟩
instance : eh Tryz.prog 24 0 0 4 := ⟨by kernel_rfl⟩
instance : eh Tryz.prog 24 1 1 9 := ⟨by kernel_rfl⟩
instance : iY Tryz.prog 24 [(0, 1), (1, 1)] := ⟨by kernel_rfl⟩
instance : aC Tryz.prog 25 3 true 32 [.bool false, .string { data := #[] }, .int .i64 0] := ⟨by kernel_rfl⟩
instance : eh Tryz.prog 25 0 0 24 := ⟨by kernel_rfl⟩
instance : eh Tryz.prog 25 1 2 3 := ⟨by kernel_rfl⟩
instance : iY Tryz.prog 25 [(0, 2), (2, 1)] := ⟨by kernel_rfl⟩
instance : aC Tryz.prog 26 3 true 32 [.bool false, .string { data := #[] }, .int .i64 0] := ⟨by kernel_rfl⟩
instance : eh Tryz.prog 26 0 0 24 := ⟨by kernel_rfl⟩
instance : eh Tryz.prog 26 1 2 3 := ⟨by kernel_rfl⟩
instance : iY Tryz.prog 26 [(0, 2), (2, 1)] := ⟨by kernel_rfl⟩
instance : aC Tryz.prog 30 2 true 32 [.int .i64 0, .slice none 0 0] := ⟨by kernel_rfl⟩
instance : eh Tryz.prog 30 0 0 3 := ⟨by kernel_rfl⟩
instance : eh Tryz.prog 30 1 1 22 := ⟨by kernel_rfl⟩
instance : iY Tryz.prog 30 [(0, 1), (1, 1)] := ⟨by kernel_rfl⟩
instance : aC Tryz.prog 31 2 true 32 [.int .i64 0, .slice none 0 0] := ⟨by kernel_rfl⟩
instance : eh Tryz.prog 31 0 0 3 := ⟨by kernel_rfl⟩
instance : eh Tryz.prog 31 1 1 22 := ⟨by kernel_rfl⟩
instance : iY Tryz.prog 31 [(0, 1), (1, 1)] := ⟨by kernel_rfl⟩
instance : aJ Tryz.prog 32 (.int .i64) := ⟨by kernel_rfl⟩
instance : aC Tryz.prog 32 1 false 8 [.int .i64 0] := ⟨by kernel_rfl⟩
instance : aJ Tryz.prog 39 (.slice 3) := ⟨by kernel_rfl⟩
instance : aC Tryz.prog 39 1 false 24 [.slice none 0 0] := ⟨by kernel_rfl⟩
instance : aJ Tryz.prog 45 (.slice 31) := ⟨by kernel_rfl⟩
instance : aC Tryz.prog 45 1 false 24 [.slice none 0 0] := ⟨by kernel_rfl⟩
instance : aJ Tryz.prog 56 (.slice 32) := ⟨by kernel_rfl⟩
instance : aC Tryz.prog 56 1 false 24 [.slice none 0 0] := ⟨by kernel_rfl⟩
instance : aC Tryz.prog 57 4 true 48 [.string { data := #[] }, .bool false, .string { data := #[] }, .int .i64 0] := ⟨by kernel_rfl⟩
instance : eh Tryz.prog 57 0 0 9 := ⟨by kernel_rfl⟩
instance : eh Tryz.prog 57 1 1 26 := ⟨by kernel_rfl⟩
instance : iY Tryz.prog 57 [(0, 1), (1, 3)] := ⟨by kernel_rfl⟩
instance : aC Tryz.prog 58 4 true 48 [.string { data := #[] }, .bool false, .string { data := #[] }, .int .i64 0] := ⟨by kernel_rfl⟩
instance : eh Tryz.prog 58 0 0 9 := ⟨by kernel_rfl⟩
instance : eh Tryz.prog 58 1 1 26 := ⟨by kernel_rfl⟩
instance : iY Tryz.prog 58 [(0, 1), (1, 3)] := ⟨by kernel_rfl⟩
instance : aJ Tryz.prog 60 (.slice 26) := ⟨by kernel_rfl⟩
instance : aC Tryz.prog 60 1 false 24 [.slice none 0 0] := ⟨by kernel_rfl⟩
instance : aJ Tryz.prog 72 (.slice 99) := ⟨by kernel_rfl⟩
instance : aC Tryz.prog 72 1 false 24 [.slice none 0 0] := ⟨by kernel_rfl⟩
instance : aJ Tryz.prog 73 (.slice 99) := ⟨by kernel_rfl⟩
instance : aC Tryz.prog 73 1 false 24 [.slice none 0 0] := ⟨by kernel_rfl⟩
instance : aC Tryz.prog 76 2 true 48 [.slice none 0 0, .slice none 0 0] := ⟨by kernel_rfl⟩
instance : eh Tryz.prog 76 0 0 39 := ⟨by kernel_rfl⟩
instance : eh Tryz.prog 76 1 1 60 := ⟨by kernel_rfl⟩
instance : iY Tryz.prog 76 [(0, 1), (1, 1)] := ⟨by kernel_rfl⟩
instance : aC Tryz.prog 77 2 true 48 [.slice none 0 0, .slice none 0 0] := ⟨by kernel_rfl⟩
instance : eh Tryz.prog 77 0 0 39 := ⟨by kernel_rfl⟩
instance : eh Tryz.prog 77 1 1 60 := ⟨by kernel_rfl⟩
instance : iY Tryz.prog 77 [(0, 1), (1, 1)] := ⟨by kernel_rfl⟩
instance : aC Tryz.prog 98 6 true 64 [.bool false, .string { data := #[] }, .int .i64 0, .bool false, .string { data := #[] }, .int .i64 0] := ⟨by kernel_rfl⟩
instance : eh Tryz.prog 98 0 0 26 := ⟨by kernel_rfl⟩
instance : eh Tryz.prog 98 1 3 26 := ⟨by kernel_rfl⟩
instance : iY Tryz.prog 98 [(0, 3), (3, 3)] := ⟨by kernel_rfl⟩
instance : aC Tryz.prog 99 6 true 64 [.bool false, .string { data := #[] }, .int .i64 0, .bool false, .string { data := #[] }, .int .i64 0] := ⟨by kernel_rfl⟩
instance : eh Tryz.prog 99 0 0 26 := ⟨by kernel_rfl⟩
instance : eh Tryz.prog 99 1 3 26 := ⟨by kernel_rfl⟩
instance : iY Tryz.prog 99 [(0, 3), (3, 3)] := ⟨by kernel_rfl⟩
instance : aJ Tryz.prog 115 (.slice 5) := ⟨by kernel_rfl⟩
instance : aC Tryz.prog 115 1 false 24 [.slice none 0 0] := ⟨by kernel_rfl⟩
instance : aJ Tryz.prog 122 (.slice 124) := ⟨by kernel_rfl⟩
instance : aC Tryz.prog 122 1 false 24 [.slice none 0 0] := ⟨by kernel_rfl⟩
instance : aC Tryz.prog 123 1 true 24 [.slice none 0 0] := ⟨by kernel_rfl⟩
instance : eh Tryz.prog 123 0 0 60 := ⟨by kernel_rfl⟩
instance : iY Tryz.prog 123 [(0, 1)] := ⟨by kernel_rfl⟩
instance : aC Tryz.prog 124 1 true 24 [.slice none 0 0] := ⟨by kernel_rfl⟩
instance : eh Tryz.prog 124 0 0 60 := ⟨by kernel_rfl⟩
instance : iY Tryz.prog 124 [(0, 1)] := ⟨by kernel_rfl⟩
instance : aC Tryz.prog 135 2 true 16 [.int .i64 0, .int .i64 0] := ⟨by kernel_rfl⟩
instance : eh Tryz.prog 135 0 0 3 := ⟨by kernel_rfl⟩
instance : eh Tryz.prog 135 1 1 3 := ⟨by kernel_rfl⟩
instance : iY Tryz.prog 135 [(0, 1), (1, 1)] := ⟨by kernel_rfl⟩
instance : aC Tryz.prog 136 2 true 16 [.int .i64 0, .int .i64 0] := ⟨by kernel_rfl⟩
instance : eh Tryz.prog 136 0 0 3 := ⟨by kernel_rfl⟩
instance : eh Tryz.prog 136 1 1 3 := ⟨by kernel_rfl⟩
instance : iY Tryz.prog 136 [(0, 1), (1, 1)] := ⟨by kernel_rfl⟩
instance : aJ Tryz.prog 142 (.slice 9) := ⟨by kernel_rfl⟩
instance : aC Tryz.prog 142 1 false 24 [.slice none 0 0] := ⟨by kernel_rfl⟩
instance : aJ Tryz.prog 156 (.int .i64) := ⟨by kernel_rfl⟩
instance : aC Tryz.prog 156 1 false 8 [.int .i64 0] := ⟨by kernel_rfl⟩
instance : aC Tryz.prog 157 5 true 56 [.int .i64 0, .bool false, .string { data := #[] }, .bool false, .string { data := #[] }] := ⟨by kernel_rfl⟩
instance : eh Tryz.prog 157 0 0 156 := ⟨by kernel_rfl⟩
instance : eh Tryz.prog 157 1 1 24 := ⟨by kernel_rfl⟩
instance : eh Tryz.prog 157 2 3 24 := ⟨by kernel_rfl⟩
instance : iY Tryz.prog 157 [(0, 1), (1, 2), (3, 2)] := ⟨by kernel_rfl⟩
instance : aC Tryz.prog 158 5 true 56 [.int .i64 0, .bool false, .string { data := #[] }, .bool false, .string { data := #[] }] := ⟨by kernel_rfl⟩
instance : eh Tryz.prog 158 0 0 156 := ⟨by kernel_rfl⟩
instance : eh Tryz.prog 158 1 1 24 := ⟨by kernel_rfl⟩
instance : eh Tryz.prog 158 2 3 24 := ⟨by kernel_rfl⟩
instance : iY Tryz.prog 158 [(0, 1), (1, 2), (3, 2)] := ⟨by kernel_rfl⟩
instance : aJ Tryz.prog 174 (.pointer 124) := ⟨by kernel_rfl⟩
instance : aC Tryz.prog 174 1 false 8 [.pointer none] := ⟨by kernel_rfl⟩
instance : aJ Tryz.prog 178 (.slice 2) := ⟨by kernel_rfl⟩
instance : aC Tryz.prog 178 1 false 24 [.slice none 0 0] := ⟨by kernel_rfl⟩
instance : aJ Tryz.prog 187 (.slice 24) := ⟨by kernel_rfl⟩
instance : aC Tryz.prog 187 1 false 24 [.slice none 0 0] := ⟨by kernel_rfl⟩
instance : aJ Tryz.prog 188 (.string) := ⟨by kernel_rfl⟩
instance : aC Tryz.prog 188 1 false 16 [.string { data := #[] }] := ⟨by kernel_rfl⟩
instance : aC Tryz.prog 189 2 true 24 [.string { data := #[] }, .bool false] := ⟨by kernel_rfl⟩
instance : eh Tryz.prog 189 0 0 188 := ⟨by kernel_rfl⟩
instance : eh Tryz.prog 189 1 1 4 := ⟨by kernel_rfl⟩
instance : iY Tryz.prog 189 [(0, 1), (1, 1)] := ⟨by kernel_rfl⟩
instance : aC Tryz.prog 190 2 true 24 [.string { data := #[] }, .bool false] := ⟨by kernel_rfl⟩
instance : eh Tryz.prog 190 0 0 188 := ⟨by kernel_rfl⟩
instance : eh Tryz.prog 190 1 1 4 := ⟨by kernel_rfl⟩
instance : iY Tryz.prog 190 [(0, 1), (1, 1)] := ⟨by kernel_rfl⟩
instance : aJ Tryz.prog 195 (.int .u64) := ⟨by kernel_rfl⟩
instance : aC Tryz.prog 195 1 false 8 [.int .u64 0] := ⟨by kernel_rfl⟩
instance : aC Tryz.prog 209 6 true 64 [.bool false, .string { data := #[] }, .int .i64 0, .bool false, .string { data := #[] }, .int .i64 0] := ⟨by kernel_rfl⟩
instance : eh Tryz.prog 209 0 0 99 := ⟨by kernel_rfl⟩
instance : iY Tryz.prog 209 [(0, 6)] := ⟨by kernel_rfl⟩
instance : aC Tryz.prog 210 6 true 64 [.bool false, .string { data := #[] }, .int .i64 0, .bool false, .string { data := #[] }, .int .i64 0] := ⟨by kernel_rfl⟩
instance : eh Tryz.prog 210 0 0 99 := ⟨by kernel_rfl⟩
instance : iY Tryz.prog 210 [(0, 6)] := ⟨by kernel_rfl⟩
instance : aJ Tryz.prog 212 (.slice 195) := ⟨by kernel_rfl⟩
instance : aC Tryz.prog 212 1 false 24 [.slice none 0 0] := ⟨by kernel_rfl⟩
instance : aJ Tryz.prog 213 (.slice 195) := ⟨by kernel_rfl⟩
instance : aC Tryz.prog 213 1 false 24 [.slice none 0 0] := ⟨by kernel_rfl⟩
instance : aJ Tryz.prog 229 (.array 64 5) := ⟨by kernel_rfl⟩
instance : aC Tryz.prog 229 64 true 64 [.int .u8 0, .int .u8 0, .int .u8 0, .int .u8 0, .int .u8 0, .int .u8 0, .int .u8 0, .int .u8 0, .int .u8 0, .int .u8 0, .int .u8 0, .int .u8 0, .int .u8 0, .int .u8 0, .int .u8 0, .int .u8 0, .int .u8 0, .int .u8 0, .int .u8 0, .int .u8 0, .int .u8 0, .int .u8 0, .int .u8 0, .int .u8 0, .int .u8 0, .int .u8 0, .int .u8 0, .int .u8 0, .int .u8 0, .int .u8 0, .int .u8 0, .int .u8 0, .int .u8 0, .int .u8 0, .int .u8 0, .int .u8 0, .int .u8 0, .int .u8 0, .int .u8 0, .int .u8 0, .int .u8 0, .int .u8 0, .int .u8 0, .int .u8 0, .int .u8 0, .int .u8 0, .int .u8 0, .int .u8 0, .int .u8 0, .int .u8 0, .int .u8 0, .int .u8 0, .int .u8 0, .int .u8 0, .int .u8 0, .int .u8 0, .int .u8 0, .int .u8 0, .int .u8 0, .int .u8 0, .int .u8 0, .int .u8 0, .int .u8 0, .int .u8 0] := ⟨by kernel_rfl⟩
instance : aJ Tryz.prog 230 (.int .u64) := ⟨by kernel_rfl⟩
instance : aC Tryz.prog 230 1 false 8 [.int .u64 0] := ⟨by kernel_rfl⟩
instance : aJ Tryz.prog 242 (.array 256 4) := ⟨by kernel_rfl⟩
instance : aJ Tryz.prog 243 (.array 256 4) := ⟨by kernel_rfl⟩
instance : aJ Tryz.prog 247 (.pointer 243) := ⟨by kernel_rfl⟩
instance : aC Tryz.prog 247 1 false 8 [.pointer none] := ⟨by kernel_rfl⟩
instance : aJ Tryz.prog 256 (.array 256 5) := ⟨by kernel_rfl⟩
instance : aC Tryz.prog 257 2 true 2 [.int .u8 0, .int .u8 0] := ⟨by kernel_rfl⟩
instance : eh Tryz.prog 257 0 0 5 := ⟨by kernel_rfl⟩
instance : eh Tryz.prog 257 1 1 5 := ⟨by kernel_rfl⟩
instance : iY Tryz.prog 257 [(0, 1), (1, 1)] := ⟨by kernel_rfl⟩
instance : aC Tryz.prog 258 2 true 2 [.int .u8 0, .int .u8 0] := ⟨by kernel_rfl⟩
instance : eh Tryz.prog 258 0 0 5 := ⟨by kernel_rfl⟩
instance : eh Tryz.prog 258 1 1 5 := ⟨by kernel_rfl⟩
instance : iY Tryz.prog 258 [(0, 1), (1, 1)] := ⟨by kernel_rfl⟩
instance : aJ Tryz.prog 259 (.array 16 258) := ⟨by kernel_rfl⟩
instance : aC Tryz.prog 259 32 true 32 [.int .u8 0, .int .u8 0, .int .u8 0, .int .u8 0, .int .u8 0, .int .u8 0, .int .u8 0, .int .u8 0, .int .u8 0, .int .u8 0, .int .u8 0, .int .u8 0, .int .u8 0, .int .u8 0, .int .u8 0, .int .u8 0, .int .u8 0, .int .u8 0, .int .u8 0, .int .u8 0, .int .u8 0, .int .u8 0, .int .u8 0, .int .u8 0, .int .u8 0, .int .u8 0, .int .u8 0, .int .u8 0, .int .u8 0, .int .u8 0, .int .u8 0, .int .u8 0] := ⟨by kernel_rfl⟩
instance : aC Tryz.prog 263 4 true 40 [.pointer none, .pointer none, .pointer none, .string { data := #[] }] := ⟨by kernel_rfl⟩
instance : eh Tryz.prog 263 0 0 17 := ⟨by kernel_rfl⟩
instance : eh Tryz.prog 263 1 1 17 := ⟨by kernel_rfl⟩
instance : eh Tryz.prog 263 2 2 17 := ⟨by kernel_rfl⟩
instance : eh Tryz.prog 263 3 3 9 := ⟨by kernel_rfl⟩
instance : iY Tryz.prog 263 [(0, 1), (1, 1), (2, 1), (3, 1)] := ⟨by kernel_rfl⟩
instance : aC Tryz.prog 264 4 true 40 [.pointer none, .pointer none, .pointer none, .string { data := #[] }] := ⟨by kernel_rfl⟩
instance : eh Tryz.prog 264 0 0 17 := ⟨by kernel_rfl⟩
instance : eh Tryz.prog 264 1 1 17 := ⟨by kernel_rfl⟩
instance : eh Tryz.prog 264 2 2 17 := ⟨by kernel_rfl⟩
instance : eh Tryz.prog 264 3 3 9 := ⟨by kernel_rfl⟩
instance : iY Tryz.prog 264 [(0, 1), (1, 1), (2, 1), (3, 1)] := ⟨by kernel_rfl⟩
instance : aJ Tryz.prog 265 (.array 0 16) := ⟨by kernel_rfl⟩
instance : aC Tryz.prog 265 0 true 0 [] := ⟨by kernel_rfl⟩
instance : aC Tryz.prog 266 0 true 0 [] := ⟨by kernel_rfl⟩
instance : iY Tryz.prog 266 [(0, 0)] := ⟨by kernel_rfl⟩
instance : aC Tryz.prog 267 0 true 0 [] := ⟨by kernel_rfl⟩
instance : iY Tryz.prog 267 [(0, 0)] := ⟨by kernel_rfl⟩
instance : aJ Tryz.prog 268 (.int .u32) := ⟨by kernel_rfl⟩
instance : aC Tryz.prog 268 1 false 4 [.int .u32 0] := ⟨by kernel_rfl⟩
instance : aJ Tryz.prog 269 (.int .u8) := ⟨by kernel_rfl⟩
instance : aC Tryz.prog 269 1 false 1 [.int .u8 0] := ⟨by kernel_rfl⟩
instance : aJ Tryz.prog 270 (.int .u8) := ⟨by kernel_rfl⟩
instance : aC Tryz.prog 270 1 false 1 [.int .u8 0] := ⟨by kernel_rfl⟩
instance : aJ Tryz.prog 272 (.pointer 5) := ⟨by kernel_rfl⟩
instance : aC Tryz.prog 272 1 false 8 [.pointer none] := ⟨by kernel_rfl⟩
instance : aJ Tryz.prog 273 (.int .i32) := ⟨by kernel_rfl⟩
instance : aC Tryz.prog 273 1 false 4 [.int .i32 0] := ⟨by kernel_rfl⟩
instance : aJ Tryz.prog 274 (.int .i32) := ⟨by kernel_rfl⟩
instance : aC Tryz.prog 274 1 false 4 [.int .i32 0] := ⟨by kernel_rfl⟩
instance : aC Tryz.prog 275 11 true 48 [.int .u64 0, .int .u64 0, .int .u32 0, .int .u8 0, .int .u8 0, .int .u8 0, .int .u8 0, .nilFunc, .pointer none, .int .i32 0, .int .i32 0] := ⟨by kernel_rfl⟩
instance : aC Tryz.prog 276 11 true 48 [.int .u64 0, .int .u64 0, .int .u32 0, .int .u8 0, .int .u8 0, .int .u8 0, .int .u8 0, .nilFunc, .pointer none, .int .i32 0, .int .i32 0] := ⟨by kernel_rfl⟩
theorem mixed : Tryz.prog.follows .mixedOrders = true := by kernel_rfl
instance : ar Tryz.prog 3 := ⟨by kernel_rfl⟩
instance : ar Tryz.prog 4 := ⟨by kernel_rfl⟩
instance : ar Tryz.prog 5 := ⟨by kernel_rfl⟩
instance : ar Tryz.prog 6 := ⟨by kernel_rfl⟩
instance : ar Tryz.prog 7 := ⟨by kernel_rfl⟩
instance : ar Tryz.prog 8 := ⟨by kernel_rfl⟩
instance : ar Tryz.prog 9 := ⟨by kernel_rfl⟩
instance : ar Tryz.prog 10 := ⟨by kernel_rfl⟩
instance : ar Tryz.prog 11 := ⟨by kernel_rfl⟩
instance : ar Tryz.prog 12 := ⟨by kernel_rfl⟩
instance : ar Tryz.prog 13 := ⟨by kernel_rfl⟩
instance : ar Tryz.prog 14 := ⟨by kernel_rfl⟩
instance : ar Tryz.prog 15 := ⟨by kernel_rfl⟩
instance : ar Tryz.prog 16 := ⟨by kernel_rfl⟩
instance : ar Tryz.prog 17 := ⟨by kernel_rfl⟩
instance : ar Tryz.prog 18 := ⟨by kernel_rfl⟩
instance : ar Tryz.prog 19 := ⟨by kernel_rfl⟩
instance : ar Tryz.prog 20 := ⟨by kernel_rfl⟩
instance : ar Tryz.prog 21 := ⟨by kernel_rfl⟩
instance : ar Tryz.prog 22 := ⟨by kernel_rfl⟩
instance : ar Tryz.prog 23 := ⟨by kernel_rfl⟩
instance : ar Tryz.prog 24 := ⟨by kernel_rfl⟩
instance : ar Tryz.prog 25 := ⟨by kernel_rfl⟩
instance : ar Tryz.prog 26 := ⟨by kernel_rfl⟩
instance : ar Tryz.prog 27 := ⟨by kernel_rfl⟩
instance : ar Tryz.prog 28 := ⟨by kernel_rfl⟩
instance : ar Tryz.prog 29 := ⟨by kernel_rfl⟩
instance : ar Tryz.prog 30 := ⟨by kernel_rfl⟩
instance : ar Tryz.prog 31 := ⟨by kernel_rfl⟩
instance : ar Tryz.prog 32 := ⟨by kernel_rfl⟩
instance : ar Tryz.prog 33 := ⟨by kernel_rfl⟩
instance : ar Tryz.prog 34 := ⟨by kernel_rfl⟩
instance : ar Tryz.prog 35 := ⟨by kernel_rfl⟩
instance : ar Tryz.prog 36 := ⟨by kernel_rfl⟩
instance : ar Tryz.prog 37 := ⟨by kernel_rfl⟩
instance : ar Tryz.prog 38 := ⟨by kernel_rfl⟩
instance : ar Tryz.prog 39 := ⟨by kernel_rfl⟩
instance : ar Tryz.prog 40 := ⟨by kernel_rfl⟩
instance : ar Tryz.prog 41 := ⟨by kernel_rfl⟩
instance : ar Tryz.prog 42 := ⟨by kernel_rfl⟩
instance : ar Tryz.prog 43 := ⟨by kernel_rfl⟩
instance : ar Tryz.prog 44 := ⟨by kernel_rfl⟩
instance : ar Tryz.prog 45 := ⟨by kernel_rfl⟩
instance : ar Tryz.prog 46 := ⟨by kernel_rfl⟩
instance : ar Tryz.prog 47 := ⟨by kernel_rfl⟩
instance : ar Tryz.prog 48 := ⟨by kernel_rfl⟩
instance : ar Tryz.prog 49 := ⟨by kernel_rfl⟩
instance : ar Tryz.prog 50 := ⟨by kernel_rfl⟩
instance : ar Tryz.prog 51 := ⟨by kernel_rfl⟩
instance : ar Tryz.prog 52 := ⟨by kernel_rfl⟩
instance : ar Tryz.prog 53 := ⟨by kernel_rfl⟩
instance : ar Tryz.prog 54 := ⟨by kernel_rfl⟩
instance : ar Tryz.prog 55 := ⟨by kernel_rfl⟩
instance : ar Tryz.prog 56 := ⟨by kernel_rfl⟩
instance : ar Tryz.prog 57 := ⟨by kernel_rfl⟩
instance : ar Tryz.prog 58 := ⟨by kernel_rfl⟩
instance : ar Tryz.prog 59 := ⟨by kernel_rfl⟩
instance : ar Tryz.prog 60 := ⟨by kernel_rfl⟩
instance : ar Tryz.prog 61 := ⟨by kernel_rfl⟩
instance : ar Tryz.prog 62 := ⟨by kernel_rfl⟩
instance : ar Tryz.prog 63 := ⟨by kernel_rfl⟩
instance : ar Tryz.prog 64 := ⟨by kernel_rfl⟩
instance : ar Tryz.prog 65 := ⟨by kernel_rfl⟩
instance : ar Tryz.prog 66 := ⟨by kernel_rfl⟩
instance : ar Tryz.prog 67 := ⟨by kernel_rfl⟩
instance : ar Tryz.prog 68 := ⟨by kernel_rfl⟩
instance : ar Tryz.prog 69 := ⟨by kernel_rfl⟩
instance : ar Tryz.prog 70 := ⟨by kernel_rfl⟩
instance : ar Tryz.prog 71 := ⟨by kernel_rfl⟩
instance : ar Tryz.prog 72 := ⟨by kernel_rfl⟩
instance : ar Tryz.prog 73 := ⟨by kernel_rfl⟩
instance : ar Tryz.prog 74 := ⟨by kernel_rfl⟩
instance : ar Tryz.prog 75 := ⟨by kernel_rfl⟩
instance : ar Tryz.prog 76 := ⟨by kernel_rfl⟩
instance : ar Tryz.prog 77 := ⟨by kernel_rfl⟩
instance : ar Tryz.prog 78 := ⟨by kernel_rfl⟩
instance : ar Tryz.prog 79 := ⟨by kernel_rfl⟩
instance : ar Tryz.prog 80 := ⟨by kernel_rfl⟩
instance : ar Tryz.prog 81 := ⟨by kernel_rfl⟩
instance : ar Tryz.prog 82 := ⟨by kernel_rfl⟩
instance : ar Tryz.prog 83 := ⟨by kernel_rfl⟩
instance : ar Tryz.prog 84 := ⟨by kernel_rfl⟩
instance : ar Tryz.prog 85 := ⟨by kernel_rfl⟩
instance : ar Tryz.prog 86 := ⟨by kernel_rfl⟩
instance : ar Tryz.prog 87 := ⟨by kernel_rfl⟩
instance : ar Tryz.prog 88 := ⟨by kernel_rfl⟩
instance : ar Tryz.prog 89 := ⟨by kernel_rfl⟩
instance : ar Tryz.prog 90 := ⟨by kernel_rfl⟩
instance : ar Tryz.prog 91 := ⟨by kernel_rfl⟩
instance : ar Tryz.prog 92 := ⟨by kernel_rfl⟩
instance : ar Tryz.prog 93 := ⟨by kernel_rfl⟩
instance : ar Tryz.prog 94 := ⟨by kernel_rfl⟩
instance : ar Tryz.prog 95 := ⟨by kernel_rfl⟩
instance : ar Tryz.prog 96 := ⟨by kernel_rfl⟩
instance : ar Tryz.prog 97 := ⟨by kernel_rfl⟩
instance : ar Tryz.prog 98 := ⟨by kernel_rfl⟩
instance : ar Tryz.prog 99 := ⟨by kernel_rfl⟩
instance : ar Tryz.prog 100 := ⟨by kernel_rfl⟩
instance : ar Tryz.prog 101 := ⟨by kernel_rfl⟩
instance : ar Tryz.prog 102 := ⟨by kernel_rfl⟩
instance : ar Tryz.prog 103 := ⟨by kernel_rfl⟩
instance : ar Tryz.prog 104 := ⟨by kernel_rfl⟩
instance : ar Tryz.prog 105 := ⟨by kernel_rfl⟩
instance : ar Tryz.prog 106 := ⟨by kernel_rfl⟩
instance : ar Tryz.prog 107 := ⟨by kernel_rfl⟩
instance : ar Tryz.prog 108 := ⟨by kernel_rfl⟩
instance : ar Tryz.prog 109 := ⟨by kernel_rfl⟩
instance : ar Tryz.prog 110 := ⟨by kernel_rfl⟩
instance : ar Tryz.prog 111 := ⟨by kernel_rfl⟩
instance : ar Tryz.prog 112 := ⟨by kernel_rfl⟩
instance : ar Tryz.prog 113 := ⟨by kernel_rfl⟩
instance : ar Tryz.prog 114 := ⟨by kernel_rfl⟩
instance : ar Tryz.prog 115 := ⟨by kernel_rfl⟩
instance : ar Tryz.prog 116 := ⟨by kernel_rfl⟩
instance : ar Tryz.prog 117 := ⟨by kernel_rfl⟩
instance : ar Tryz.prog 118 := ⟨by kernel_rfl⟩
instance : ar Tryz.prog 119 := ⟨by kernel_rfl⟩
instance : ar Tryz.prog 120 := ⟨by kernel_rfl⟩
instance : ar Tryz.prog 121 := ⟨by kernel_rfl⟩
instance : ar Tryz.prog 122 := ⟨by kernel_rfl⟩
instance : ar Tryz.prog 123 := ⟨by kernel_rfl⟩
instance : ar Tryz.prog 124 := ⟨by kernel_rfl⟩
instance : ar Tryz.prog 125 := ⟨by kernel_rfl⟩
instance : ar Tryz.prog 126 := ⟨by kernel_rfl⟩
instance : ar Tryz.prog 127 := ⟨by kernel_rfl⟩
instance : ar Tryz.prog 128 := ⟨by kernel_rfl⟩
instance : ar Tryz.prog 129 := ⟨by kernel_rfl⟩
instance : ar Tryz.prog 130 := ⟨by kernel_rfl⟩
instance : ar Tryz.prog 131 := ⟨by kernel_rfl⟩
instance : ar Tryz.prog 132 := ⟨by kernel_rfl⟩
instance : ar Tryz.prog 133 := ⟨by kernel_rfl⟩
instance : ar Tryz.prog 134 := ⟨by kernel_rfl⟩
instance : ar Tryz.prog 135 := ⟨by kernel_rfl⟩
instance : ar Tryz.prog 136 := ⟨by kernel_rfl⟩
instance : ar Tryz.prog 137 := ⟨by kernel_rfl⟩
instance : ar Tryz.prog 138 := ⟨by kernel_rfl⟩
instance : ar Tryz.prog 139 := ⟨by kernel_rfl⟩
instance : ar Tryz.prog 140 := ⟨by kernel_rfl⟩
instance : ar Tryz.prog 141 := ⟨by kernel_rfl⟩
instance : ar Tryz.prog 142 := ⟨by kernel_rfl⟩
instance : ar Tryz.prog 143 := ⟨by kernel_rfl⟩
instance : ar Tryz.prog 144 := ⟨by kernel_rfl⟩
instance : ar Tryz.prog 145 := ⟨by kernel_rfl⟩
instance : ar Tryz.prog 146 := ⟨by kernel_rfl⟩
instance : ar Tryz.prog 147 := ⟨by kernel_rfl⟩
instance : ar Tryz.prog 148 := ⟨by kernel_rfl⟩
instance : ar Tryz.prog 149 := ⟨by kernel_rfl⟩
instance : ar Tryz.prog 150 := ⟨by kernel_rfl⟩
instance : ar Tryz.prog 151 := ⟨by kernel_rfl⟩
instance : ar Tryz.prog 152 := ⟨by kernel_rfl⟩
instance : ar Tryz.prog 153 := ⟨by kernel_rfl⟩
instance : ar Tryz.prog 154 := ⟨by kernel_rfl⟩
instance : ar Tryz.prog 155 := ⟨by kernel_rfl⟩
instance : ar Tryz.prog 156 := ⟨by kernel_rfl⟩
instance : ar Tryz.prog 157 := ⟨by kernel_rfl⟩
instance : ar Tryz.prog 158 := ⟨by kernel_rfl⟩
instance : ar Tryz.prog 159 := ⟨by kernel_rfl⟩
instance : ar Tryz.prog 160 := ⟨by kernel_rfl⟩
instance : ar Tryz.prog 161 := ⟨by kernel_rfl⟩
instance : ar Tryz.prog 162 := ⟨by kernel_rfl⟩
instance : ar Tryz.prog 163 := ⟨by kernel_rfl⟩
instance : ar Tryz.prog 164 := ⟨by kernel_rfl⟩
instance : ar Tryz.prog 165 := ⟨by kernel_rfl⟩
instance : ar Tryz.prog 166 := ⟨by kernel_rfl⟩
instance : ar Tryz.prog 167 := ⟨by kernel_rfl⟩
instance : ar Tryz.prog 168 := ⟨by kernel_rfl⟩
instance : ar Tryz.prog 169 := ⟨by kernel_rfl⟩
instance : ar Tryz.prog 170 := ⟨by kernel_rfl⟩
instance : ar Tryz.prog 171 := ⟨by kernel_rfl⟩
instance : ar Tryz.prog 172 := ⟨by kernel_rfl⟩
instance : ar Tryz.prog 173 := ⟨by kernel_rfl⟩
instance : ar Tryz.prog 174 := ⟨by kernel_rfl⟩
instance : ar Tryz.prog 175 := ⟨by kernel_rfl⟩
instance : ar Tryz.prog 176 := ⟨by kernel_rfl⟩
instance : ar Tryz.prog 177 := ⟨by kernel_rfl⟩
instance : ar Tryz.prog 178 := ⟨by kernel_rfl⟩
instance : ar Tryz.prog 179 := ⟨by kernel_rfl⟩
instance : ar Tryz.prog 180 := ⟨by kernel_rfl⟩
instance : ar Tryz.prog 181 := ⟨by kernel_rfl⟩
instance : ar Tryz.prog 182 := ⟨by kernel_rfl⟩
instance : ar Tryz.prog 183 := ⟨by kernel_rfl⟩
instance : ar Tryz.prog 184 := ⟨by kernel_rfl⟩
instance : ar Tryz.prog 185 := ⟨by kernel_rfl⟩
instance : ar Tryz.prog 186 := ⟨by kernel_rfl⟩
instance : ar Tryz.prog 187 := ⟨by kernel_rfl⟩
instance : ar Tryz.prog 188 := ⟨by kernel_rfl⟩
instance : ar Tryz.prog 189 := ⟨by kernel_rfl⟩
instance : ar Tryz.prog 190 := ⟨by kernel_rfl⟩
instance : ar Tryz.prog 191 := ⟨by kernel_rfl⟩
instance : ar Tryz.prog 192 := ⟨by kernel_rfl⟩
instance : ar Tryz.prog 193 := ⟨by kernel_rfl⟩
instance : ar Tryz.prog 194 := ⟨by kernel_rfl⟩
instance : ar Tryz.prog 195 := ⟨by kernel_rfl⟩
instance : ar Tryz.prog 196 := ⟨by kernel_rfl⟩
instance : ar Tryz.prog 197 := ⟨by kernel_rfl⟩
instance : ar Tryz.prog 198 := ⟨by kernel_rfl⟩
instance : ar Tryz.prog 199 := ⟨by kernel_rfl⟩
instance : ar Tryz.prog 200 := ⟨by kernel_rfl⟩
instance : ar Tryz.prog 201 := ⟨by kernel_rfl⟩
instance : ar Tryz.prog 202 := ⟨by kernel_rfl⟩
instance : ar Tryz.prog 203 := ⟨by kernel_rfl⟩
instance : ar Tryz.prog 204 := ⟨by kernel_rfl⟩
instance : ar Tryz.prog 205 := ⟨by kernel_rfl⟩
instance : ar Tryz.prog 206 := ⟨by kernel_rfl⟩
instance : ar Tryz.prog 207 := ⟨by kernel_rfl⟩
instance : ar Tryz.prog 208 := ⟨by kernel_rfl⟩
instance : ar Tryz.prog 209 := ⟨by kernel_rfl⟩
instance : ar Tryz.prog 210 := ⟨by kernel_rfl⟩
instance : ar Tryz.prog 211 := ⟨by kernel_rfl⟩
instance : ar Tryz.prog 212 := ⟨by kernel_rfl⟩
instance : ar Tryz.prog 213 := ⟨by kernel_rfl⟩
instance : ar Tryz.prog 214 := ⟨by kernel_rfl⟩
instance : ar Tryz.prog 215 := ⟨by kernel_rfl⟩
instance : ar Tryz.prog 216 := ⟨by kernel_rfl⟩
instance : ar Tryz.prog 217 := ⟨by kernel_rfl⟩
instance : ar Tryz.prog 218 := ⟨by kernel_rfl⟩
instance : ar Tryz.prog 219 := ⟨by kernel_rfl⟩
instance : ar Tryz.prog 220 := ⟨by kernel_rfl⟩
instance : ar Tryz.prog 221 := ⟨by kernel_rfl⟩
instance : ar Tryz.prog 222 := ⟨by kernel_rfl⟩
instance : ar Tryz.prog 223 := ⟨by kernel_rfl⟩
instance : ar Tryz.prog 224 := ⟨by kernel_rfl⟩
instance : ar Tryz.prog 225 := ⟨by kernel_rfl⟩
instance : ar Tryz.prog 226 := ⟨by kernel_rfl⟩
instance : ar Tryz.prog 227 := ⟨by kernel_rfl⟩
instance : ar Tryz.prog 228 := ⟨by kernel_rfl⟩
instance : ar Tryz.prog 229 := ⟨by kernel_rfl⟩
instance : ar Tryz.prog 230 := ⟨by kernel_rfl⟩
instance : ar Tryz.prog 231 := ⟨by kernel_rfl⟩
instance : ar Tryz.prog 232 := ⟨by kernel_rfl⟩
instance : ar Tryz.prog 233 := ⟨by kernel_rfl⟩
instance : ar Tryz.prog 234 := ⟨by kernel_rfl⟩
instance : ar Tryz.prog 235 := ⟨by kernel_rfl⟩
instance : ar Tryz.prog 236 := ⟨by kernel_rfl⟩
instance : ar Tryz.prog 237 := ⟨by kernel_rfl⟩
instance : ar Tryz.prog 238 := ⟨by kernel_rfl⟩
instance : ar Tryz.prog 239 := ⟨by kernel_rfl⟩
instance : ar Tryz.prog 240 := ⟨by kernel_rfl⟩
instance : ar Tryz.prog 241 := ⟨by kernel_rfl⟩
instance : ar Tryz.prog 242 := ⟨by kernel_rfl⟩
instance : ar Tryz.prog 243 := ⟨by kernel_rfl⟩
instance : ar Tryz.prog 244 := ⟨by kernel_rfl⟩
instance : ar Tryz.prog 245 := ⟨by kernel_rfl⟩
instance : ar Tryz.prog 246 := ⟨by kernel_rfl⟩
instance : ar Tryz.prog 247 := ⟨by kernel_rfl⟩
instance : ar Tryz.prog 248 := ⟨by kernel_rfl⟩
instance : ar Tryz.prog 249 := ⟨by kernel_rfl⟩
instance : ar Tryz.prog 250 := ⟨by kernel_rfl⟩
instance : ar Tryz.prog 251 := ⟨by kernel_rfl⟩
instance : ar Tryz.prog 252 := ⟨by kernel_rfl⟩
instance : ar Tryz.prog 253 := ⟨by kernel_rfl⟩
instance : ar Tryz.prog 254 := ⟨by kernel_rfl⟩
instance : ar Tryz.prog 257 := ⟨by kernel_rfl⟩
instance : ar Tryz.prog 258 := ⟨by kernel_rfl⟩
instance : ar Tryz.prog 259 := ⟨by kernel_rfl⟩
instance : ar Tryz.prog 260 := ⟨by kernel_rfl⟩
instance : ar Tryz.prog 261 := ⟨by kernel_rfl⟩
instance : ar Tryz.prog 262 := ⟨by kernel_rfl⟩
instance : ar Tryz.prog 263 := ⟨by kernel_rfl⟩
instance : ar Tryz.prog 264 := ⟨by kernel_rfl⟩
instance : ar Tryz.prog 265 := ⟨by kernel_rfl⟩
instance : ar Tryz.prog 267 := ⟨by kernel_rfl⟩
instance : ar Tryz.prog 268 := ⟨by kernel_rfl⟩
instance : ar Tryz.prog 269 := ⟨by kernel_rfl⟩
instance : ar Tryz.prog 270 := ⟨by kernel_rfl⟩
instance : ar Tryz.prog 271 := ⟨by kernel_rfl⟩
instance : ar Tryz.prog 272 := ⟨by kernel_rfl⟩
end Go.Proofs.YtkgdagjklakajaaGreatDoor
/- The rules of Steps once more, short to write: what they can find by themselves they look for. Plain lemmas, no program in sight. -/
namespace Go.Proofs.YtkgdagjklakajaaGreatDoor
open Go.RowKit
section
variable {ro : Mode} {P : Program} {N d : Nat} {ops : Array Oper} {Q : Kq} {ρ : Rf} {w w0 : World} {rest : List Oper} {H : List HE} {ty : TypeId} {pos : String} {af : Array Edge} {x y : Operand} {t u : TypeId}
theorem mI {k : IntKind} {a : Int} (kk : WL ro P N ops Q rest (cv ρ d (.int k a)) w) (hx : ev ρ x = .int k a := by exact bI rfl) (hN : d < N := by decide) : WL ro P N ops Q (⟨some d, .move x, ty, pos, af, none⟩ :: rest) ρ w := fL hx hN kk
theorem aI {k : IntKind} {a : Int} (kk : WL ro P N ops Q rest (cv ρ d (.int k a)) w) (hx : ev ρ x = .int k a := by exact bI rfl) (hN : d < N := by decide) : WL ro P N ops Q (⟨some d, .assign x, ty, pos, af, none⟩ :: rest) ρ w := kW hx hN kk
theorem mB {a : Bool} (kk : WL ro P N ops Q rest (cv ρ d (.bool a)) w) (hx : ev ρ x = .bool a := by exact mq rfl) (hN : d < N := by decide) : WL ro P N ops Q (⟨some d, .move x, ty, pos, af, none⟩ :: rest) ρ w := fL hx hN kk
theorem aB {a : Bool} (kk : WL ro P N ops Q rest (cv ρ d (.bool a)) w) (hx : ev ρ x = .bool a := by exact mq rfl) (hN : d < N := by decide) : WL ro P N ops Q (⟨some d, .assign x, ty, pos, af, none⟩ :: rest) ρ w := kW hx hN kk
theorem mS {a : ByteArray} (kk : WL ro P N ops Q rest (cv ρ d (.string a)) w) (hx : ev ρ x = .string a := by exact wj rfl) (hN : d < N := by decide) : WL ro P N ops Q (⟨some d, .move x, ty, pos, af, none⟩ :: rest) ρ w := fL hx hN kk
theorem aS {a : ByteArray} (kk : WL ro P N ops Q rest (cv ρ d (.string a)) w) (hx : ev ρ x = .string a := by exact wj rfl) (hN : d < N := by decide) : WL ro P N ops Q (⟨some d, .assign x, ty, pos, af, none⟩ :: rest) ρ w := kW hx hN kk
theorem mL {A : Option Addr} {n c : Nat} (kk : WL ro P N ops Q rest (cv ρ d (.slice A n c)) w) (hx : ev ρ x = .slice A n c := by exact yY rfl) (hN : d < N := by decide) : WL ro P N ops Q (⟨some d, .move x, ty, pos, af, none⟩ :: rest) ρ w := fL hx hN kk
theorem aL {A : Option Addr} {n c : Nat} (kk : WL ro P N ops Q rest (cv ρ d (.slice A n c)) w) (hx : ev ρ x = .slice A n c := by exact yY rfl) (hN : d < N := by decide) : WL ro P N ops Q (⟨some d, .assign x, ty, pos, af, none⟩ :: rest) ρ w := kW hx hN kk
theorem mT {l : List Value} (kk : WL ro P N ops Q rest (cv ρ d (.tuple l.toArray)) w) (hx : ev ρ x = .tuple l.toArray := by exact za rfl) (hN : d < N := by decide) : WL ro P N ops Q (⟨some d, .move x, ty, pos, af, none⟩ :: rest) ρ w := fL hx hN kk
theorem aZ {k : IntKind} {a b : Int} {r : Bool} (kk : WL ro P N ops Q rest (cv ρ d (.bool r)) w) (hx : ev ρ x = .int k a := by exact rfl) (hy : ev ρ y = .int k b := by exact rfl) (hr : decide (a < b) = r := by first | exact decide_eq_true (by omega) | exact decide_eq_false (by omega) | exact rfl) (hN : d < N := by decide) : WL ro P N ops Q (⟨some d, .binOp .lss t x y u, ty, pos, af, none⟩ :: rest) ρ w := xZ hx hy hN (by rw [hr]; exact kk)
theorem zK {k : IntKind} {a b : Int} {r : Bool} (kk : WL ro P N ops Q rest (cv ρ d (.bool r)) w) (hx : ev ρ x = .int k a := by exact rfl) (hy : ev ρ y = .int k b := by exact rfl) (hr : decide (a ≤ b) = r := by first | exact decide_eq_true (by omega) | exact decide_eq_false (by omega) | exact rfl) (hN : d < N := by decide) : WL ro P N ops Q (⟨some d, .binOp .leq t x y u, ty, pos, af, none⟩ :: rest) ρ w := xL hx hy hN (by rw [hr]; exact kk)
theorem cg {k : IntKind} {a b : Int} {r : Bool} (kk : WL ro P N ops Q rest (cv ρ d (.bool r)) w) (hx : ev ρ x = .int k a := by exact rfl) (hy : ev ρ y = .int k b := by exact rfl) (hr : decide (b < a) = r := by first | exact decide_eq_true (by omega) | exact decide_eq_false (by omega) | exact rfl) (hN : d < N := by decide) : WL ro P N ops Q (⟨some d, .binOp .gtr t x y u, ty, pos, af, none⟩ :: rest) ρ w := xy hx hy hN (by rw [hr]; exact kk)
theorem dx {k : IntKind} {a b : Int} {r : Bool} (kk : WL ro P N ops Q rest (cv ρ d (.bool r)) w) (hx : ev ρ x = .int k a := by exact rfl) (hy : ev ρ y = .int k b := by exact rfl) (hr : decide (b ≤ a) = r := by first | exact decide_eq_true (by omega) | exact decide_eq_false (by omega) | exact rfl) (hN : d < N := by decide) : WL ro P N ops Q (⟨some d, .binOp .geq t x y u, ty, pos, af, none⟩ :: rest) ρ w := xS hx hy hN (by rw [hr]; exact kk)
theorem cI {k : IntKind} {a b : Int} {r : Bool} (kk : WL ro P N ops Q rest (cv ρ d (.bool r)) w) (hx : ev ρ x = .int k a := by exact rfl) (hy : ev ρ y = .int k b := by exact rfl) (hr : decide (a = b) = r := by first | exact decide_eq_true (by omega) | exact decide_eq_false (by omega) | exact rfl) (hN : d < N := by decide) : WL ro P N ops Q (⟨some d, .binOp .eql t x y u, ty, pos, af, none⟩ :: rest) ρ w := tH hx hy hN (by rw [hr]; exact kk)
theorem dR {k : IntKind} {a b : Int} {r : Bool} (kk : WL ro P N ops Q rest (cv ρ d (.bool r)) w) (hx : ev ρ x = .int k a := by exact rfl) (hy : ev ρ y = .int k b := by exact rfl) (hr : decide (a ≠ b) = r := by first | exact decide_eq_true (by omega) | exact decide_eq_false (by omega) | exact rfl) (hN : d < N := by decide) : WL ro P N ops Q (⟨some d, .binOp .neq t x y u, ty, pos, af, none⟩ :: rest) ρ w := x9 hx hy hN (by rw [hr]; exact kk)
theorem bO {a b : Int} (kk : WL ro P N ops Q rest (cv ρ d (.int .i64 (a + b))) w) (hx : ev ρ x = .int .i64 a := by exact rfl) (hy : ev ρ y = .int .i64 b := by exact rfl) (h1 : -9223372036854775808 ≤ a + b := by omega) (h2 : a + b ≤ 9223372036854775807 := by omega) (hN : d < N := by decide) : WL ro P N ops Q (⟨some d, .binOp .add t x y u, ty, pos, af, none⟩ :: rest) ρ w := zg hx hy h1 h2 hN kk
theorem fp {a b : Int} (kk : WL ro P N ops Q rest (cv ρ d (.int .i64 (a - b))) w) (hx : ev ρ x = .int .i64 a := by exact rfl) (hy : ev ρ y = .int .i64 b := by exact rfl) (h1 : -9223372036854775808 ≤ a - b := by omega) (h2 : a - b ≤ 9223372036854775807 := by omega) (hN : d < N := by decide) : WL ro P N ops Q (⟨some d, .binOp .sub t x y u, ty, pos, af, none⟩ :: rest) ρ w := ze hx hy h1 h2 hN kk
theorem mulC {a b : Int} (kk : WL ro P N ops Q rest (cv ρ d (.int .i64 (a * b))) w) (hx : ev ρ x = .int .i64 a := by exact rfl) (hy : ev ρ y = .int .i64 b := by exact rfl) (h1 : -9223372036854775808 ≤ a * b := by omega) (h2 : a * b ≤ 9223372036854775807 := by omega) (hN : d < N := by decide) : WL ro P N ops Q (⟨some d, .binOp .mul t x y u, ty, pos, af, none⟩ :: rest) ρ w := zJ hx hy h1 h2 hN kk
theorem cM {i : Nat} {vs : List Value} {v : Value} (kk : WL ro P N ops Q rest (cv ρ d (v)) w) (hx : ev ρ x = .tuple vs.toArray := by exact rfl) (hv : vs[i]? = some v := by exact rfl) (hN : d < N := by decide) : WL ro P N ops Q (⟨some d, .extract x i, ty, pos, af, none⟩ :: rest) ρ w := uR hx hv hN kk
theorem eo {b : Bool} (kk : WL ro P N ops Q rest (cv ρ d (.bool !b)) w) (hx : ev ρ x = .bool b := by exact rfl) (hN : d < N := by decide) : WL ro P N ops Q (⟨some d, .unOp .not t x, ty, pos, af, none⟩ :: rest) ρ w := Aq hx hN kk
theorem a5 {e : TypeId} {A : Option Addr} {n c : Nat} [ht : aJ P t (.slice e)] (kk : WL ro P N ops Q rest (cv ρ d (.int .i64 n)) w) (hx : ev ρ x = .slice A n c := by exact rfl) (hN : d < N := by decide) : WL ro P N ops Q (⟨some d, .call ⟨.builtin .len, #[x], #[t]⟩, ty, pos, af, none⟩ :: rest) ρ w := vU ht.out hx hN kk
theorem bP {s : TypeId} {f b o off : Nat} {ft : TypeId} [hf : eh P s f off ft] (kk : WL ro P N ops Q rest (cv ρ d (.pointer (some ⟨b, o + off, none⟩))) w) (hx : ev ρ x = .pointer (some ⟨b, o, none⟩) := by exact rfl) (hN : d < N := by decide) : WL ro P N ops Q (⟨some d, .fieldAddr s x f, ty, pos, af, none⟩ :: rest) ρ w := qR hf.out hx hN kk
theorem bQ {b o n by' : Nat} {zc cs : List Value} {fz : Nat × Nat} {t' : TypeId} {v : Value} (hh : Hp w0 H w) (i : Nat) [ht : aC P t n false by' zc] (kk : WL ro P N ops Q rest (cv ρ d (v)) w) (hx : ev ρ x = .pointer (some ⟨b, o, none⟩) := by exact rfl) (hi : H[i]? = some (.blk b t' cs fz) := by exact rfl) (hv : cs[o]? = some v := by exact rfl) (hN : d < N := by decide) : WL ro P N ops Q (⟨some d, .load t x, ty, pos, af, none⟩ :: rest) ρ w := bJ ht.out hx (hh.iH hi hv) hN kk
theorem cf {b o n by' : Nat} {zc cs : List Value} {fz : Nat × Nat} {t' : TypeId} (hh : Hp w0 H w) (i : Nat) (vs : List Value) [ht : aC P t n true by' zc] (kk : WL ro P N ops Q rest (cv ρ d (.agg vs.toArray)) w) (hx : ev ρ x = .pointer (some ⟨b, o, none⟩) := by exact rfl) (hi : H[i]? = some (.blk b t' cs fz) := by exact rfl) (hv : (cs.drop o).take n = vs := by exact rfl) (hl : vs.length = n := by exact rfl) (hN : d < N := by decide) : WL ro P N ops Q (⟨some d, .load t x, ty, pos, af, none⟩ :: rest) ρ w := cb ht.out hx (hh.aw hi hv) hl hN kk
theorem cj {n by' : Nat} {ag : Bool} {zc : List Value} (hh : Hp w0 H w) [ht : aC P t n ag by' zc] (kk : ∀ b w', Hp w0 (.blk b t zc (0, 0) :: H) w' → WL ro P N ops Q rest (cv ρ d (.pointer (some ⟨b, 0, none⟩))) w') (hN : d < N := by decide) : WL ro P N ops Q (⟨some d, .alloc t, ty, pos, af, none⟩ :: rest) ρ w := vT hh ht.out hN kk
theorem dp {v : Value} (hh : Hp w0 H w) (cs : List Value) (kk : ∀ b w', Hp w0 (.blk b t cs (0, 0) :: H) w' → WL ro P N ops Q rest (cv ρ d (.pointer (some ⟨b, 0, none⟩))) w') (hx : ev ρ x = v := by exact rfl) (hc : v.cells = cs.toArray := by exact rfl) (hN : d < N := by decide) : WL ro P N ops Q (⟨some d, .box t x, ty, pos, af, none⟩ :: rest) ρ w := zH hh hx hc hN kk
theorem bK {t' : TypeId} {b o n by' : Nat} {ag : Bool} {zc cs : List Value} {fz : Nat × Nat} {v : Value} (hh : Hp w0 H w) (i : Nat) (vs : List Value) [ht : aC P t n ag by' zc] (kk : ∀ w', Hp w0 (H.set i (.blk b t' (bV cs o vs) fz)) w' → WL ro P N ops Q rest ρ w') (hx : ev ρ x = .pointer (some ⟨b, o, none⟩) := by exact rfl) (hi : H[i]? = some (.blk b t' cs fz) := by exact rfl) (hy : ev ρ y = v := by exact rfl) (hc : v.cells = vs.toArray := by exact rfl) (hl : vs.length = n := by exact rfl) (ho : o + n ≤ cs.length := by simp) (h1 : (vs.all Value.oneCell') = true := by exact rfl) : WL ro P N ops Q (⟨none, .store t x y, ty, pos, af, none⟩ :: rest) ρ w := xb hh hx hi hy hc ht.out hl ho h1 kk
theorem eM {n by' : Nat} {parts : Array (Nat × Operand)} {ps : List (Nat × Value)} {zc : List Value} {pl : List (Nat × Nat)} (cs : List Value) [hte : aC P t n true by' zc] [hpl : iY P t pl] (kk : WL ro P N ops Q rest (cv ρ d (.agg cs.toArray)) w) (hp : rQ ρ parts.toList = ps := by exact rfl) (hf : iy (pl[·]?) zc ps = some cs := by exact rfl) (hN : d < N := by decide) : WL ro P N ops Q (⟨some d, .build t parts, ty, pos, af, none⟩ :: rest) ρ w := xB hte.out hpl.out hp hf hN kk
theorem ct {c a b : Operand} {v : Bool} (kk : WL ro P N ops Q rest (cv ρ d (.bool v)) w) (hc : ev ρ c = .bool true := by exact rfl) (hx : ev ρ a = .bool v := by exact mq rfl) (hN : d < N := by decide) : WL ro P N ops Q (⟨some d, .pick c a b, ty, pos, af, none⟩ :: rest) ρ w := wC hc hx hN kk
theorem cq {c a b : Operand} {v : Bool} (kk : WL ro P N ops Q rest (cv ρ d (.bool v)) w) (hc : ev ρ c = .bool false := by exact rfl) (hx : ev ρ b = .bool v := by exact mq rfl) (hN : d < N := by decide) : WL ro P N ops Q (⟨some d, .pick c a b, ty, pos, af, none⟩ :: rest) ρ w := wT hc hx hN kk
theorem gS {op : Op} {j dj : Nat} {b c : Bool} (kk : WL ro P N ops Q rest (cv ρ d undef) w) (hN : d < N := by decide) (hj : (ops[j]?).bind (·.dst) = some dj := by exact rfl) (hv : ρ dj = .bool c := by exact rfl) (hb : c ≠ b := by decide) : WL ro P N ops Q (⟨some d, op, ty, pos, af, some (j, b)⟩ :: rest) ρ w := bH hN hj hv hb kk
theorem gV {op : Op} {j dj : Nat} {b : Bool} (kk : WL ro P N ops Q rest (cv ρ d undef) w) (hN : d < N := by decide) (hj : (ops[j]?).bind (·.dst) = some dj := by exact rfl) (hb : nb (ρ dj) b = true := by exact rfl) : WL ro P N ops Q (⟨some d, op, ty, pos, af, some (j, b)⟩ :: rest) ρ w := fF hN hj hb kk
theorem gT {dd : Option Nat} {op : Op} {j dj : Nat} {b : Bool} (kk : WL ro P N ops Q (⟨dd, op, ty, pos, af, none⟩ :: rest) ρ w) (hj : (ops[j]?).bind (·.dst) = some dj := by exact rfl) (hv : ρ dj = .bool b := by exact rfl) : WL ro P N ops Q (⟨dd, op, ty, pos, af, some (j, b)⟩ :: rest) ρ w := aX hj hv kk
theorem bE {f : FuncId} {args : Array Operand} {ts : Array TypeId} {vs : List Value} {v : Value} (hh : Hp w0 H w) (hc : Calls P f vs.toArray w fun e w' => e = .returned v ∧ Below w.heap.size w w') [hf : ar P f] (ha : qq ρ args.toList = vs) (kk : ∀ w', Hp w0 H w' → WL ro P N ops Q rest (cv ρ d v) w') (hN : d < N := by decide) : WL ro P N ops Q (⟨some d, .call ⟨.value (.func f), args, ts⟩, ty, pos, af, none⟩ :: rest) ρ w := aH hc hf.out ha hN fun _ _ hq => ⟨_, hq.1, kk _ (hh.ext hq.2)⟩
theorem sr {id : Nat} {y : Code} {l : List Oper} (h : WL ro P N l.toArray (eF (fun ρ w => WC ro P N y Q ρ w) Q) l ρ w) : WC ro P N (.seq (.region id l.toArray false) y) Q ρ w := ai (au h)
theorem cT {c : Operand} {x y : Code} (h : WC ro P N x Q ρ w) (hc : ev ρ c = .bool true := by exact rfl) : WC ro P N (.cond c x y) Q ρ w := uC hc h
theorem cF {c : Operand} {x y : Code} (h : WC ro P N y Q ρ w) (hc : ev ρ c = .bool false := by exact rfl) : WC ro P N (.cond c x y) Q ρ w := uK hc h
theorem cd {P : Program} {fn : Func} {R : Ending → World → Prop} {ρ : Rf} {w : World} {e : Exit} {t0 : Tmp} {v0 : Value} (h : R (.returned v0) w) (hr : fn.results = #[.tmp t0] := by exact rfl) (h0 : ρ t0 = v0 := by first | exact dq rfl | exact fq rfl | exact oE rfl | exact vp rfl | exact v_agg rfl | exact rfl) (he : e = .normal ∨ e = .ret := by first | exact .inr rfl | exact .inl rfl) : jW P fn R e ρ w := AD he hr h0 h
theorem u4 {P : Program} {fn : Func} {R : Ending → World → Prop} {ρ : Rf} {w : World} {e : Exit} {t0 t1 : Tmp} {v0 v1 : Value} (h : R (.returned (.tuple #[v0, v1])) w) (hr : fn.results = #[.tmp t0, .tmp t1] := by exact rfl) (h0 : ρ t0 = v0 := by first | exact dq rfl | exact fq rfl | exact oE rfl | exact vp rfl | exact v_agg rfl | exact rfl) (h1 : ρ t1 = v1 := by first | exact dq rfl | exact fq rfl | exact oE rfl | exact vp rfl | exact v_agg rfl | exact rfl) (he : e = .normal ∨ e = .ret := by first | exact .inr rfl | exact .inl rfl) : jW P fn R e ρ w := Av he hr h0 h1 h
theorem AW {P : Program} {fn : Func} {R : Ending → World → Prop} {ρ : Rf} {w : World} {e : Exit} {t0 t1 t2 : Tmp} {v0 v1 v2 : Value} (h : R (.returned (.tuple #[v0, v1, v2])) w) (hr : fn.results = #[.tmp t0, .tmp t1, .tmp t2] := by exact rfl) (h0 : ρ t0 = v0 := by first | exact dq rfl | exact fq rfl | exact oE rfl | exact vp rfl | exact v_agg rfl | exact rfl) (h1 : ρ t1 = v1 := by first | exact dq rfl | exact fq rfl | exact oE rfl | exact vp rfl | exact v_agg rfl | exact rfl) (h2 : ρ t2 = v2 := by first | exact dq rfl | exact fq rfl | exact oE rfl | exact vp rfl | exact v_agg rfl | exact rfl) (he : e = .normal ∨ e = .ret := by first | exact .inr rfl | exact .inl rfl) : jW P fn R e ρ w := Az he hr h0 h1 h2 h
theorem hO {P : Program} {fn : Func} {R : Ending → World → Prop} {ρ : Rf} {w : World} {e : Exit} {r0 : ResultVar} {v0 : Value} (h1 : fM P ρ w [r0] [v0]) (h : R (.returned v0) w) (hr : fn.results = #[r0] := by exact rfl) (he : e = .normal ∨ e = .ret := by first | exact .inr rfl | exact .inl rfl) : jW P fn R e ρ w := Ab he hr h1 h
theorem lB {P : Program} {fn : Func} {R : Ending → World → Prop} {ρ : Rf} {w : World} {e : Exit} {r0 r1 : ResultVar} {v0 v1 : Value} (h1 : fM P ρ w [r0, r1] [v0, v1]) (h : R (.returned (.tuple #[v0, v1])) w) (hr : fn.results = #[r0, r1] := by exact rfl) (he : e = .normal ∨ e = .ret := by first | exact .inr rfl | exact .inl rfl) : jW P fn R e ρ w := z4 he hr h1 h
theorem yo {P : Program} {fn : Func} {R : Ending → World → Prop} {ρ : Rf} {w : World} {e : Exit} {r0 r1 r2 : ResultVar} {v0 v1 v2 : Value} (h1 : fM P ρ w [r0, r1, r2] [v0, v1, v2]) (h : R (.returned (.tuple #[v0, v1, v2])) w) (hr : fn.results = #[r0, r1, r2] := by exact rfl) (he : e = .normal ∨ e = .ret := by first | exact .inr rfl | exact .inl rfl) : jW P fn R e ρ w := zX he hr h1 h
end
class TS (P : Program) (t : TypeId) (n : outParam Nat) : Prop where out : (P.info? t).map (·.size) = some n
instance {P : Program} {t n b : Nat} {ag : Bool} {zc : List Value} [aC P t n ag b zc] : TS P t n := ⟨aC.size⟩
end Go.Proofs.YtkgdagjklakajaaGreatDoor
