/- Lemmas for bernSums, part 2. -/
import Derived.Deep.AppendSrc
import Derived.Deep.Upon
import Init
import Derived.Laws.Externs
import Derived.Lib.Mul64
import Derived.Test.YteeckcbbnegmcaaGreatDoorZ1
namespace Go.Proofs.YteeckcbbnegmcaaGreatDoor
open Go.RowKit
section
variable {ro : Mode} {P : Program} {N d : Nat} {ops : Array Oper} {Q : Kq} {ρ : Rf} {w w0 : World} {rest : List Oper} {H : List HE} {ty : TypeId} {pos : String} {af : Array Edge} {x y : Operand} {t u : TypeId}
theorem mI {k : IntKind} {a : Int} (kk : WL ro P N ops Q rest (cG ρ d (.int k a)) w) (hx : ev ρ x = .int k a := by exact cH rfl) (hN : d < N := by decide) : WL ro P N ops Q (⟨some d, .move x, ty, pos, af, none⟩ :: rest) ρ w := qI hx hN kk
theorem aI {k : IntKind} {a : Int} (kk : WL ro P N ops Q rest (cG ρ d (.int k a)) w) (hx : ev ρ x = .int k a := by exact cH rfl) (hN : d < N := by decide) : WL ro P N ops Q (⟨some d, .assign x, ty, pos, af, none⟩ :: rest) ρ w := j1 hx hN kk
theorem mB {a : Bool} (kk : WL ro P N ops Q rest (cG ρ d (.bool a)) w) (hx : ev ρ x = .bool a := by exact r6 rfl) (hN : d < N := by decide) : WL ro P N ops Q (⟨some d, .move x, ty, pos, af, none⟩ :: rest) ρ w := qI hx hN kk
theorem aB {a : Bool} (kk : WL ro P N ops Q rest (cG ρ d (.bool a)) w) (hx : ev ρ x = .bool a := by exact r6 rfl) (hN : d < N := by decide) : WL ro P N ops Q (⟨some d, .assign x, ty, pos, af, none⟩ :: rest) ρ w := j1 hx hN kk
theorem mS {a : ByteArray} (kk : WL ro P N ops Q rest (cG ρ d (.string a)) w) (hx : ev ρ x = .string a := by exact C3 rfl) (hN : d < N := by decide) : WL ro P N ops Q (⟨some d, .move x, ty, pos, af, none⟩ :: rest) ρ w := qI hx hN kk
theorem aS {a : ByteArray} (kk : WL ro P N ops Q rest (cG ρ d (.string a)) w) (hx : ev ρ x = .string a := by exact C3 rfl) (hN : d < N := by decide) : WL ro P N ops Q (⟨some d, .assign x, ty, pos, af, none⟩ :: rest) ρ w := j1 hx hN kk
theorem mL {A : Option Addr} {n c : Nat} (kk : WL ro P N ops Q rest (cG ρ d (.slice A n c)) w) (hx : ev ρ x = .slice A n c := by exact DD rfl) (hN : d < N := by decide) : WL ro P N ops Q (⟨some d, .move x, ty, pos, af, none⟩ :: rest) ρ w := qI hx hN kk
theorem aL {A : Option Addr} {n c : Nat} (kk : WL ro P N ops Q rest (cG ρ d (.slice A n c)) w) (hx : ev ρ x = .slice A n c := by exact DD rfl) (hN : d < N := by decide) : WL ro P N ops Q (⟨some d, .assign x, ty, pos, af, none⟩ :: rest) ρ w := j1 hx hN kk
theorem mT {l : List Value} (kk : WL ro P N ops Q rest (cG ρ d (.tuple l.toArray)) w) (hx : ev ρ x = .tuple l.toArray := by exact Oo rfl) (hN : d < N := by decide) : WL ro P N ops Q (⟨some d, .move x, ty, pos, af, none⟩ :: rest) ρ w := qI hx hN kk
theorem bf {k : IntKind} {a b : Int} {r : Bool} (kk : WL ro P N ops Q rest (cG ρ d (.bool r)) w) (hx : ev ρ x = .int k a := by exact rfl) (hy : ev ρ y = .int k b := by exact rfl) (hr : decide (a < b) = r := by first | exact decide_eq_true Tx | exact decide_eq_false Tx | exact rfl) (hN : d < N := by decide) : WL ro P N ops Q (⟨some d, .binOp .lss t x y u, ty, pos, af, none⟩ :: rest) ρ w := L8 hx hy hN (by rw [hr]; exact kk)
theorem RQ {k : IntKind} {a b : Int} {r : Bool} (kk : WL ro P N ops Q rest (cG ρ d (.bool r)) w) (hx : ev ρ x = .int k a := by exact rfl) (hy : ev ρ y = .int k b := by exact rfl) (hr : decide (a ≤ b) = r := by first | exact decide_eq_true Tx | exact decide_eq_false Tx | exact rfl) (hN : d < N := by decide) : WL ro P N ops Q (⟨some d, .binOp .leq t x y u, ty, pos, af, none⟩ :: rest) ρ w := LR hx hy hN (by rw [hr]; exact kk)
theorem bM {k : IntKind} {a b : Int} {r : Bool} (kk : WL ro P N ops Q rest (cG ρ d (.bool r)) w) (hx : ev ρ x = .int k a := by exact rfl) (hy : ev ρ y = .int k b := by exact rfl) (hr : decide (b < a) = r := by first | exact decide_eq_true Tx | exact decide_eq_false Tx | exact rfl) (hN : d < N := by decide) : WL ro P N ops Q (⟨some d, .binOp .gtr t x y u, ty, pos, af, none⟩ :: rest) ρ w := KM hx hy hN (by rw [hr]; exact kk)
theorem dR {k : IntKind} {a b : Int} {r : Bool} (kk : WL ro P N ops Q rest (cG ρ d (.bool r)) w) (hx : ev ρ x = .int k a := by exact rfl) (hy : ev ρ y = .int k b := by exact rfl) (hr : decide (b ≤ a) = r := by first | exact decide_eq_true Tx | exact decide_eq_false Tx | exact rfl) (hN : d < N := by decide) : WL ro P N ops Q (⟨some d, .binOp .geq t x y u, ty, pos, af, none⟩ :: rest) ρ w := KK hx hy hN (by rw [hr]; exact kk)
theorem cW {k : IntKind} {a b : Int} {r : Bool} (kk : WL ro P N ops Q rest (cG ρ d (.bool r)) w) (hx : ev ρ x = .int k a := by exact rfl) (hy : ev ρ y = .int k b := by exact rfl) (hr : decide (a = b) = r := by first | exact decide_eq_true Tx | exact decide_eq_false Tx | exact rfl) (hN : d < N := by decide) : WL ro P N ops Q (⟨some d, .binOp .eql t x y u, ty, pos, af, none⟩ :: rest) ρ w := Et hx hy hN (by rw [hr]; exact kk)
theorem cK {k : IntKind} {a b : Int} {r : Bool} (kk : WL ro P N ops Q rest (cG ρ d (.bool r)) w) (hx : ev ρ x = .int k a := by exact rfl) (hy : ev ρ y = .int k b := by exact rfl) (hr : decide (a ≠ b) = r := by first | exact decide_eq_true Tx | exact decide_eq_false Tx | exact rfl) (hN : d < N := by decide) : WL ro P N ops Q (⟨some d, .binOp .neq t x y u, ty, pos, af, none⟩ :: rest) ρ w := KG hx hy hN (by rw [hr]; exact kk)
theorem bh {a b : Int} (kk : WL ro P N ops Q rest (cG ρ d (.int .i64 (a + b))) w) (hx : ev ρ x = .int .i64 a := by exact rfl) (hy : ev ρ y = .int .i64 b := by exact rfl) (h1 : -9223372036854775808 ≤ a + b := by omega) (h2 : a + b ≤ 9223372036854775807 := by omega) (hN : d < N := by decide) : WL ro P N ops Q (⟨some d, .binOp .add t x y u, ty, pos, af, none⟩ :: rest) ρ w := PB hx hy h1 h2 hN kk
theorem dT {a b : Int} (kk : WL ro P N ops Q rest (cG ρ d (.int .i64 (a - b))) w) (hx : ev ρ x = .int .i64 a := by exact rfl) (hy : ev ρ y = .int .i64 b := by exact rfl) (h1 : -9223372036854775808 ≤ a - b := by omega) (h2 : a - b ≤ 9223372036854775807 := by omega) (hN : d < N := by decide) : WL ro P N ops Q (⟨some d, .binOp .sub t x y u, ty, pos, af, none⟩ :: rest) ρ w := OM hx hy h1 h2 hN kk
theorem mulC {a b : Int} (kk : WL ro P N ops Q rest (cG ρ d (.int .i64 (a * b))) w) (hx : ev ρ x = .int .i64 a := by exact rfl) (hy : ev ρ y = .int .i64 b := by exact rfl) (h1 : -9223372036854775808 ≤ a * b := by omega) (h2 : a * b ≤ 9223372036854775807 := by omega) (hN : d < N := by decide) : WL ro P N ops Q (⟨some d, .binOp .mul t x y u, ty, pos, af, none⟩ :: rest) ρ w := Pv hx hy h1 h2 hN kk
theorem dq {i : Nat} {vs : List Value} {v : Value} (kk : WL ro P N ops Q rest (cG ρ d (v)) w) (hx : ev ρ x = .tuple vs.toArray := by exact rfl) (hv : vs[i]? = some v := by exact rfl) (hN : d < N := by decide) : WL ro P N ops Q (⟨some d, .extract x i, ty, pos, af, none⟩ :: rest) ρ w := Gu hx hv hN kk
theorem gC {b : Bool} (kk : WL ro P N ops Q rest (cG ρ d (.bool !b)) w) (hx : ev ρ x = .bool b := by exact rfl) (hN : d < N := by decide) : WL ro P N ops Q (⟨some d, .unOp .not t x, ty, pos, af, none⟩ :: rest) ρ w := QN hx hN kk
theorem aJ {e : TypeId} {A : Option Addr} {n c : Nat} [ht : bg P t (.slice e)] (kk : WL ro P N ops Q rest (cG ρ d (.int .i64 n)) w) (hx : ev ρ x = .slice A n c := by exact rfl) (hN : d < N := by decide) : WL ro P N ops Q (⟨some d, .call ⟨.builtin .len, #[x], #[t]⟩, ty, pos, af, none⟩ :: rest) ρ w := HT ht.out hx hN kk
theorem bD {s : TypeId} {f b o off : Nat} {ft : TypeId} [hf : eL P s f off ft] (kk : WL ro P N ops Q rest (cG ρ d (.pointer (some ⟨b, o + off, none⟩))) w) (hx : ev ρ x = .pointer (some ⟨b, o, none⟩) := by exact rfl) (hN : d < N := by decide) : WL ro P N ops Q (⟨some d, .fieldAddr s x f, ty, pos, af, none⟩ :: rest) ρ w := yX hf.out hx hN kk
theorem bB {b o n by' : Nat} {zc cs : List Value} {fz : Nat × Nat} {t' : TypeId} {v : Value} (hh : Hp w0 H w) (i : Nat) [ht : aN P t n false by' zc] (kk : WL ro P N ops Q rest (cG ρ d (v)) w) (hx : ev ρ x = .pointer (some ⟨b, o, none⟩) := by exact rfl) (hi : H[i]? = some (.blk b t' cs fz) := by exact rfl) (hv : cs[o]? = some v := by exact rfl) (hN : d < N := by decide) : WL ro P N ops Q (⟨some d, .load t x, ty, pos, af, none⟩ :: rest) ρ w := bT ht.out hx (hh.dX hi hv) hN kk
theorem cD {b o n by' : Nat} {zc cs : List Value} {fz : Nat × Nat} {t' : TypeId} (hh : Hp w0 H w) (i : Nat) (vs : List Value) [ht : aN P t n true by' zc] (kk : WL ro P N ops Q rest (cG ρ d (.agg vs.toArray)) w) (hx : ev ρ x = .pointer (some ⟨b, o, none⟩) := by exact rfl) (hi : H[i]? = some (.blk b t' cs fz) := by exact rfl) (hv : (cs.drop o).take n = vs := by exact rfl) (hl : vs.length = n := by exact rfl) (hN : d < N := by decide) : WL ro P N ops Q (⟨some d, .load t x, ty, pos, af, none⟩ :: rest) ρ w := ct ht.out hx (hh.ck hi hv) hl hN kk
theorem bR {n by' : Nat} {ag : Bool} {zc : List Value} (hh : Hp w0 H w) [ht : aN P t n ag by' zc] (kk : ∀ b w', Hp w0 (.blk b t zc (0, 0) :: H) w' → WL ro P N ops Q rest (cG ρ d (.pointer (some ⟨b, 0, none⟩))) w') (hN : d < N := by decide) : WL ro P N ops Q (⟨some d, .alloc t, ty, pos, af, none⟩ :: rest) ρ w := Hu hh ht.out hN kk
theorem cx {v : Value} (hh : Hp w0 H w) (cs : List Value) (kk : ∀ b w', Hp w0 (.blk b t cs (0, 0) :: H) w' → WL ro P N ops Q rest (cG ρ d (.pointer (some ⟨b, 0, none⟩))) w') (hx : ev ρ x = v := by exact rfl) (hc : v.cells = cs.toArray := by exact rfl) (hN : d < N := by decide) : WL ro P N ops Q (⟨some d, .box t x, ty, pos, af, none⟩ :: rest) ρ w := Pm hh hx hc hN kk
theorem bW {t' : TypeId} {b o n by' : Nat} {ag : Bool} {zc cs : List Value} {fz : Nat × Nat} {v : Value} (hh : Hp w0 H w) (i : Nat) (vs : List Value) [ht : aN P t n ag by' zc] (kk : ∀ w', Hp w0 (H.set i (.blk b t' (cm cs o vs) fz)) w' → WL ro P N ops Q rest ρ w') (hx : ev ρ x = .pointer (some ⟨b, o, none⟩) := by exact rfl) (hi : H[i]? = some (.blk b t' cs fz) := by exact rfl) (hy : ev ρ y = v := by exact rfl) (hc : v.cells = vs.toArray := by exact rfl) (hl : vs.length = n := by exact rfl) (ho : o + n ≤ cs.length := by simp) (h1 : (vs.all Value.oneCell') = true := by exact rfl) : WL ro P N ops Q (⟨none, .store t x y, ty, pos, af, none⟩ :: rest) ρ w := Br hh hx hi hy hc ht.out hl ho h1 kk
theorem gj {n by' : Nat} {parts : Array (Nat × Operand)} {ps : List (Nat × Value)} {zc : List Value} {pl : List (Nat × Nat)} (cs : List Value) [hte : aN P t n true by' zc] [hpl : kF P t pl] (kk : WL ro P N ops Q rest (cG ρ d (.agg cs.toArray)) w) (hp : wI ρ parts.toList = ps := by exact rfl) (hf : ke (pl[·]?) zc ps = some cs := by exact rfl) (hN : d < N := by decide) : WL ro P N ops Q (⟨some d, .build t parts, ty, pos, af, none⟩ :: rest) ρ w := Mp hte.out hpl.out hp hf hN kk
theorem fu {c a b : Operand} {v : Bool} (kk : WL ro P N ops Q rest (cG ρ d (.bool v)) w) (hc : ev ρ c = .bool true := by exact rfl) (hx : ev ρ a = .bool v := by exact r6 rfl) (hN : d < N := by decide) : WL ro P N ops Q (⟨some d, .pick c a b, ty, pos, af, none⟩ :: rest) ρ w := HN hc hx hN kk
theorem dK {c a b : Operand} {v : Bool} (kk : WL ro P N ops Q rest (cG ρ d (.bool v)) w) (hc : ev ρ c = .bool false := by exact rfl) (hx : ev ρ b = .bool v := by exact r6 rfl) (hN : d < N := by decide) : WL ro P N ops Q (⟨some d, .pick c a b, ty, pos, af, none⟩ :: rest) ρ w := Hx hc hx hN kk
theorem gS {op : Op} {j dj : Nat} {b c : Bool} (kk : WL ro P N ops Q rest (cG ρ d undef) w) (hN : d < N := by decide) (hj : (ops[j]?).bind (·.dst) = some dj := by exact rfl) (hv : ρ dj = .bool c := by exact rfl) (hb : c ≠ b := by decide) : WL ro P N ops Q (⟨some d, op, ty, pos, af, some (j, b)⟩ :: rest) ρ w := kD hN hj hv hb kk
theorem gV {op : Op} {j dj : Nat} {b : Bool} (kk : WL ro P N ops Q rest (cG ρ d undef) w) (hN : d < N := by decide) (hj : (ops[j]?).bind (·.dst) = some dj := by exact rfl) (hb : nb (ρ dj) b = true := by exact rfl) : WL ro P N ops Q (⟨some d, op, ty, pos, af, some (j, b)⟩ :: rest) ρ w := tC hN hj hb kk
theorem gT {dd : Option Nat} {op : Op} {j dj : Nat} {b : Bool} (kk : WL ro P N ops Q (⟨dd, op, ty, pos, af, none⟩ :: rest) ρ w) (hj : (ops[j]?).bind (·.dst) = some dj := by exact rfl) (hv : ρ dj = .bool b := by exact rfl) : WL ro P N ops Q (⟨dd, op, ty, pos, af, some (j, b)⟩ :: rest) ρ w := aH hj hv kk
theorem bz {f : FuncId} {args : Array Operand} {ts : Array TypeId} {vs : List Value} {v : Value} (hh : Hp w0 H w) (hc : Calls P f vs.toArray w fun e w' => e = .returned v ∧ Below w.heap.size w w') [hf : ak P f] (ha : wN ρ args.toList = vs) (kk : ∀ w', Hp w0 H w' → WL ro P N ops Q rest (cG ρ d v) w') (hN : d < N := by decide) : WL ro P N ops Q (⟨some d, .call ⟨.value (.func f), args, ts⟩, ty, pos, af, none⟩ :: rest) ρ w := aE hc hf.out ha hN fun _ _ hq => ⟨_, hq.1, kk _ (hh.ext hq.2)⟩
theorem sr {id : Nat} {y : Code} {l : List Oper} (h : WL ro P N l.toArray (cv (fun ρ w => WC ro P N y Q ρ w) Q) l ρ w) : WC ro P N (.seq (.region id l.toArray false) y) Q ρ w := ah (al h)
theorem cT {c : Operand} {x y : Code} (h : WC ro P N x Q ρ w) (hc : ev ρ c = .bool true := by exact rfl) : WC ro P N (.cond c x y) Q ρ w := FY hc h
theorem cF {c : Operand} {x y : Code} (h : WC ro P N y Q ρ w) (hc : ev ρ c = .bool false := by exact rfl) : WC ro P N (.cond c x y) Q ρ w := F0 hc h
theorem cX {P : Program} {fn : Func} {R : Ending → World → Prop} {ρ : Rf} {w : World} {e : Exit} {t0 : Tmp} {v0 : Value} (h : R (.returned v0) w) (hr : fn.results = #[.tmp t0] := by exact rfl) (h0 : ρ t0 = v0 := by first | exact kP rfl | exact mr rfl | exact vW rfl | exact Gh rfl | exact v_agg rfl | exact rfl) (he : e = .normal ∨ e = .ret := by first | exact .inr rfl | exact .inl rfl) : mi P fn R e ρ w := Sm he hr h0 h
theorem Kl {P : Program} {fn : Func} {R : Ending → World → Prop} {ρ : Rf} {w : World} {e : Exit} {t0 t1 : Tmp} {v0 v1 : Value} (h : R (.returned (.tuple #[v0, v1])) w) (hr : fn.results = #[.tmp t0, .tmp t1] := by exact rfl) (h0 : ρ t0 = v0 := by first | exact kP rfl | exact mr rfl | exact vW rfl | exact Gh rfl | exact v_agg rfl | exact rfl) (h1 : ρ t1 = v1 := by first | exact kP rfl | exact mr rfl | exact vW rfl | exact Gh rfl | exact v_agg rfl | exact rfl) (he : e = .normal ∨ e = .ret := by first | exact .inr rfl | exact .inl rfl) : mi P fn R e ρ w := Sn he hr h0 h1 h
theorem Te {P : Program} {fn : Func} {R : Ending → World → Prop} {ρ : Rf} {w : World} {e : Exit} {t0 t1 t2 : Tmp} {v0 v1 v2 : Value} (h : R (.returned (.tuple #[v0, v1, v2])) w) (hr : fn.results = #[.tmp t0, .tmp t1, .tmp t2] := by exact rfl) (h0 : ρ t0 = v0 := by first | exact kP rfl | exact mr rfl | exact vW rfl | exact Gh rfl | exact v_agg rfl | exact rfl) (h1 : ρ t1 = v1 := by first | exact kP rfl | exact mr rfl | exact vW rfl | exact Gh rfl | exact v_agg rfl | exact rfl) (h2 : ρ t2 = v2 := by first | exact kP rfl | exact mr rfl | exact vW rfl | exact Gh rfl | exact v_agg rfl | exact rfl) (he : e = .normal ∨ e = .ret := by first | exact .inr rfl | exact .inl rfl) : mi P fn R e ρ w := Si he hr h0 h1 h2 h
theorem KT {P : Program} {fn : Func} {R : Ending → World → Prop} {ρ : Rf} {w : World} {e : Exit} {r0 : ResultVar} {v0 : Value} (h1 : gK P ρ w [r0] [v0]) (h : R (.returned v0) w) (hr : fn.results = #[r0] := by exact rfl) (he : e = .normal ∨ e = .ret := by first | exact .inr rfl | exact .inl rfl) : mi P fn R e ρ w := Qv he hr h1 h
theorem P6 {P : Program} {fn : Func} {R : Ending → World → Prop} {ρ : Rf} {w : World} {e : Exit} {r0 r1 : ResultVar} {v0 v1 : Value} (h1 : gK P ρ w [r0, r1] [v0, v1]) (h : R (.returned (.tuple #[v0, v1])) w) (hr : fn.results = #[r0, r1] := by exact rfl) (he : e = .normal ∨ e = .ret := by first | exact .inr rfl | exact .inl rfl) : mi P fn R e ρ w := QD he hr h1 h
theorem SC {P : Program} {fn : Func} {R : Ending → World → Prop} {ρ : Rf} {w : World} {e : Exit} {r0 r1 r2 : ResultVar} {v0 v1 v2 : Value} (h1 : gK P ρ w [r0, r1, r2] [v0, v1, v2]) (h : R (.returned (.tuple #[v0, v1, v2])) w) (hr : fn.results = #[r0, r1, r2] := by exact rfl) (he : e = .normal ∨ e = .ret := by first | exact .inr rfl | exact .inl rfl) : mi P fn R e ρ w := Rq he hr h1 h
end
class TS (P : Program) (t : TypeId) (n : outParam Nat) : Prop where out : (P.info? t).map (·.size) = some n
instance {P : Program} {t n b : Nat} {ag : Bool} {zc : List Value} [aN P t n ag b zc] : TS P t n := ⟨aN.size⟩
section
variable {D : List Deferred}
section
variable {P : Program} {N : Nat} {Q : Kq} {ρ : Rf} {w : World}
def Oc (ops : Array Oper) : Nat → Nat → Nat → Bool
 | 0, _, _ => false
 | n + 1, k, i => match ops[k]? with
  | none => false
  | some o => (o.after.any fun e => Region.binds .any e && e.on == i) || o.after.any fun e => Region.binds .any e && Oc ops n e.on i
def qo (ops : Array Oper) (L : Array Bool) : Prop := ∀ k o, ops[k]? = some o → L.getD k false = true → ∀ e ∈ o.after, Region.binds .any e = true → L.getD e.on false = true
theorem mz {ops : Array Oper} {L : Array Bool} (hc : qo ops L) : ∀ (n k i : Nat), (∀ o, ops[k]? = some o → ∀ e ∈ o.after, Region.binds .any e = true → L.getD e.on false = true) → Oc ops n k i = true → L.getD i false = true
 | 0, _, _, _, h => by simp [Oc] at h
 | n + 1, k, i, hk, h => by
  unfold Oc at h;split at h
  ·cases h
  ·rename_i o ho;rw [Bool.or_eq_true] at h
   rcases h with h | h
   ·obtain ⟨e, he, h⟩ := Array.any_eq_true'.1 h;simp only [Bool.and_eq_true, beq_iff_eq] at h;rw [← h.2];exact hk o ho e he h.1
   ·obtain ⟨e, he, h⟩ := Array.any_eq_true'.1 h;simp only [Bool.and_eq_true] at h;have h1 := hk o ho e he h.1;exact mz hc n e.on i (fun o' ho' => hc e.on o' ho' h1) h.2
structure OG (P : Program) (ops : Array Oper) (o : Oper) (ρ : Rf) (w : World) (K : Value → World → Prop) : Prop where
 out : ∀ (a : Act) (next : Act → World → Prop) (Q : Exit → Act → World → Prop), (∀ i, a.tmps.getD i undef = ρ i) → (∀ v w', K v w' → next (a.put o.dst v) w') →
  if Region.wanted o (yielded ops a.tmps) then o.wp P a w next Q ∨ (o.asks P a w ∧ LetsOut Q) else next (a.put o.dst undef) w
theorem Ed {a : Act} (h : ∀ i, a.tmps.getD i undef = ρ i) : a.eval = ev ρ := by
 funext x
 cases x with
 | tmp t => exact h t
 | _ => rfl
theorem fC {ops : Array Oper} {o : Oper} {K : Value → World → Prop} {v : Value} {w' : World} (hg : o.guard = none) (hr : (execOp (ev ρ) o).run P w = .ok (.value v) w') (hk : K v w') : OG P ops o ρ w K :=
 ⟨fun a next Q ha hn => by
  rw [if_pos (by simp [Region.wanted, hg])];refine .inl ?_;unfold Oper.wp;rw [Ed ha, hr];exact hn _ _ hk⟩
theorem a8 {ops : Array Oper} {o : Oper} {K : Value → World → Prop} {f : FuncId} {args : Array Value} {w1 : World} {R : Ending → World → Prop} (hg : o.guard = none) (hr : (execOp (ev ρ) o).run P w = .ok (.enter f args) w1) (hc : Calls P f args w1 R)
  (hk : ∀ e w', R e w' → ∃ v, e = .returned v ∧ K v w') : OG P ops o ρ w K :=
 ⟨fun a next Q ha hn => by
  rw [if_pos (by simp [Region.wanted, hg])];refine .inl ?_;unfold Oper.wp;rw [Ed ha, hr];show Calls P f args w1 _;refine hc.mono fun e w' hR => ?_;obtain ⟨v, rfl, hkv⟩ := hk e w' hR;exact hn _ _ hkv⟩
theorem a7 {ops : Array Oper} {K : Value → World → Prop} {d : Option Nat} {op : Op} {ty : TypeId} {pos : String} {af : Array Edge} {j dj : Nat} {b : Bool}
  (hj : (ops[j]?).bind (·.dst) = some dj) (hv : ρ dj = .bool b) (h : OG P ops ⟨d, op, ty, pos, af, none⟩ ρ w K) : OG P ops ⟨d, op, ty, pos, af, some (j, b)⟩ ρ w K :=
 ⟨fun a next Q ha hn => by
  have h1 : Region.wanted ⟨d, op, ty, pos, af, some (j, b)⟩ (yielded ops a.tmps) = true := by
   have h2 := ha dj;rw [hv, Array.getD_eq_getD_getElem?] at h2
   cases h3 : a.tmps[dj]? with
   | none => rw [h3] at h2; cases h2
   | some x =>
    rw [h3] at h2;simp only [Option.getD_some] at h2;subst h2;simp [Region.wanted, yielded, hj, h3]
  have h2 := h.out a next Q ha hn;rw [if_pos (by simp [Region.wanted])] at h2;rw [if_pos h1];exact h2⟩
theorem u4 {ops : Array Oper} {K : Value → World → Prop} {d : Option Nat} {op : Op} {ty : TypeId} {pos : String} {af : Array Edge} {j dj : Nat} {b c : Bool}
  (hj : (ops[j]?).bind (·.dst) = some dj) (hv : ρ dj = .bool c) (hb : c ≠ b) (h : K undef w) : OG P ops ⟨d, op, ty, pos, af, some (j, b)⟩ ρ w K :=
 ⟨fun a next Q ha hn => by
  have h1 : Region.wanted ⟨d, op, ty, pos, af, some (j, b)⟩ (yielded ops a.tmps) = false := by
   have h2 := ha dj;rw [hv, Array.getD_eq_getD_getElem?] at h2
   cases h3 : a.tmps[dj]? with
   | none => rw [h3] at h2; cases h2
   | some x =>
    rw [h3] at h2;simp only [Option.getD_some] at h2;subst h2;simp [Region.wanted, yielded, hj, h3, hb]
  rw [h1];exact hn _ _ h⟩
def df (V : Nat → Value → World → Prop) (ρ ρ1 : Rf) (w1 : World) : List (Nat × Option Nat) → Prop
 | [] => True
 | (t, some j) :: r => V j (ρ1 t) w1 ∧ df V ρ ρ1 w1 r
 | (t, none) :: r => ρ1 t = ρ t ∧ df V ρ ρ1 w1 r
def DO (P : Program) (ops : Array Oper) (J : World → Prop) (V : Nat → Value → World → Prop) (ρ : Rf) : Nat → List Oper → List (List (Nat × Option Nat)) → Prop
 | i, o :: os, s :: ss => ((∀ v w w', V i v w → Below w.heap.size w w' → V i v w') ∧ ∀ ρ1 w1, J w1 → df V ρ ρ1 w1 s → OG P ops o ρ1 w1 fun v w2 => Below w1.heap.size w1 w2 ∧ V i v w2) ∧ DO P ops J V ρ (i + 1) os ss
 | _, [], [] => True
 | _, _, _ => False
theorem EL {ops : Array Oper} {J : World → Prop} {V : Nat → Value → World → Prop} : ∀ (l : List Oper) (ss : List (List (Nat × Option Nat))) (i : Nat), DO P ops J V ρ i l ss → l.length = ss.length ∧ ∀ k o, l[k]? = some o → ∃ s, ss[k]? = some s ∧
  (∀ v w w', V (i + k) v w → Below w.heap.size w w' → V (i + k) v w') ∧ ∀ ρ1 w1, J w1 → df V ρ ρ1 w1 s → OG P ops o ρ1 w1 fun v w2 => Below w1.heap.size w1 w2 ∧ V (i + k) v w2
 | [], [], _, _ => ⟨rfl, fun k o h => by simp at h⟩
 | [], _ :: _, _, h => h.elim
 | _ :: _, [], _, h => h.elim
 | o :: l, s :: ss, i, h => by
  obtain ⟨h1, h2⟩ := EL l ss (i + 1) h.2;refine ⟨by simp [h1], fun k o' hk => ?_⟩
  cases k with
  | zero =>
   simp only [List.getElem?_cons_zero, Option.some.injEq] at hk;subst hk;exact ⟨s, rfl, h.1⟩
  | succ k =>
   obtain ⟨s', hs, h3⟩ := h2 k o' (by simpa using hk);refine ⟨s', by simpa using hs, ?_⟩;have e : i + 1 + k = i + (k + 1) := Tx;rw [e] at h3;exact h3
def mJ (ρ : Rf) (f : Nat → Value) : List (Nat × Nat) → Rf
 | [] => ρ
 | (i, d) :: r => cG (mJ ρ f r) d (f i)
def yY (V : Nat → Value → World → Prop) (f : Nat → Value) (w : World) : List (Nat × Nat) → Prop
 | [] => True
 | (i, _) :: r => V i (f i) w ∧ yY V f w r
def jc (n k : Nat) : Array Bool := (List.replicate k true ++ List.replicate (n - k) false).toArray
def Cp (l : List Oper) (m N : Nat) (src : List (List (Nat × Option Nat))) (ds : List (Nat × Nat)) : Bool :=
 let ops := l.toArray
 let pre := (List.range m).map fun i => ((ops[i]?).bind (·.dst))
 (m ≤ l.length) && (src.length == m) &&
 (ds == (pre.zipIdx.filterMap fun (d, i) => d.map fun d => (i, d)).reverse) && (decide (ds.map (·.2)).Nodup) && (ds.all fun p => p.2 < N) &&
 ((List.range m).all fun i => match ops[i]?, src[i]? with
  | some o, some s => ((o.looksAt ops).all fun t => s.any fun p => p.1 == t) &&
    s.all fun p => match p.2 with
     | some j => (j < m) && ((ops[j]?).bind (·.dst) == some p.1) && Oc ops 16 i j
     | none => (List.range m).all fun j => !((ops[j]?).bind (·.dst) == some p.1) || (j != i && Oc ops 16 j i)
  | _, _ => false) &&
 (l.length == m || ((List.range m).all fun i => Oc ops 16 m i)) &&
 ((List.range (l.length - m)).all fun k => Region.ready .any ops (jc l.length (m + k)) == [m + k]) && (Region.ready .any ops (jc l.length l.length) == []) &&
 ((List.range (l.length - m)).all fun k => k == 0 || Oc ops 16 (m + k) m) &&
 ((List.range l.length).all fun i => match ops[i]? with | some o => o.after.all fun e => !Region.binds .any e || e.on < i | none => false)
theorem FM (n k i : Nat) : (jc n k).getD i false = decide (i < k) := by
 unfold jc;rw [Array.getD_eq_getD_getElem?, List.getElem?_toArray]
 rcases Nat.lt_or_ge i k with h | h
 ·rw [List.getElem?_append_left (by simpa using h)];simp [h]
 ·rw [List.getElem?_append_right (by simpa using h), List.getElem?_replicate];have : ¬ i < k := Tx;split <;> simp [this]
theorem Hc (n k : Nat) (hk : k < n) : (jc n k).setIfInBounds k true = jc n (k + 1) := by
 unfold jc;rw [List.setIfInBounds_toArray];congr 1;apply List.ext_getElem?;intro i;rw [List.getElem?_set];simp only [List.getElem?_append, List.length_replicate, List.getElem?_replicate, List.length_append];by_cases h1 : k = i
 ·subst h1;rw [if_pos rfl, if_pos Tx, if_pos (show k < k + 1 by omega), if_pos (show k < k + 1 by omega)]
 ·rw [if_neg h1];by_cases h2 : i < k
  ·rw [if_pos h2, if_pos h2, if_pos (show i < k + 1 by omega), if_pos (show i < k + 1 by omega)]
  ·rw [if_neg h2, if_neg (show ¬ i < k + 1 by omega)];by_cases h3 : i - k < n - k
   ·rw [if_pos h3, if_pos (show i - (k + 1) < n - (k + 1) by omega)]
   ·rw [if_neg h3, if_neg (show ¬ i - (k + 1) < n - (k + 1) by omega)]
theorem Fv (n k : Nat) (hk : k ≤ n) : (jc n k).size = n := by simp [jc]; omega
theorem Ck (n k : Nat) : (jc n k).toList.countP (fun b => b) = k := by
 simp [jc, List.countP_replicate]
theorem xT {L : Array Bool} {n k : Nat} (hs : L.size = n) (hk : k ≤ n) (h1 : ∀ i, i < k → L.getD i false = true) (h2 : ∀ i, k ≤ i → L.getD i false = false) : L = jc n k := by
 apply Array.ext
 ·rw [hs, Fv n k hk]
 ·intro i hi hi2;have e1 : L[i] = L.getD i false := by simp [hi]
  have e2 : (jc n k)[i] = (jc n k).getD i false := by simp [hi2]
  rw [e1, e2, FM n k i]
  rcases Nat.lt_or_ge i k with h | h
  ·rw [h1 i h]; simp [h]
  ·rw [h2 i h];have : ¬ i < k := Tx;simp [this]
theorem pS {l : List Oper} {Q' : Exit → Act → World → Prop} (m : Nat)
  (hr : ∀ k, m ≤ k → k < l.length → Region.ready .any l.toArray (jc l.length k) = [k]) (hend : Region.ready .any l.toArray (jc l.length l.length) = []) :
  ∀ (fuel k : Nat) (a : Act) (w : World), m ≤ k → k ≤ l.length → l.length ≤ fuel + k → wpList P l.toArray Q' (l.drop k) a w → wpAny P .any l.toArray Q' fuel (jc l.length k) a w
 | fuel, k, a, w, hmk, hk, hf, h => by
  rcases Nat.lt_or_ge k l.length with hlt | hge
  ·cases fuel with
   | zero => omega
   | succ fuel =>
    refine wpAny_all (hr k hmk hlt) (by simp) fun i hi => ?_;obtain rfl : i = k := by simpa using hi
    rw [List.drop_eq_getElem_cons hlt] at h;unfold wpList at h;have ho : l.toArray[i]? = some l[i] := by simp [hlt]
    have hset := Hc l.length i hlt;have hgo : ∀ a w, wpList P l.toArray Q' (l.drop (i + 1)) a w → wpAny P .any l.toArray Q' fuel ((jc l.length i).setIfInBounds i true) a w := fun a w h => by
     rw [hset];exact pS m hr hend fuel (i + 1) a w Tx Tx Tx h
    unfold wpOp;rw [ho];simp only [];split at h
    ·rename_i hw;rw [if_pos hw];exact h.imp (Oper.wp_mono hgo) id
    ·rename_i hw;rw [if_neg hw];exact hgo _ _ h
  ·obtain rfl : k = l.length := Tx;rw [List.drop_length] at h;exact wpAny_done hend h fuel
structure DI (D : List Deferred) (N : Nat) (ops : Array Oper) (m : Nat) (ρ : Rf) (J : World → Prop) (V : Nat → Value → World → Prop) (L : Array Bool) (a : Act) (w : World) : Prop where
 nd : a.defers = D
 sz : a.tmps.size = N
 j : J w
 ls : L.size = ops.size
 cl : qo ops L
 tl : ∀ k, m ≤ k → L.getD k false = false
 vs : ∀ i d, i < m → L.getD i false = true → (ops[i]?).bind (·.dst) = some d → V i (a.tmps.getD d undef) w
 Kk : ∀ s, (∀ i, i < m → L.getD i false = true → (ops[i]?).bind (·.dst) ≠ some s) → a.tmps.getD s undef = ρ s
theorem dw {L : Array Bool} {i j : Nat} (hi : i < L.size) : (L.setIfInBounds i true).getD j false = (decide (j = i) || L.getD j false) := by
 rw [Array.getD_eq_getD_getElem?, Array.getElem?_setIfInBounds];by_cases h : i = j
 ·subst h; simp [hi]
 ·have : ¬ j = i := fun e => h e.symm;simp [h, this]
theorem dW {a : Act} {d s : Nat} {v : Value} (hd : d < a.tmps.size) : (a.put (some d) v).tmps.getD s undef = if s = d then v else a.tmps.getD s undef := by
 by_cases h : s = d
 ·subst h; simp [Act.put, hd]
 ·have : d ≠ s := fun e => h e.symm;simp [Act.put, Array.getElem?_setIfInBounds_ne this, h]
theorem lL (f : Nat → Value) : ∀ (ds : List (Nat × Nat)) (s : Nat), (ds.map (·.2)).Nodup → (∀ i, (i, s) ∈ ds → mJ ρ f ds s = f i) ∧ ((∀ i, (i, s) ∉ ds) → mJ ρ f ds s = ρ s)
 | [], s, _ => ⟨fun i h => by simp at h, fun _ => rfl⟩
 | (j, d) :: r, s, h => by
  rw [List.map_cons, List.nodup_cons] at h;obtain ⟨h1, h2⟩ := lL f r s h.2;constructor
  ·intro i hi
   rcases List.mem_cons.1 hi with hi' | hi'
   ·injection hi' with e1 e2
    subst e1; subst e2;exact im _ _ _
   ·have hne : s ≠ d := fun e => h.1 (e ▸ List.mem_map.2 ⟨_, hi', rfl⟩);exact (bj _ hne _).trans (h1 i hi')
  ·intro hn;have hne : s ≠ d := by
    rintro rfl;exact hn j List.mem_cons_self
   exact (bj _ hne _).trans (h2 fun i hi => hn i (List.mem_cons_of_mem _ hi))
theorem sx {V : Nat → Value → World → Prop} {f : Nat → Value} {w : World} : ∀ (ds : List (Nat × Nat)), (∀ p ∈ ds, V p.1 (f p.1) w) → yY V f w ds
 | [], _ => trivial
 | (i, d) :: r, h => ⟨h (i, d) List.mem_cons_self, sx r fun p hp => h p (List.mem_cons_of_mem _ hp)⟩
theorem pb {V : Nat → Value → World → Prop} {ρ1 : Rf} {w1 : World} : ∀ (s : List (Nat × Option Nat)), (∀ p ∈ s, match p.2 with | some j => V j (ρ1 p.1) w1 | none => ρ1 p.1 = ρ p.1) → df V ρ ρ1 w1 s
 | [], _ => trivial
 | (t, some j) :: r, h => ⟨h (t, some j) List.mem_cons_self, pb r fun p hp => h p (List.mem_cons_of_mem _ hp)⟩
 | (t, none) :: r, h => ⟨h (t, none) List.mem_cons_self, pb r fun p hp => h p (List.mem_cons_of_mem _ hp)⟩
theorem Lb {id : Nat} {l : List Oper} (m : Nat) (src : List (List (Nat × Option Nat))) (ds : List (Nat × Nat)) (J : World → Prop) (V : Nat → Value → World → Prop) (hm : P.follows .mixedOrders = true) (hok : Cp l m N src ds = true)
  (hJ : ∀ w w', J w → Below w.heap.size w w' → J w') (h0 : J w) (hops : DO P l.toArray J V ρ 0 (l.take m) src)
  (tail : ∀ f w', J w' → yY V f w' ds → WL ⟨none, D, false⟩ P N l.toArray Q (l.drop m) (mJ ρ f ds) w') : WC ⟨none, D, false⟩ P N (.region id l.toArray true) Q ρ w := by
 refine WC.oR fun a hf => wp_region_any hm ?_;simp only [Cp, Bool.and_eq_true, decide_eq_true_eq, beq_iff_eq, List.all_eq_true, List.mem_range] at hok;obtain ⟨⟨⟨⟨⟨⟨⟨⟨⟨⟨hml, _⟩, hds⟩, hnd⟩, hdN⟩, hrd⟩, htail⟩, hready⟩, hend⟩, hdep⟩, hedge⟩ := hok;have hdo := (EL _ _ _ hops).2;have hpre : ∀ i d, i < m → ((l.toArray[i]?).bind (·.dst)) = some d → (i, d) ∈ ds := fun i d hi hd => by
  exact Pu
 have hdsm : ∀ i d, (i, d) ∈ ds → i < m ∧ ((l.toArray[i]?).bind (·.dst)) = some d := fun i d hp => by
  exact O3
 have hone : ∀ i j d, i < m → j < m → ((l.toArray[i]?).bind (·.dst)) = some d → ((l.toArray[j]?).bind (·.dst)) = some d → i = j := fun i j d hi hj h1 h2 => by
  exact Pb
 have hnn : l.toArray.size = l.length := by simp
 have full : ∀ (L : Array Bool) (a : Act) (w : World) (fuel : Nat), DI D N l.toArray m ρ J V L a w → (∀ i, i < m → L.getD i false = true) → l.length ≤ fuel + m → wpAny P .any l.toArray (du N D Q) fuel L a w := by
  intro L a w fuel hI hall hfu;have hL : L = jc l.length m := xT (by rw [hI.ls, hnn]) hml hall hI.tl;rw [hL];refine pS m (fun k h1 h2 => ?_) hend fuel m a w (Nat.le_refl _) hml hfu ?_
  ·have := hready (k - m) Tx;rwa [show m + (k - m) = k by omega] at this
  ·have hfits : eh N D a (mJ ρ (fun i => match (l.toArray[i]?).bind (·.dst) with | some d => a.tmps.getD d undef | none => undef) ds) := by
    exact Rs
   refine (tail _ w hI.j (sx ds fun p hp => ?_)).out a hfits;obtain ⟨h1, h2⟩ := hdsm p.1 p.2 hp;have := hI.vs p.1 p.2 h1 (hall _ h1) h2;rw [h2];exact this
 have key : ∀ (fuel : Nat) (L : Array Bool) (a : Act) (w : World), DI D N l.toArray m ρ J V L a w → fuel + L.toList.countP (fun b => b) = l.length → wpAny P .any l.toArray (du N D Q) fuel L a w := by
  intro fuel
  induction fuel with
  | zero =>
   exact QH
  | succ fuel ih =>
   intro L a w hI hc;by_cases hall : ∀ i, i < m → L.getD i false = true
   ·exact Q5
   ·have hsome : ∃ i, i < m ∧ L.getD i false = false := by
     exact Qm
    have hready_spec : ∀ i, i ∈ Region.ready .any l.toArray L ↔ i < l.length ∧ L.getD i true = false ∧ ∃ o, l.toArray[i]? = some o ∧ ∀ e ∈ o.after, Region.binds .any e = true → L.getD e.on false = true := fun i => by
     exact Pt
    refine ⟨fun hnil => ?_, fun i hi => ?_⟩
    ·exact P7
    ·obtain ⟨hil, hun, o, ho, hed⟩ := (hready_spec i).1 hi;have hiL : i < L.size := by rw [hI.ls, hnn]; exact hil
     have hun' : L.getD i false = false := by
      exact OE
     have hed' : ∀ o', l.toArray[i]? = some o' → ∀ e ∈ o'.after, Region.binds .any e = true → L.getD e.on false = true := fun o' ho' => by
      exact Pk
     have him : i < m := by
      rcases Nat.lt_or_ge i m with h | h
      ·exact h
      ·exfalso
       rcases Nat.lt_or_ge m i with h2 | h2
       ·have h3 := hdep (i - m) Tx;rw [show m + (i - m) = i by omega] at h3;have h4 : (i - m == 0) = false := by simp; omega
        rw [h4, Bool.false_or] at h3;have := mz hI.cl 16 i m hed' h3;rw [hI.tl m (Nat.le_refl _)] at this
        cases this
       ·obtain rfl : i = m := Tx;have h4 : (l.length == i) = false := by simp; omega
        rw [h4, Bool.false_or] at htail;have h5 := List.all_eq_true.1 htail;obtain ⟨j, hj, hju⟩ := hsome;have := mz hI.cl 16 i j hed' (h5 j (by simpa using hj));rw [hju] at this
        cases this
     have hok' : (l.take m)[i]? = some o := by
      rw [List.getElem?_take, if_pos him];simpa using ho
     obtain ⟨s, hs, hstab, hog⟩ := hdo i o hok';rw [Nat.zero_add] at hstab hog;have hrdi := hrd i him;rw [ho, hs] at hrdi;simp only [Bool.and_eq_true, List.all_eq_true] at hrdi;have hro : df V ρ (fun t => a.tmps.getD t undef) w s := pb s fun p hp => by
      have hp2 := hrdi.2 p hp
      cases hp3 : p.2 with
      | some j =>
       rw [hp3] at hp2;simp only [Bool.and_eq_true, decide_eq_true_eq, beq_iff_eq] at hp2;exact hI.vs j p.1 hp2.1.1 (mz hI.cl 16 i j hed' hp2.2) hp2.1.2
      | none =>
       rw [hp3] at hp2;refine hI.Kk p.1 fun j hj hjl hjd => ?_;have h6 := List.all_eq_true.1 hp2 j (by simpa using hj);rw [hjd] at h6;simp only [beq_self_eq_true, Bool.not_true, Bool.false_or, Bool.and_eq_true] at h6;have := mz hI.cl 16 j i (fun o' ho' e he hb => hI.cl j o' ho' hjl e he hb) h6.2;rw [hun'] at this
       cases this
     have hgo := (hog _ w hI.j hro).out a (wpAny P .any l.toArray (du N D Q) fuel (L.setIfInBounds i true)) (du N D Q) (fun _ => rfl) (fun v w2 hv => by
      refine ih _ _ _ ?_ ?_
      ·refine ⟨?_, ?_, hJ _ _ hI.j hv.1, by simpa using hI.ls, ?_, ?_, ?_, ?_⟩
       ·cases o.dst <;> exact hI.nd
       ·cases hod : o.dst with
        | none => exact hI.sz
        | some d => simpa [Act.put] using hI.sz
       ·intro k ok hk hkl e he hb;rw [dw hiL] at hkl ⊢;by_cases hki : k = i
        ·subst hki;simp [hed' ok hk e he hb]
        ·simp only [hki, decide_false, Bool.false_or] at hkl;simp [hI.cl k ok hk hkl e he hb]
       ·intro k hk;rw [dw hiL, hI.tl k hk];have : ¬ k = i := Tx;simp [this]
       ·intro j d hj hjl hjd;rw [dw hiL] at hjl;have hd1 : ∀ d', o.dst = some d' → d' < a.tmps.size := fun d' hd' => by
         rw [hI.sz];exact hdN (i, d') (hpre i d' him (by rw [ho]; exact hd'))
        by_cases hji : j = i
        ·subst hji;rw [ho] at hjd;simp only [Option.bind_some] at hjd;rw [hjd, dW (hd1 d hjd), if_pos rfl];exact hv.2
        ·simp only [hji, decide_false, Bool.false_or] at hjl;have hold := hI.vs j d hj hjl hjd;have hdj : (j, d) ∈ ds := hpre j d hj hjd;have hst := (hdo j (l.toArray[j]?.getD default) (by
          have : j < l.length := Tx;rw [List.getElem?_take, if_pos hj];simp [this])).choose_spec.2.1
         rw [Nat.zero_add] at hst;have hne : ∀ d', o.dst = some d' → d ≠ d' := fun d' hd' e => by
          subst e;exact hji (hone j i d hj him hjd (by rw [ho]; exact hd'))
         cases hod : o.dst with
         | none => exact hst _ _ _ hold hv.1
         | some d' =>
          rw [dW (hd1 d' hod), if_neg (hne d' hod)];exact hst _ _ _ hold hv.1
       ·intro s' hs';have hni : ((l.toArray[i]?).bind (·.dst)) ≠ some s' := hs' i him (by rw [dw hiL]; simp);have hold := hI.Kk s' fun j hj hjl => hs' j hj (by rw [dw hiL]; simp [hjl]);rw [ho] at hni;simp only [Option.bind_some] at hni
        cases hod : o.dst with
        | none => exact hold
        | some d' =>
         rw [dW (by rw [hI.sz]; exact hdN (i, d') (hpre i d' him (by rw [ho]; exact hod))), if_neg (fun e => hni (by rw [hod, e]))];exact hold
      ·have hLi : L.toList[i]? = some false := by
        have h3 : i < L.toList.length := by simpa using hiL
        rw [List.getElem?_eq_getElem h3];have : L.getD i false = L.toList[i] := by simp [hiL]
        rw [← this, hun']
       rw [Array.toList_setIfInBounds, List.countP_set (by simpa using hiL)];have h4 : L.toList[i]'(by simpa using hiL) = false := (List.getElem?_eq_some_iff.1 hLi).2;rw [h4];simp only [Bool.false_eq_true, if_false, if_true];omega)
     unfold wpOp;rw [ho];exact hgo
 have hJ0 : J ({ w with drawn := w.drawn + 1 } : World) := hJ w _ h0 ⟨rfl, rfl, rfl, Nat.le_refl _, fun _ _ => rfl⟩;have hr0 : ∀ i, (Array.replicate l.toArray.size false).getD i false = false := fun i => by
  rw [Array.getD_eq_getD_getElem?, Array.getElem?_replicate]; split <;> rfl
 refine key _ _ _ _ ⟨hf.nd, hf.sz, hJ0, by simp, fun k o _ hk => ?_, fun k _ => hr0 k, fun i d _ hi => ?_, fun s _ => hf.at_ s⟩ ?_
 ·rw [hr0] at hk; cases hk
 ·rw [hr0] at hi; cases hi
 ·simp [List.countP_replicate]
def Is (c : Value) : Value → World → Prop := fun v _ => v = c
theorem Is.ext {c : Value} (v : Value) (w w' : World) (h : Is c v w) (_ : Below w.heap.size w w') : Is c v w' := h
structure JJ (w0 : World) (H : List HE) (w W : World) : Prop where
 hp : Hp w0 H W
 bl : Below w.heap.size w W
theorem JJ.ext {w0 : World} {H : List HE} {w W W' : World} (h : JJ w0 H w W) (hb : Below W.heap.size W W') : JJ w0 H w W' := ⟨h.hp.ext hb, h.bl.trans (hb.mono h.bl.size)⟩
theorem JJ.start {w0 : World} {H : List HE} {w : World} (h : Hp w0 H w) : JJ w0 H w w := ⟨h, Below.refl _ _⟩
def Qg (n k : Nat) (cs : List Value) : Value → World → Prop := fun v W => ∃ b, v = .slice (some ⟨b, 0, none⟩) n n ∧ Sl W (some ⟨b, 0, none⟩) n k cs
def dr (w : World) (t : TypeId) (cs : List Value) : Value → World → Prop := fun v W => ∃ b, v = .pointer (some ⟨b, 0, none⟩) ∧ w.heap.size ≤ b ∧ W.heap[b]? = some (.cells cs.toArray t (0, 0))
theorem dr.ext {w : World} {t : TypeId} {cs : List Value} (v : Value) (w1 w2 : World) (h : dr w t cs v w1) (hb : Below w1.heap.size w1 w2) : dr w t cs v w2 := by
 obtain ⟨b, h1, h2, h3⟩ := h;have hlt : b < w1.heap.size := by
  rcases Nat.lt_or_ge b w1.heap.size with hlt | hge
  ·exact hlt
  ·rw [Array.getElem?_eq_none hge] at h3; cases h3
 exact ⟨b, h1, h2, (hb.block b hlt).trans h3⟩
theorem iZ {ops : Array Oper} {d : Option Nat} {ty : TypeId} {pos : String} {af : Array Edge} {t e : TypeId} {len sz by' : Nat} {ag : Bool} {parts : Array (Nat × Operand)} {ps : List (Nat × Value)} {zc cs : List Value} (ht : P.underlying t = some (.slice e)) (hte : dn P e = some (sz, ag, by', zc))
  (hp : wI ρ parts.toList = ps) (hzl : zc.length = sz) (hf : ke (fun i => some (i * sz, sz)) (fk len zc) ps = some cs) (h0 : ¬ len * sz = 0) (hsl : len * sz ≤ 16777216) (hl : cs.length = len * sz) {K : Value → World → Prop}
  (hk : ∀ v w2, Qg len sz cs v w2 → Below w.heap.size w w2 → K v w2) : OG P ops ⟨d, .buildSlice t len parts, ty, pos, af, none⟩ ρ w K := by
 obtain ⟨z, hz, hzc⟩ := dx (w := w) hte;have hbl : Below w.heap.size w (w.alloc (.cells cs.toArray e)) := (Below.refl _ _).alloc (Nat.le_refl _) _;refine fC rfl (w' := w.alloc (.cells cs.toArray e)) (v := .slice (some ⟨w.heap.size, 0, none⟩) len len) ?_ (hk _ _ ⟨w.heap.size, rfl, hl, fun _ => ⟨_, rfl, fun j u hu => ?_⟩⟩ hbl)
 ·exact Ov
 ·rw [eY, Nat.zero_add, cell_of_row _ w.heap.size j cs.toArray e (0, 0) (heap_alloc_new w _)];simpa using hu
theorem jV {ops : Array Oper} {d : Option Nat} {ty : TypeId} {pos : String} {af : Array Edge} {t : TypeId} {n by' : Nat} {ag : Bool} {zc : List Value} {wr : World} (ht : dn P t = some (n, ag, by', zc)) (hb : Below wr.heap.size wr w) {K : Value → World → Prop}
  (hk : ∀ v w2, dr wr t zc v w2 → Below w.heap.size w w2 → K v w2) : OG P ops ⟨d, .alloc t, ty, pos, af, none⟩ ρ w K := by
 obtain ⟨z, hz, hzc⟩ := dx (w := w) ht;exact fC rfl (w' := w.alloc (.cells zc.toArray t)) (v := .pointer (some ⟨w.heap.size, 0, none⟩)) (by simp [execOp, Instr.alloc, newVar, newRow, hz, hzc]) (hk _ _ ⟨w.heap.size, rfl, hb.size, heap_alloc_new w _⟩ ((Below.refl _ _).alloc (Nat.le_refl _) _))
theorem JJ.newVar {w0 : World} {H : List HE} {w W : World} {t : TypeId} {cs : List Value} {b : Nat} (h : JJ w0 H w W) (hs : Hp w0 H w) (h2 : w.heap.size ≤ b) (h3 : W.heap[b]? = some (.cells cs.toArray t (0, 0))) : Hp w0 (.blk b t cs (0, 0) :: H) W := by
 refine ⟨h.hp.below, ?_, ?_⟩
 ·intro y hy
  rcases List.mem_cons.1 hy with rfl | hy
  ·exact ⟨Nat.le_trans hs.size h2, h3, .inr (Nat.le_refl _)⟩
  ·exact h.hp.own y hy
 ·rw [List.filterMap_cons];show (b :: H.filterMap HE.id).Nodup;refine List.nodup_cons.2 ⟨fun hm => ?_, h.hp.nd⟩;obtain ⟨y, hy, hyb⟩ := List.mem_filterMap.1 hm;have := (dJ (hs.own y hy) hyb).2;omega
end
section
abbrev VP := Value → World → Prop
def ek (pv : Nat → VP) (i : Nat) (V : VP) : Nat → VP := fun j => cond (Nat.beq j i) V (pv j)
def R3 : Nat → VP := fun _ _ _ => True
def DX (P : Program) (ops : Array Oper) (J : World → Prop) (ρ : Rf) (T : (Nat → VP) → Prop) : Nat → (Nat → VP) → List Oper → List (List (Nat × Option Nat)) → Prop
 | i, pv, o :: os, s :: ss => ∃ V : VP, (∀ v w w', V v w → Below w.heap.size w w' → V v w') ∧ (∀ ρ1 w1, J w1 → df pv ρ ρ1 w1 s → OG P ops o ρ1 w1 fun v w2 => Below w1.heap.size w1 w2 ∧ V v w2) ∧ DX P ops J ρ T (i + 1) (ek pv i V) os ss
 | _, pv, [], [] => T pv
 | _, _, _, _ => False
theorem K9 (pv : Nat → VP) (i : Nat) (V : VP) : ek pv i V i = V := by simp [ek]
theorem yb (pv : Nat → VP) {i j : Nat} (V : VP) (h : j ≠ i) : ek pv i V j = pv j := by
 have : Nat.beq j i = false := by rw [Bool.eq_false_iff]; intro h2; exact h (Nat.eq_of_beq_eq_true h2)
 simp only [ek, this, cond_false]
theorem qi {V V' : Nat → VP} {ρ ρ1 : Rf} {w1 : World} (h : ∀ j v w, V j v w → V' j v w) : ∀ s, df V ρ ρ1 w1 s → df V' ρ ρ1 w1 s
 | [], _ => trivial
 | (_, some _) :: r, hh => ⟨h _ _ _ hh.1, qi h r hh.2⟩
 | (_, none) :: r, hh => ⟨hh.1, qi h r hh.2⟩
theorem EJ {P : Program} {ops : Array Oper} {J : World → Prop} {ρ : Rf} {T : (Nat → VP) → Prop} : ∀ (os : List Oper) (ss : List (List (Nat × Option Nat))) (i : Nat) (pv : Nat → VP), (∀ j, i ≤ j → ∀ v w, pv j v w) → DX P ops J ρ T i pv os ss →
  ∃ V, (∀ j, j < i → V j = pv j) ∧ DO P ops J V ρ i os ss ∧ T V
 | [], [], _, pv, _, h => ⟨pv, fun _ _ => rfl, trivial, h⟩
 | [], _ :: _, _, _, _, h => h.elim
 | _ :: _, [], _, _, _, h => h.elim
 | o :: os, s :: ss, i, pv, hpv, ⟨V, h1, h2, h3⟩ => by
  obtain ⟨V', h4, h5, h6⟩ := EJ os ss (i + 1) (ek pv i V) (fun j hj v w => by rw [yb _ _ Tx]; exact hpv j Tx v w) h3;have e : V' i = V := by rw [h4 i Tx, K9]
  refine ⟨V', fun j hj => by rw [h4 j Tx, yb _ _ Tx], ⟨⟨?_, ?_⟩, h5⟩, h6⟩
  ·rw [e]; exact h1
  ·intro ρ1 w1 hj hr;rw [e];refine h2 ρ1 w1 hj (qi (fun j v w hh => ?_) s hr)
   rcases Nat.lt_or_ge j i with hlt | hge
   ·rw [h4 j Tx, yb _ _ Tx] at hh; exact hh
   ·exact hpv j hge v w
theorem aY {P : Program} {N : Nat} {ρ : Rf} {w : World} {Q : Kq} {id : Nat} {l : List Oper} (m : Nat) (src : List (List (Nat × Option Nat))) (ds : List (Nat × Nat)) {w0 : World} {H : List HE} (hh : Hp w0 H w) (hm : P.follows .mixedOrders = true) (hok : Cp l m N src ds = true)
  (h : DX P l.toArray (JJ w0 H w) ρ (fun V => ∀ f w', JJ w0 H w w' → yY V f w' ds → WL ⟨none, D, false⟩ P N l.toArray Q (l.drop m) (mJ ρ f ds) w') 0 R3 (l.take m) src) : WC ⟨none, D, false⟩ P N (.region id l.toArray true) Q ρ w := by
 obtain ⟨V, _, h1, h2⟩ := EJ _ _ _ _ (fun _ _ _ _ => trivial) h;exact Lb m src ds (JJ w0 H w) V hm hok (fun _ _ h hb => h.ext hb) (JJ.start hh) h1 h2
variable {P : Program} {ops : Array Oper} {J : World → Prop} {ρ : Rf} {T : (Nat → VP) → Prop} {i : Nat} {pv : Nat → VP} {os : List Oper} {s : List (Nat × Option Nat)} {ss : List (List (Nat × Option Nat))} {d : Option Nat} {op : Op} {ty : TypeId} {pos : String} {af : Array Edge}
theorem aT (h : T pv) : DX P ops J ρ T i pv [] [] := h
theorem aR {o : Oper} (V : VP) (h1 : ∀ v w w', V v w → Below w.heap.size w w' → V v w') (h2 : ∀ ρ1 w1, J w1 → df (pv) ρ ρ1 w1 s → OG P ops o ρ1 w1 fun v w2 => Below w1.heap.size w1 w2 ∧ V v w2)
  (k : DX P ops J ρ T (i + 1) (ek pv i (V)) os ss) : DX P ops J ρ T i pv (o :: os) (s :: ss) := ⟨V, h1, h2, k⟩
theorem bp {v : Value} (hr : ∀ ρ1 w1, J w1 → df (pv) ρ ρ1 w1 s → (execOp (ev ρ1) ⟨d, op, ty, pos, af, none⟩).run P w1 = .ok (.value v) w1)
  (k : DX P ops J ρ T (i + 1) (ek pv i (Is v)) os ss) : DX P ops J ρ T i pv (⟨d, op, ty, pos, af, none⟩ :: os) (s :: ss) :=
 aR (Is v) Is.ext (fun ρ1 w1 hj h => fC rfl (hr ρ1 w1 hj h) ⟨Below.refl _ _, rfl⟩) k
theorem Ls {v : Value} {f : FuncId} {args : Array Value} (hr : ∀ ρ1 w1, J w1 → df (pv) ρ ρ1 w1 s → (execOp (ev ρ1) ⟨d, op, ty, pos, af, none⟩).run P w1 = .ok (.enter f args) w1)
  (hc : ∀ w1, J w1 → Calls P f args w1 fun e w' => e = .returned v ∧ Below w1.heap.size w1 w')
  (k : DX P ops J ρ T (i + 1) (ek pv i (Is v)) os ss) : DX P ops J ρ T i pv (⟨d, op, ty, pos, af, none⟩ :: os) (s :: ss) :=
 aR (Is v) Is.ext (fun ρ1 w1 hj h => a8 rfl (hr ρ1 w1 hj h) (hc w1 hj) fun _ _ hq => ⟨v, hq.1, hq.2, rfl⟩) k
def Rows (n k : Nat) (cs : List Value) : VP := fun v W => ∃ A c, v = .slice A n c ∧ Sl W A n k cs
theorem Rows.ext {n k : Nat} {cs : List Value} (v : Value) (w w' : World) (h : Rows n k cs v w) (hb : Below w.heap.size w w') : Rows n k cs v w' := let ⟨A, c, h1, h2⟩ := h; ⟨A, c, h1, h2.ext hb⟩
theorem u9 {t e : TypeId} {len sz by' : Nat} {ag : Bool} {parts : Array (Nat × Operand)} {ps : List (Nat × Value)} {zc cs : List Value} (ht : P.underlying t = some (.slice e)) (hte : dn P e = some (sz, ag, by', zc))
  (hp : ∀ ρ1 w1, J w1 → df (pv) ρ ρ1 w1 s → wI ρ1 parts.toList = ps) (hzl : zc.length = sz) (hf : ke (fun i => some (i * sz, sz)) (fk len zc) ps = some cs) (h0 : ¬ len * sz = 0) (hsl : len * sz ≤ 16777216) (hl : cs.length = len * sz)
  (k : DX P ops J ρ T (i + 1) (ek pv i (Rows len sz cs)) os ss) : DX P ops J ρ T i pv (⟨d, .buildSlice t len parts, ty, pos, af, none⟩ :: os) (s :: ss) :=
 aR (Rows len sz cs) Rows.ext (fun ρ1 w1 hj h => iZ ht hte (hp ρ1 w1 hj h) hzl hf h0 hsl hl fun _ _ ⟨_, hv, hs⟩ hb => ⟨hb, _, _, hv, hs⟩) k
theorem xk {b : Bool} {j dj : Nat} {v : Value} (hj : (ops[j]?).bind (·.dst) = some dj) (hv : ∀ ρ1 w1, J w1 → df (pv) ρ ρ1 w1 s → ρ1 dj = .bool b)
  (hr : ∀ ρ1 w1, J w1 → df (pv) ρ ρ1 w1 s → (execOp (ev ρ1) ⟨d, op, ty, pos, af, none⟩).run P w1 = .ok (.value v) w1)
  (k : DX P ops J ρ T (i + 1) (ek pv i (Is v)) os ss) : DX P ops J ρ T i pv (⟨d, op, ty, pos, af, some (j, b)⟩ :: os) (s :: ss) :=
 aR (Is v) Is.ext (fun ρ1 w1 hj' h => a7 hj (hv ρ1 w1 hj' h) (fC rfl (hr ρ1 w1 hj' h) ⟨Below.refl _ _, rfl⟩)) k
theorem lT {b : Bool} {j dj : Nat} {v : Value} {f : FuncId} {args : Array Value} (hj : (ops[j]?).bind (·.dst) = some dj) (hv : ∀ ρ1 w1, J w1 → df (pv) ρ ρ1 w1 s → ρ1 dj = .bool b)
  (hr : ∀ ρ1 w1, J w1 → df (pv) ρ ρ1 w1 s → (execOp (ev ρ1) ⟨d, op, ty, pos, af, none⟩).run P w1 = .ok (.enter f args) w1)
  (hc : ∀ w1, J w1 → Calls P f args w1 fun e w' => e = .returned v ∧ Below w1.heap.size w1 w')
  (k : DX P ops J ρ T (i + 1) (ek pv i (Is v)) os ss) : DX P ops J ρ T i pv (⟨d, op, ty, pos, af, some (j, b)⟩ :: os) (s :: ss) :=
 aR (Is v) Is.ext (fun ρ1 w1 hj' h => a7 hj (hv ρ1 w1 hj' h) (a8 rfl (hr ρ1 w1 hj' h) (hc w1 hj') fun _ _ hq => ⟨v, hq.1, hq.2, rfl⟩)) k
theorem yk {b c : Bool} {j dj : Nat} (hj : (ops[j]?).bind (·.dst) = some dj) (hv : ∀ ρ1 w1, J w1 → df (pv) ρ ρ1 w1 s → ρ1 dj = .bool c) (hb : c ≠ b)
  (k : DX P ops J ρ T (i + 1) (ek pv i (Is undef)) os ss) : DX P ops J ρ T i pv (⟨d, op, ty, pos, af, some (j, b)⟩ :: os) (s :: ss) :=
 aR (Is undef) Is.ext (fun ρ1 w1 hj' h => u4 hj (hv ρ1 w1 hj' h) hb ⟨Below.refl _ _, rfl⟩) k
end
end
def az {α : Type} (f : α → List Value) (l : List α) : List Value := l.flatMap f
section
variable {α : Type} {f : α → List Value} {sz : Nat}
theorem eF (hf : ∀ x, (f x).length = sz) (l : List α) : (az f l).length = l.length * sz := by
 induction l with
 | nil => simp [az]
 | cons x l ih =>
  have : az f (x :: l) = f x ++ az f l := by simp [az]
  rw [this, List.length_append, hf, ih, List.length_cons, Nat.succ_mul]; omega
theorem iS (x : α) (l : List α) : az f (x :: l) = f x ++ az f l := by simp [az]
theorem bV (l m : List α) : az f (l ++ m) = az f l ++ az f m := by simp [az]
theorem jI (x : α) : az f [x] = f x := by simp [az]
theorem jF (hf : ∀ x, (f x).length = sz) (l : List α) (k : Nat) : (az f l).drop (k * sz) = az f (l.drop k) := by
 induction l generalizing k with
 | nil => simp [az]
 | cons x l ih =>
  cases k with
  | zero => simp
  | succ k => rw [iS, Nat.succ_mul, Nat.add_comm, ← hf x, List.drop_append, List.drop_succ_cons, ← ih k, hf x]; simp [hf x]
theorem kR (hf : ∀ x, (f x).length = sz) (l : List α) (k : Nat) : (az f l).take (k * sz) = az f (l.take k) := by
 induction l generalizing k with
 | nil => simp [az]
 | cons x l ih =>
  cases k with
  | zero => simp [az]
  | succ k => rw [iS, Nat.succ_mul, Nat.add_comm, List.take_succ_cons, iS, ← ih k, ← hf x, List.take_append]; simp; exact List.take_of_length_le (Nat.le_add_right _ _)
theorem tP (hf : ∀ x, (f x).length = sz) {l : List α} {k : Nat} {x : α} (h : l[k]? = some x) : ((az f l).drop (k * sz)).take sz = f x := by
 obtain ⟨h1, h2⟩ := List.getElem?_eq_some_iff.1 h;rw [jF hf, List.drop_eq_getElem_cons h1, h2, iS, List.take_append_of_le_length (by rw [hf]; omega), List.take_of_length_le (by rw [hf]; omega)]
theorem Rd.recAt {w : World} {ad : Addr} {l : List α} (h : Rd w ad (az f l)) (hf : ∀ x, (f x).length = sz) {k : Nat} {x : α} (hx : l[k]? = some x) : Rd w (ad.add (k * sz)) (f x) := by
 have := h.elem k sz;rwa [tP hf hx] at this
theorem Sl.bk {w : World} {A : Option Addr} {n : Nat} {l : List α} (h : Sl w A n sz (az f l)) (hf : ∀ x, (f x).length = sz) (h0 : 0 < sz) : l.length = n := by
 have := h.1;rw [eF hf] at this;exact Nat.eq_of_mul_eq_mul_right h0 this
theorem jg (hf : ∀ x, (f x).length = sz) {l : List α} {k : Nat} {y : α} (h : k < l.length) : cm (az f l) (k * sz) (f y) = az f (l.set k y) := by
 unfold cm;rw [kR hf, hf, ← Nat.succ_mul, jF hf, List.set_eq_take_append_cons_drop, if_pos h, bV, iS, List.append_assoc]
theorem cq (h : ∀ x, (f x).all Value.oneCell' = true) (l : List α) : ((az f l).all Value.oneCell') = true := by
 rw [List.all_eq_true];intro v hv;obtain ⟨x, _, hx⟩ := List.mem_flatMap.1 hv;exact List.all_eq_true.1 (h x) v hx
end
theorem gH {α : Type} {l : List α} {k : Nat} {x : α} (h : l[k]? = some x) : l.drop k = x :: l.drop (k + 1) := by
 obtain ⟨h1, rfl⟩ := List.getElem?_eq_some_iff.1 h;exact List.drop_eq_getElem_cons h1
theorem iP {α : Type} {p : α → Bool} {l : List α} (h : l.any p = false) : l.find? p = none := by
 rw [List.find?_eq_none];intro x hx;have := List.any_eq_false.1 h x hx;simpa using this
theorem wk {α : Type} {p : α → Bool} {l : List α} {i : Nat} {x : α} (h : (l.take i).any p = false) (hx : l[i]? = some x) (hp : p x = true) : l.find? p = some x := by
 have : l = l.take i ++ x :: l.drop (i + 1) := by rw [← gH hx, List.take_append_drop]
 rw [this, List.find?_append, iP h, List.find?_cons_of_pos hp]
 rfl
section
variable {D : List Deferred}
section
variable {P : Program} {N : Nat} {Q : Kq} {ρ : Rf} {w : World}
def nO (acc : List Nat) : List Edge → Nat
 | [] => 0
 | e :: r => bif Region.binds .any e then 1 <<< e.on ||| acc.getD e.on 0 ||| nO acc r else nO acc r
def uj : List Oper → List Nat → List Nat
 | [], acc => acc
 | o :: r, acc => uj r (acc ++ [nO acc o.after.toList])
theorem ow {acc : List Nat} {i : Nat} : ∀ {es : List Edge}, (nO acc es).testBit i = true → ∃ e ∈ es, Region.binds .any e = true ∧ (e.on = i ∨ (acc.getD e.on 0).testBit i = true)
 | [], h => by simp [nO] at h
 | e :: r, h => by
  unfold nO at h
  cases hb : Region.binds .any e with
  | false =>
   rw [hb, cond_false] at h;obtain ⟨e', h1, h2⟩ := ow h;exact ⟨e', List.mem_cons_of_mem _ h1, h2⟩
  | true =>
   rw [hb, cond_true, Nat.testBit_or, Nat.testBit_or, Bool.or_eq_true, Bool.or_eq_true] at h
   rcases h with (h | h) | h
   ·refine ⟨e, List.mem_cons_self, hb, .inl ?_⟩;rw [Nat.one_shiftLeft, Nat.testBit_two_pow] at h;simpa using h
   ·exact ⟨e, List.mem_cons_self, hb, .inr h⟩
   ·obtain ⟨e', h1, h2⟩ := ow h;exact ⟨e', List.mem_cons_of_mem _ h1, h2⟩
theorem zO : ∀ (l : List Oper) (acc : List Nat), ∃ t, uj l acc = acc ++ t
 | [], acc => ⟨[], by simp [uj]⟩
 | o :: r, acc => by
  obtain ⟨t, h⟩ := zO r (acc ++ [nO acc o.after.toList]);exact ⟨_, by rw [uj, h, List.append_assoc]⟩
theorem E8 : ∀ (l : List Oper) (acc : List Nat) (k i : Nat), acc.length ≤ k → ((uj l acc).getD k 0).testBit i = true → ∃ o, l[k - acc.length]? = some o ∧ ∃ e ∈ o.after, Region.binds .any e = true ∧ (e.on = i ∨ e.on < k ∧ ((uj l acc).getD e.on 0).testBit i = true)
 | [], acc, k, i, hk, h => by
  rw [uj, List.getD_eq_getElem?_getD, List.getElem?_eq_none hk] at h;simp at h
 | o :: r, acc, k, i, hk, h => by
  rcases Nat.lt_or_ge acc.length k with hlt | hge
  ·have hl : (acc ++ [nO acc o.after.toList]).length = acc.length + 1 := by simp
   obtain ⟨o', h1, h2⟩ := E8 r (acc ++ [nO acc o.after.toList]) k i Tx h;refine ⟨o', ?_, h2⟩;rw [hl] at h1;rw [show k - acc.length = (k - (acc.length + 1)) + 1 by omega, List.getElem?_cons_succ];exact h1
  ·obtain rfl : k = acc.length := Tx;obtain ⟨t, ht⟩ := zO r (acc ++ [nO acc o.after.toList]);refine ⟨o, by rw [Nat.sub_self]; rfl, ?_⟩;rw [uj, ht] at h ⊢;rw [List.getD_eq_getElem?_getD, List.append_assoc, List.getElem?_append_right (Nat.le_refl _), Nat.sub_self] at h;simp only [List.cons_append, List.getElem?_cons_zero, Option.getD_some, List.nil_append] at h;obtain ⟨e, h1, h2, h3⟩ := ow h;refine ⟨e, by simpa using h1, h2, ?_⟩
   rcases h3 with h3 | h3
   ·exact .inl h3
   ·have h4 : e.on < acc.length := by
     rcases Nat.lt_or_ge e.on acc.length with h5 | h5
     ·exact h5
     ·rw [List.getD_eq_getElem?_getD, List.getElem?_eq_none h5] at h3; simp at h3
    refine .inr ⟨h4, ?_⟩;rw [List.getD_eq_getElem?_getD, List.append_assoc, List.getElem?_append_left h4, ← List.getD_eq_getElem?_getD];exact h3
theorem j0 {l : List Oper} {M : List Nat} {L : Array Bool} (hM : uj l [] = M) (hc : qo l.toArray L) : ∀ (k i : Nat), (∀ o, l.toArray[k]? = some o → ∀ e ∈ o.after, Region.binds .any e = true → L.getD e.on false = true) → (M.getD k 0).testBit i = true → L.getD i false = true := by
 intro k
 induction k using Nat.strongRecOn with
 | _ k ih =>
  intro i hk h;rw [← hM] at h;obtain ⟨o, ho, e, he, hb, h3⟩ := E8 l [] k i (Nat.zero_le _) h;have ho' : l.toArray[k]? = some o := by rw [List.getElem?_toArray]; exact ho
  have h1 := hk o ho' e he hb
  rcases h3 with h3 | ⟨h3, h4⟩
  ·rw [← h3]; exact h1
  ·rw [hM] at h4;exact ih e.on h3 i (fun o' ho2 => hc e.on o' ho2 h1) h4
def RG (n m : Nat) (fl : List Nat) : Array Bool := ((List.range n).map fun i => decide (i < m ∧ i ∉ fl)).toArray
theorem J0 {n m i : Nat} {fl : List Nat} (hi : i < n) : (RG n m fl).getD i true = decide (i < m ∧ i ∉ fl) := by
 unfold RG;rw [Array.getD_eq_getD_getElem?, List.getElem?_toArray, List.getElem?_map, List.getElem?_range hi]
 rfl
def NP (Q : Kq) : Prop := ∀ c ρ w, ¬ Q (.panic c) ρ w
theorem cB {fn : Func} {R : Ending → World → Prop} : NP (mi P fn R) := fun _ _ _ h => h.1.elim nofun nofun
theorem bO {next : Rf → World → Prop} (h : NP Q) : NP (cv next Q) := fun c ρ w hq => h c ρ w hq
theorem cA {id : Nat} (h : NP Q) : NP (qD id Q) := fun c ρ w hq => h c ρ w hq
def sM : Op → Bool
 | .extract _ _ => true
 | .move _ => true
 | _ => false
def Pa (l : List Oper) (m : Nat) (fl : List Nat) (i : Nat) : Bool :=
 Region.free .any l.toArray (RG l.length m fl) i && match l[i]? with
  | some ⟨some _, op, _, _, af, none⟩ => sM op && af.all fun e => !Region.binds .any e || (decide (e.on < m) && !fl.contains e.on)
  | _ => false
theorem GB {l : List Oper} {m : Nat} {fl : List Nat} {i : Nat} (h : Pa l m fl i = true) : Region.free .any l.toArray (RG l.length m fl) i = true ∧ (∀ o, l[i]? = some o → ∀ e ∈ o.after, Region.binds .any e = true → e.on < m ∧ e.on ∉ fl) ∧
  ∃ d op ty pos af, l[i]? = some ⟨some d, op, ty, pos, af, none⟩ ∧ sM op = true := by
 unfold Pa at h;rw [Bool.and_eq_true] at h;obtain ⟨h1, h2⟩ := h;split at h2
 ·rename_i d op ty pos af ho;rw [Bool.and_eq_true] at h2;obtain ⟨hpu, h2⟩ := h2;refine ⟨h1, fun o ho' e he hb => ?_, d, op, ty, pos, af, ho, hpu⟩;rw [ho] at ho';injection ho' with ho'
  subst ho';have := Array.all_eq_true'.1 h2 e he;simp only [hb, Bool.not_true, Bool.false_or, Bool.and_eq_true, decide_eq_true_eq, Bool.not_eq_true', List.contains_eq_mem, decide_eq_false_iff_not] at this;exact this
 ·cases h2
def xN (l : List Oper) (m N : Nat) (src : List (List (Nat × Option Nat))) (ds : List (Nat × Nat)) (fl M : List Nat) : Bool :=
 let ops := l.toArray
 let pre := (List.range m).map fun i => ((ops[i]?).bind (·.dst))
 (m ≤ l.length) && (src.length == m) &&
 (ds == (pre.zipIdx.filterMap fun (d, i) => d.map fun d => (i, d)).reverse) && (decide (ds.map (·.2)).Nodup) && (ds.all fun p => p.2 < N) &&
 ((List.range m).all fun i => match ops[i]?, src[i]? with
  | some o, some s => ((o.looksAt ops).all fun t => s.any fun p => p.1 == t) &&
    s.all fun p => match p.2 with
     | some j => (j < m) && ((ops[j]?).bind (·.dst) == some p.1) && (M.getD i 0).testBit j
     | none => (List.range m).all fun j => !((ops[j]?).bind (·.dst) == some p.1) || (j != i && (M.getD j 0).testBit i)
  | _, _ => false) &&
 (l.length == m || ((List.range m).all fun i => fl.contains i || (M.getD m 0).testBit i)) &&
 ((List.range (l.length - m)).all fun k => Region.ready .any ops (jc l.length (m + k)) == [m + k]) && (Region.ready .any ops (jc l.length l.length) == []) &&
 ((List.range (l.length - m)).all fun k => k == 0 || (M.getD (m + k) 0).testBit m) &&
 ((List.range l.length).all fun i => match ops[i]? with | some o => o.after.all fun e => !Region.binds .any e || e.on < i | none => false) &&
 Region.noSelect ops && (fl.all fun i => Pa l m fl i) && (uj l [] == M)
def yF (P : Program) (l : List Oper) : List Nat → Prop
 | [] => True
 | i :: r => (∃ d t ty pos af n ag by' zc, l[i]? = some ⟨some d, .alloc t, ty, pos, af, none⟩ ∧ dn P t = some (n, ag, by', zc)) ∧ yF P l r
theorem yF.at {l : List Oper} : ∀ {fr : List Nat}, yF P l fr → ∀ i ∈ fr, ∃ d t ty pos af n ag by' zc, l[i]? = some ⟨some d, .alloc t, ty, pos, af, none⟩ ∧ dn P t = some (n, ag, by', zc)
 | [], _, _, hi => by simp at hi
 | j :: r, h, i, hi => by
  rcases List.mem_cons.1 hi with rfl | hi
  ·exact h.1
  ·exact yF.at h.2 i hi
theorem e8 {l : List Oper} : yF P l [] := trivial
theorem qm {l : List Oper} {i d t ty : Nat} {pos : String} {af : Array Edge} {n by' : Nat} {ag : Bool} {zc : List Value} {r : List Nat} (h : l[i]? = some ⟨some d, .alloc t, ty, pos, af, none⟩) (ht : dn P t = some (n, ag, by', zc)) (hr : yF P l r) : yF P l (i :: r) := ⟨⟨d, t, ty, pos, af, n, ag, by', zc, h, ht⟩, hr⟩
theorem Kf {ops : Array Oper} {d : Nat} {t ty : Nat} {pos : String} {af : Array Edge} {n by' : Nat} {ag : Bool} {zc : List Value} {K : Value → World → Prop} (ht : dn P t = some (n, ag, by', zc)) (h : OG P ops ⟨some d, .alloc t, ty, pos, af, none⟩ ρ w K)
  (a : Act) (hd : d < a.tmps.size) (next : Act → World → Prop) (Q : Exit → Act → World → Prop) (ha : ∀ i, a.tmps.getD i undef = ρ i) (hn : ∀ v w', K v w' → (∃ b, v = .pointer (some ⟨b, 0, none⟩) ∧ w.heap.size ≤ b ∧ b < w'.heap.size) → next (a.put (some d) v) w') :
  if Region.wanted ⟨some d, .alloc t, ty, pos, af, none⟩ (yielded ops a.tmps) then (Oper.wp P ⟨some d, .alloc t, ty, pos, af, none⟩ a w next Q) ∨ ((Oper.asks P ⟨some d, .alloc t, ty, pos, af, none⟩ a w) ∧ LetsOut Q) else next (a.put (some d) undef) w := by
 have h1 := h.out a (fun a' w' => ∃ v, a' = a.put (some d) v ∧ K v w') Q ha fun v w' hk => ⟨v, rfl, hk⟩;have hw : Region.wanted ⟨some d, .alloc t, ty, pos, af, none⟩ (yielded ops a.tmps) = true := by simp [Region.wanted]
 rw [if_pos hw] at h1 ⊢;refine h1.imp (fun h2 => ?_) id;obtain ⟨z, hz, hzc⟩ := dx (w := w) ht;have hr : (execOp a.eval ⟨some d, .alloc t, ty, pos, af, none⟩).run P w = .ok (.value (.pointer (some ⟨w.heap.size, 0, none⟩))) (w.alloc (.cells zc.toArray t)) := by simp [execOp, Instr.alloc, newVar, newRow, hz, hzc]
 unfold Oper.wp at h2 ⊢;rw [hr] at h2 ⊢;obtain ⟨v, hv, hk⟩ : ∃ v, a.put (some d) (.pointer (some ⟨w.heap.size, 0, none⟩)) = a.put (some d) v ∧ K v (w.alloc (.cells zc.toArray t)) := h2;have h3 := congrArg (fun a' : Act => a'.tmps.getD d undef) hv;simp only [dW hd, if_pos] at h3;subst h3;exact hn _ _ hk ⟨_, rfl, Nat.le_refl _, (Array.getElem?_eq_some_iff.1 (heap_alloc_new w _)).1⟩
theorem Ao {x : Operand} {k ty d : Nat} {pos : String} {af : Array Edge} (f : Operand → Value) (w : World) : (∃ v, ∀ w', (execOp f ⟨some d, .extract x k, ty, pos, af, none⟩).run P w' = .ok (.value v) w') ∨ ∀ a K, Oper.upon P ⟨some d, .extract x k, ty, pos, af, none⟩ a K (fun _ _ _ => False) ((execOp f ⟨some d, .extract x k, ty, pos, af, none⟩).run P w) → False := by
 cases hx : f x with
 | tuple xs =>
  cases hk : xs[k]? with
  | some v => exact .inl ⟨v, fun w' => by simp [execOp, hx, Instr.extract, hk]⟩
  | none => exact .inr fun a K h => by simp [execOp, hx, Instr.extract, hk, Oper.upon] at h
 | _ => exact .inr fun a K h => by simp [execOp, hx, Instr.extract, Oper.upon] at h
theorem pure_run {op : Op} (hp : sM op = true) {ty d : Nat} {pos : String} {af : Array Edge} (f : Operand → Value) (w : World) : (∃ v, ∀ w', (execOp f ⟨some d, op, ty, pos, af, none⟩).run P w' = .ok (.value v) w') ∨ ∀ a K, Oper.upon P ⟨some d, op, ty, pos, af, none⟩ a K (fun _ _ _ => False) ((execOp f ⟨some d, op, ty, pos, af, none⟩).run P w) → False := by
 unfold sM at hp;split at hp
 ·exact Ao f w
 ·exact .inl ⟨_, fun w' => by simp [execOp]; rfl⟩
 ·cases hp
theorem AB {ops : Array Oper} {d : Nat} {op : Op} (hp : sM op = true) {ty : Nat} {pos : String} {af : Array Edge} {K : Value → World → Prop} (h : OG P ops ⟨some d, op, ty, pos, af, none⟩ ρ w K) (a : Act) (hd : d < a.tmps.size) (ha : ∀ i, a.tmps.getD i undef = ρ i) :
  ∃ v, (∀ w', (execOp a.eval ⟨some d, op, ty, pos, af, none⟩).run P w' = .ok (.value v) w') ∧ K v w := by
 have h1 := h.out a (fun a' w' => ∃ v, a' = a.put (some d) v ∧ K v w') (fun _ _ _ => False) ha fun v w' hk => ⟨v, rfl, hk⟩;rw [if_pos (by simp [Region.wanted])] at h1
 rcases h1 with h1 | ⟨_, _, _, h1⟩
 ·unfold Oper.wp at h1
  rcases pure_run (P := P) hp (d := d) (ty := ty) (pos := pos) (af := af) a.eval w with ⟨v, hv⟩ | hn
  ·rw [hv w] at h1;obtain ⟨v', h2, hk⟩ : ∃ v', a.put (some d) v = a.put (some d) v' ∧ K v' w := h1;have h3 := congrArg (fun a' : Act => a'.tmps.getD d undef) h2;simp only [dW hd, if_pos] at h3;subst h3;exact ⟨v, hv, hk⟩
  ·exact (hn _ _ h1).elim
 ·exact h1.elim
structure RI (D : List Deferred) (fr : List Nat) (N : Nat) (ops : Array Oper) (m : Nat) (ρ : Rf) (J : World → Prop) (V : Nat → Value → World → Prop) (L : Array Bool) (a : Act) (w : World) : Prop where
 nd : a.defers = D
 sz : a.tmps.size = N
 j : J w
 ls : L.size = ops.size
 cl : qo ops L
 tl : ∀ k, m ≤ k → L.getD k false = false
 vs : ∀ i d, i < m → L.getD i false = true → (ops[i]?).bind (·.dst) = some d → V i (a.tmps.getD d undef) w
 Kk : ∀ s, (∀ i, i < m → L.getD i false = true → (ops[i]?).bind (·.dst) ≠ some s) → a.tmps.getD s undef = ρ s
 fb : ∀ i ∈ fr, L.getD i false = true → ∀ d, (ops[i]?).bind (·.dst) = some d → ∃ b, a.tmps.getD d undef = .pointer (some ⟨b, 0, none⟩) ∧ b < w.heap.size
 fd : ∀ i ∈ fr, ∀ j ∈ fr, i ≠ j → L.getD i false = true → L.getD j false = true → ∀ d e, (ops[i]?).bind (·.dst) = some d → (ops[j]?).bind (·.dst) = some e → a.tmps.getD d undef ≠ a.tmps.getD e undef
theorem HI {id : Nat} {l : List Oper} (fr fl M : List Nat) (m : Nat) (src : List (List (Nat × Option Nat))) (ds : List (Nat × Nat)) (J : World → Prop) (V : Nat → Value → World → Prop) (hm : P.follows .mixedOrders = true) (hok : xN l m N src ds fl M = true) (hfr : yF P l fr) (hfm : fr.all (fun i => i < m) = true) (hQp : NP Q)
  (hJ : ∀ w w', J w → Below w.heap.size w w' → J w') (h0 : J w) (hops : DO P l.toArray J V ρ 0 (l.take m) src)
  (tail : ∀ f w', J w' → yY V f w' ds → (∀ i ∈ fr, ∀ j ∈ fr, i ≠ j → f i ≠ f j) → WL ⟨none, D, false⟩ P N l.toArray Q (l.drop m) (mJ ρ f ds) w') : WC ⟨none, D, false⟩ P N (.region id l.toArray true) Q ρ w := by
 refine WC.oR fun a hf => wp_region_any hm ?_;simp only [xN, Bool.and_eq_true, decide_eq_true_eq, beq_iff_eq, List.all_eq_true, List.mem_range] at hok;obtain ⟨⟨⟨⟨⟨⟨⟨⟨⟨⟨⟨⟨⟨hml, _⟩, hds⟩, hnd⟩, hdN⟩, hrd⟩, htail⟩, hready⟩, hend⟩, hdep⟩, hedge⟩, hns⟩, hflo⟩, hM⟩ := hok;have hfl := fun i hi => GB (hflo i hi);have hdo := (EL _ _ _ hops).2;have hpre : ∀ i d, i < m → ((l.toArray[i]?).bind (·.dst)) = some d → (i, d) ∈ ds := fun i d hi hd => by
  exact Pu
 have hdsm : ∀ i d, (i, d) ∈ ds → i < m ∧ ((l.toArray[i]?).bind (·.dst)) = some d := fun i d hp => by
  exact O3
 have hone : ∀ i j d, i < m → j < m → ((l.toArray[i]?).bind (·.dst)) = some d → ((l.toArray[j]?).bind (·.dst)) = some d → i = j := fun i j d hi hj h1 h2 => by
  exact Pb
 have hnn : l.toArray.size = l.length := by simp
 have hfm' : ∀ i ∈ fr, i < m := fun i hi => by simpa using List.all_eq_true.1 hfm i hi
 have full : ∀ (L : Array Bool) (a : Act) (w : World) (fuel : Nat), RI D fr N l.toArray m ρ J V L a w → (∀ i, i < m → L.getD i false = true) → l.length ≤ fuel + m → wpAny P .any l.toArray (du N D Q) fuel L a w := by
  intro L a w fuel hI hall hfu;have hL : L = jc l.length m := xT (by rw [hI.ls, hnn]) hml hall hI.tl;rw [hL];refine pS m (fun k h1 h2 => ?_) hend fuel m a w (Nat.le_refl _) hml hfu ?_
  ·have := hready (k - m) Tx;rwa [show m + (k - m) = k by omega] at this
  ·have hfits : eh N D a (mJ ρ (fun i => match (l.toArray[i]?).bind (·.dst) with | some d => a.tmps.getD d undef | none => undef) ds) := by
    exact Rs
   refine (tail _ w hI.j (sx ds fun p hp => ?_) fun i hi j hj hij => ?_).out a hfits
   rotate_left
   ·obtain ⟨d, t, ty, pos, af, n, ag, by', zc, hi1, _⟩ := hfr.at i hi;obtain ⟨e, t', ty', pos', af', n', ag', by'', zc', hj1, _⟩ := hfr.at j hj;have hi2 : (l.toArray[i]?).bind (·.dst) = some d := by rw [List.getElem?_toArray, hi1]; rfl
    have hj2 : (l.toArray[j]?).bind (·.dst) = some e := by rw [List.getElem?_toArray, hj1]; rfl
    rw [hi2, hj2];exact hI.fd i hi j hj hij (hall i (hfm' i hi)) (hall j (hfm' j hj)) d e hi2 hj2
   obtain ⟨h1, h2⟩ := hdsm p.1 p.2 hp;have := hI.vs p.1 p.2 h1 (hall _ h1) h2;rw [h2];exact this
 have key : ∀ (fuel : Nat) (L : Array Bool) (a : Act) (w : World), RI D fr N l.toArray m ρ J V L a w → fuel + L.toList.countP (fun b => b) = l.length → wpAny P .any l.toArray (du N D Q) fuel L a w := by
  intro fuel
  induction fuel with
  | zero =>
   exact QH
  | succ fuel ih =>
   intro L a w hI hc;by_cases hall : ∀ i, i < m → L.getD i false = true
   ·exact Q5
   ·have hsome : ∃ i, i < m ∧ L.getD i false = false := by
     exact Qm
    have hready_spec : ∀ i, i ∈ Region.ready .any l.toArray L ↔ i < l.length ∧ L.getD i true = false ∧ ∃ o, l.toArray[i]? = some o ∧ ∀ e ∈ o.after, Region.binds .any e = true → L.getD e.on false = true := fun i => by
     exact Pt
    have both : ∀ (i : Nat) (_ : i < m) (o : Oper) (_ : l.toArray[i]? = some o) (_ : L.getD i false = false) (_ : ∀ e ∈ o.after, Region.binds .any e = true → L.getD e.on false = true),
      OG P l.toArray o (fun t => a.tmps.getD t undef) w (fun v w2 => Below w.heap.size w w2 ∧ V i v w2) ∧
      ∀ v w2, (Below w.heap.size w w2 ∧ V i v w2) → (i ∈ fr → ∃ b, v = .pointer (some ⟨b, 0, none⟩) ∧ w.heap.size ≤ b ∧ b < w2.heap.size) → wpAny P .any l.toArray (du N D Q) fuel (L.setIfInBounds i true) (a.put o.dst v) w2 := fun i him o ho hun' hed => by
     have hiL : i < L.size := by rw [hI.ls, hnn]; omega
     have hed' : ∀ o', l.toArray[i]? = some o' → ∀ e ∈ o'.after, Region.binds .any e = true → L.getD e.on false = true := fun o' ho' => by
      rw [ho] at ho'; injection ho' with ho'; subst ho'; exact hed
     have hok' : (l.take m)[i]? = some o := by
      rw [List.getElem?_take, if_pos him];simpa using ho
     obtain ⟨s, hs, hstab, hog⟩ := hdo i o hok';rw [Nat.zero_add] at hstab hog;have hrdi := hrd i him;rw [ho, hs] at hrdi;simp only [Bool.and_eq_true, List.all_eq_true] at hrdi;have hro : df V ρ (fun t => a.tmps.getD t undef) w s := pb s fun p hp => by
      have hp2 := hrdi.2 p hp
      cases hp3 : p.2 with
      | some j =>
       rw [hp3] at hp2;simp only [Bool.and_eq_true, decide_eq_true_eq, beq_iff_eq] at hp2;exact hI.vs j p.1 hp2.1.1 (j0 hM hI.cl i j hed' hp2.2) hp2.1.2
      | none =>
       rw [hp3] at hp2;refine hI.Kk p.1 fun j hj hjl hjd => ?_;have h6 := List.all_eq_true.1 hp2 j (by simpa using hj);rw [hjd] at h6;simp only [beq_self_eq_true, Bool.not_true, Bool.false_or, Bool.and_eq_true] at h6;have := j0 hM hI.cl j i (fun o' ho' e he hb => hI.cl j o' ho' hjl e he hb) h6.2;rw [hun'] at this
       cases this
     have hnext : ∀ v w2, (Below w.heap.size w w2 ∧ V i v w2) → (i ∈ fr → ∃ b, v = .pointer (some ⟨b, 0, none⟩) ∧ w.heap.size ≤ b ∧ b < w2.heap.size) → wpAny P .any l.toArray (du N D Q) fuel (L.setIfInBounds i true) (a.put o.dst v) w2 := fun v w2 hv hfv => by
      have hd1 : ∀ d', o.dst = some d' → d' < a.tmps.size := fun d' hd' => by
       rw [hI.sz];exact hdN (i, d') (hpre i d' him (by rw [ho]; exact hd'))
      have hput : ∀ j d, j < m → j ≠ i → (l.toArray[j]?).bind (·.dst) = some d → (a.put o.dst v).tmps.getD d undef = a.tmps.getD d undef := fun j d hj hji hjd => by
       cases hod : o.dst with
       | none => rfl
       | some d' => rw [dW (hd1 d' hod), if_neg fun e => hji (hone j i d hj him hjd (by rw [ho, e]; exact hod))]
      have hputi : ∀ d, (l.toArray[i]?).bind (·.dst) = some d → (a.put o.dst v).tmps.getD d undef = v := fun d hd => by
       rw [ho] at hd;simp only [Option.bind_some] at hd;rw [hd, dW (hd1 d hd), if_pos rfl]
      have hfd : ∀ j ∈ fr, j ≠ i → L.getD j false = true → i ∈ fr → ∀ e, (l.toArray[j]?).bind (·.dst) = some e → a.tmps.getD e undef ≠ v := fun j hj hji hjl hif e hje heq => by
       obtain ⟨b, hb1, hb2⟩ := hI.fb j hj hjl e hje;obtain ⟨b', hv1, hb3, _⟩ := hfv hif;rw [hb1, hv1] at heq;injection heq with heq
       injection heq with heq
       injection heq with heq
       omega
      refine ih _ _ _ ?_ ?_
      ·refine ⟨?_, ?_, hJ _ _ hI.j hv.1, by simpa using hI.ls, ?_, ?_, ?_, ?_, ?_, ?_⟩
       ·cases o.dst <;> exact hI.nd
       ·cases hod : o.dst with
        | none => exact hI.sz
        | some d => simpa [Act.put] using hI.sz
       ·intro k ok hk hkl e he hb;rw [dw hiL] at hkl ⊢;by_cases hki : k = i
        ·subst hki;simp [hed' ok hk e he hb]
        ·simp only [hki, decide_false, Bool.false_or] at hkl;simp [hI.cl k ok hk hkl e he hb]
       ·intro k hk;rw [dw hiL, hI.tl k hk];have : ¬ k = i := Tx;simp [this]
       ·intro j d hj hjl hjd;rw [dw hiL] at hjl;have hd1 : ∀ d', o.dst = some d' → d' < a.tmps.size := fun d' hd' => by
         rw [hI.sz];exact hdN (i, d') (hpre i d' him (by rw [ho]; exact hd'))
        by_cases hji : j = i
        ·subst hji;rw [ho] at hjd;simp only [Option.bind_some] at hjd;rw [hjd, dW (hd1 d hjd), if_pos rfl];exact hv.2
        ·simp only [hji, decide_false, Bool.false_or] at hjl;have hold := hI.vs j d hj hjl hjd;have hdj : (j, d) ∈ ds := hpre j d hj hjd;have hst := (hdo j (l.toArray[j]?.getD default) (by
          have : j < l.length := Tx;rw [List.getElem?_take, if_pos hj];simp [this])).choose_spec.2.1
         rw [Nat.zero_add] at hst;have hne : ∀ d', o.dst = some d' → d ≠ d' := fun d' hd' e => by
          subst e;exact hji (hone j i d hj him hjd (by rw [ho]; exact hd'))
         cases hod : o.dst with
         | none => exact hst _ _ _ hold hv.1
         | some d' =>
          rw [dW (hd1 d' hod), if_neg (hne d' hod)];exact hst _ _ _ hold hv.1
       ·intro s' hs';have hni : ((l.toArray[i]?).bind (·.dst)) ≠ some s' := hs' i him (by rw [dw hiL]; simp);have hold := hI.Kk s' fun j hj hjl => hs' j hj (by rw [dw hiL]; simp [hjl]);rw [ho] at hni;simp only [Option.bind_some] at hni
        cases hod : o.dst with
        | none => exact hold
        | some d' =>
         rw [dW (by rw [hI.sz]; exact hdN (i, d') (hpre i d' him (by rw [ho]; exact hod))), if_neg (fun e => hni (by rw [hod, e]))];exact hold
       ·intro j hj hjl d hjd;rw [dw hiL] at hjl;by_cases hji : j = i
        ·subst hji;obtain ⟨b, hb1, _, hb3⟩ := hfv hj;exact ⟨b, (hputi d hjd).trans hb1, hb3⟩
        ·simp only [hji, decide_false, Bool.false_or] at hjl;obtain ⟨b, hb1, hb2⟩ := hI.fb j hj hjl d hjd;exact ⟨b, (hput j d (hfm' j hj) hji hjd).trans hb1, Nat.lt_of_lt_of_le hb2 hv.1.size⟩
       ·intro j hj k hk hjk hjl hkl d e hjd hke;rw [dw hiL] at hjl hkl;by_cases hji : j = i
        ·subst hji;have hkj : k ≠ j := fun e => hjk e.symm;simp only [hkj, decide_false, Bool.false_or] at hkl;rw [hputi d hjd, hput k e (hfm' k hk) hkj hke];exact fun he => hfd k hk hkj hkl hj e hke he.symm
        ·simp only [hji, decide_false, Bool.false_or] at hjl;by_cases hki : k = i
         ·subst hki;rw [hputi e hke, hput j d (hfm' j hj) hji hjd];exact hfd j hj hji hjl hk d hjd
         ·simp only [hki, decide_false, Bool.false_or] at hkl;rw [hput j d (hfm' j hj) hji hjd, hput k e (hfm' k hk) hki hke];exact hI.fd j hj k hk hjk hjl hkl d e hjd hke
      ·have hLi : L.toList[i]? = some false := by
        have h3 : i < L.toList.length := by simpa using hiL
        rw [List.getElem?_eq_getElem h3];have : L.getD i false = L.toList[i] := by simp [hiL]
        rw [← this, hun']
       rw [Array.toList_setIfInBounds, List.countP_set (by simpa using hiL)];have h4 : L.toList[i]'(by simpa using hiL) = false := (List.getElem?_eq_some_iff.1 hLi).2;rw [h4];simp only [Bool.false_eq_true, if_false, if_true];omega
     exact ⟨hog _ w hI.j hro, hnext⟩
    by_cases hnf : ∀ i, i < m → i ∉ fl → L.getD i false = true
    ·obtain ⟨i, him, hun'⟩ := hsome;have hif : i ∈ fl := Classical.byContradiction fun h => by
      have h2 := hnf i him h;rw [hun'] at h2
      cases h2
     obtain ⟨hfree, hedf, d, op, ty, pos, af, hlo, hpu⟩ := hfl i hif;have ho : l.toArray[i]? = some ⟨some d, op, ty, pos, af, none⟩ := by rw [List.getElem?_toArray]; exact hlo
     have hed : ∀ e ∈ af, Region.binds .any e = true → L.getD e.on false = true := fun e he hb => by
      obtain ⟨h1, h2⟩ := hedf _ hlo e he hb;exact hnf e.on h1 h2
     have hil : i < l.length := Tx;have hiL : i < L.size := by rw [hI.ls, hnn]; exact hil
     have hunt : L.getD i true = false := by
      rw [Array.getD_eq_getD_getElem?] at hun' ⊢;rw [Array.getElem?_eq_getElem hiL] at hun' ⊢;simpa using hun'
     obtain ⟨hog, hnext⟩ := both i him _ ho hun' hed;obtain ⟨v, hv, hk⟩ := AB hpu hog a (by rw [hI.sz]; exact hdN (i, d) (hpre i d him (by rw [ho]; rfl))) fun _ => rfl;refine wpAny_first (v := v) ho (Region.noSelect_spec hns) (fun c a w ⟨ρ', _, hq⟩ => (hQp c ρ' w hq).elim) fuel L a w (fun j oj hj hji hjl hno => ?_) ((hready_spec i).2 ⟨hil, hunt, _, ho, hed⟩) (.inl ⟨by simp [Region.wanted], hv⟩) (hnext v w hk fun hfr' => ?_)
     ·refine Region.free_spec ho hfree j oj hj hji ?_ hno;have hjlen : j < l.length := by have := (Array.getElem?_eq_some_iff.1 hj).1; omega
      rw [J0 hjlen];rw [decide_eq_false_iff_not];rintro ⟨h1, h2⟩;have h3 := hnf j h1 h2;have hjL : j < L.size := by rw [hI.ls, hnn]; exact hjlen
      rw [Array.getD_eq_getD_getElem?] at h3 hjl;rw [Array.getElem?_eq_getElem hjL] at h3 hjl;simp only [Option.getD_some] at h3 hjl;rw [h3] at hjl
      cases hjl
     ·obtain ⟨d', t, ty', pos', af', n, ag, by', zc, hi1, _⟩ := hfr.at i hfr';rw [hlo] at hi1;injection hi1 with hi1
      injection hi1 with _ hi1
      subst hi1
      cases hpu
    have hsome2 : ∃ i, i < m ∧ i ∉ fl ∧ L.getD i false = false := by
     refine Classical.byContradiction fun hn => hnf fun i hi hif => ?_
     cases hc2 : L.getD i false with
     | true => rfl
     | false => exact absurd ⟨i, hi, hif, hc2⟩ hn
    refine ⟨fun hnil => ?_, fun i hi => ?_⟩
    ·exact P7
    ·obtain ⟨hil, hun, o, ho, hed⟩ := (hready_spec i).1 hi;have hiL : i < L.size := by rw [hI.ls, hnn]; exact hil
     have hun' : L.getD i false = false := by
      exact OE
     have hed' : ∀ o', l.toArray[i]? = some o' → ∀ e ∈ o'.after, Region.binds .any e = true → L.getD e.on false = true := fun o' ho' => by
      exact Pk
     have him : i < m := by
      rcases Nat.lt_or_ge i m with h | h
      ·exact h
      ·exfalso
       rcases Nat.lt_or_ge m i with h2 | h2
       ·exact QK
       ·obtain rfl : i = m := Tx;have h4 : (l.length == i) = false := by simp; omega
        rw [h4, Bool.false_or] at htail;have h5 := List.all_eq_true.1 htail;obtain ⟨j, hj, hjf, hju⟩ := hsome2;have h6 := h5 j (by simpa using hj);have h7 : fl.contains j = false := by simpa using hjf
        rw [h7, Bool.false_or] at h6;have := j0 hM hI.cl i j hed' h6;rw [hju] at this
        cases this
     obtain ⟨hog, hnext⟩ := both i him o ho hun' hed;have hgo : if Region.wanted o (yielded l.toArray a.tmps) then (o.wp P a w (wpAny P .any l.toArray (du N D Q) fuel (L.setIfInBounds i true)) (du N D Q)) ∨ ((o.asks P a w) ∧ LetsOut (du N D Q)) else wpAny P .any l.toArray (du N D Q) fuel (L.setIfInBounds i true) (a.put o.dst undef) w := by
      by_cases hif : i ∈ fr
      ·obtain ⟨d, t, ty, pos, af, n, ag, by', zc, hi1, ht⟩ := hfr.at i hif;have ho2 : o = ⟨some d, .alloc t, ty, pos, af, none⟩ := by
        have h7 := ho;rw [List.getElem?_toArray, hi1] at h7;injection h7 with h7
        exact h7.symm
       have hds : d < a.tmps.size := by
        rw [hI.sz];exact hdN (i, d) (hpre i d him (by rw [ho, ho2]; rfl))
       subst ho2;exact Kf ht hog a hds _ _ (fun _ => rfl) fun v w' hk hb => hnext v w' hk fun _ => hb
      ·exact hog.out a _ _ (fun _ => rfl) fun v w2 hv => hnext v w2 hv fun h => absurd h hif
     unfold wpOp;rw [ho];exact hgo
 exact Q0
end
theorem ef {P : Program} {N : Nat} {ρ : Rf} {w : World} {Q : Kq} {id : Nat} {l : List Oper} (fr fl M : List Nat) (m : Nat) (src : List (List (Nat × Option Nat))) (ds : List (Nat × Nat)) {w0 : World} {H : List HE} (hh : Hp w0 H w) (hm : P.follows .mixedOrders = true) (hok : xN l m N src ds fl M = true)
  (hfr : yF P l fr) (hfm : fr.all (fun i => i < m) = true) (hQp : NP Q)
  (h : DX P l.toArray (JJ w0 H w) ρ (fun V => ∀ f w', JJ w0 H w w' → yY V f w' ds → (∀ i ∈ fr, ∀ j ∈ fr, i ≠ j → f i ≠ f j) → WL ⟨none, D, false⟩ P N l.toArray Q (l.drop m) (mJ ρ f ds) w') 0 R3 (l.take m) src) : WC ⟨none, D, false⟩ P N (.region id l.toArray true) Q ρ w := by
 obtain ⟨V, _, h1, h2⟩ := EJ _ _ _ _ (fun _ _ _ _ => trivial) h;exact HI fr fl M m src ds (JJ w0 H w) V hm hok hfr hfm hQp (fun _ _ h hb => h.ext hb) (JJ.start hh) h1 h2
end
section
variable {ro : Mode}
def cg (ρ : Rf) : List (Nat × Value) → Rf
 | [] => ρ
 | (d, v) :: r => cG (cg ρ r) d v
def QA (f : Nat → Value) : List (Nat × Nat) → List (Nat × Value) → Prop
 | [], [] => True
 | (i, d) :: r, (d', v) :: s => (d = d' ∧ f i = v) ∧ QA f r s
 | _, _ => False
theorem bm {ρ : Rf} {f : Nat → Value} : ∀ {ds : List (Nat × Nat)} {vs : List (Nat × Value)}, QA f ds vs → mJ ρ f ds = cg ρ vs
 | [], [], _ => rfl
 | [], _ :: _, h => h.elim
 | _ :: _, [], h => h.elim
 | (i, d) :: r, (d', v) :: s, h => by
  obtain ⟨⟨rfl, rfl⟩, h2⟩ := h;rw [mJ, cg, bm h2]
theorem a0 {f : Nat → Value} : QA f [] [] := trivial
theorem ae {f : Nat → Value} {i d : Nat} {v : Value} {r : List (Nat × Nat)} {s : List (Nat × Value)} (h : f i = v) (hr : QA f r s) : QA f ((i, d) :: r) ((d, v) :: s) := ⟨⟨rfl, h⟩, hr⟩
theorem a6 {P : Program} {N : Nat} {ops : Array Oper} {Q : Kq} {l : List Oper} {ρ ρ' : Rf} {w : World} (h : ρ = ρ') (k : WL ro P N ops Q l ρ' w) : WL ro P N ops Q l ρ w := h ▸ k
section
variable {P : Program} {ops : Array Oper} {J : World → Prop} {ρ : Rf} {T : (Nat → VP) → Prop} {i : Nat} {pv : Nat → VP} {os : List Oper} {s : List (Nat × Option Nat)} {ss : List (List (Nat × Option Nat))} {d : Option Nat} {ty : TypeId} {pos : String} {af : Array Edge}
theorem uJ {K : Value → World → Prop} {w : World} {ρ : Rf} {op : Op} {j dj : Nat} {b : Bool} (hj : (ops[j]?).bind (·.dst) = some dj) (hv : ρ dj = undef) (h : K undef w) : OG P ops ⟨d, op, ty, pos, af, some (j, b)⟩ ρ w K :=
 ⟨fun a next Q ha hn => by
  have h1 : Region.wanted ⟨d, op, ty, pos, af, some (j, b)⟩ (yielded ops a.tmps) = false := by
   have h2 := ha dj;rw [hv, Array.getD_eq_getD_getElem?] at h2
   cases h3 : a.tmps[dj]? with
   | none => simp [Region.wanted, yielded, hj, h3]
   | some x =>
    rw [h3] at h2;simp only [Option.getD_some] at h2;subst h2;simp [Region.wanted, yielded, hj, h3, undef]
  rw [h1];exact hn _ _ h⟩
theorem AJ {b : Bool} {op : Op} {j dj : Nat} (hj : (ops[j]?).bind (·.dst) = some dj) (hv : ∀ ρ1 w1, J w1 → df (pv) ρ ρ1 w1 s → ρ1 dj = undef)
  (k : DX P ops J ρ T (i + 1) (ek pv i (Is undef)) os ss) : DX P ops J ρ T i pv (⟨d, op, ty, pos, af, some (j, b)⟩ :: os) (s :: ss) :=
 aR (Is undef) Is.ext (fun ρ1 w1 hj' h => uJ hj (hv ρ1 w1 hj' h) ⟨Below.refl _ _, rfl⟩) k
theorem aW {b : Bool} {j dj : Nat} {t e : TypeId} {len sz by' : Nat} {ag : Bool} {parts : Array (Nat × Operand)} {ps : List (Nat × Value)} {zc cs : List Value} (hj : (ops[j]?).bind (·.dst) = some dj) (hg : ∀ ρ1 w1, J w1 → df (pv) ρ ρ1 w1 s → ρ1 dj = .bool b)
  (ht : P.underlying t = some (.slice e)) (hte : dn P e = some (sz, ag, by', zc))
  (hp : ∀ ρ1 w1, J w1 → df (pv) ρ ρ1 w1 s → wI ρ1 parts.toList = ps) (hzl : zc.length = sz) (hf : ke (fun i => some (i * sz, sz)) (fk len zc) ps = some cs) (h0 : ¬ len * sz = 0) (hsl : len * sz ≤ 16777216) (hl : cs.length = len * sz)
  (k : DX P ops J ρ T (i + 1) (ek pv i (Rows len sz cs)) os ss) : DX P ops J ρ T i pv (⟨d, .buildSlice t len parts, ty, pos, af, some (j, b)⟩ :: os) (s :: ss) :=
 aR (Rows len sz cs) Rows.ext (fun ρ1 w1 hj' h => a7 hj (hg ρ1 w1 hj' h) (iZ ht hte (hp ρ1 w1 hj' h) hzl hf h0 hsl hl fun _ _ ⟨_, hv, hs⟩ hb => ⟨hb, _, _, hv, hs⟩)) k
end
theorem Hp.eU {α : Type} {f : α → List Value} {sz : Nat} {w0 w : World} {H : List HE} {i n c e k g : Nat} {l : List α} {x : α} (hh : Hp w0 H w) (hi : H[i]? = some (.row (some ⟨g, 0, none⟩) n c e sz (az f l))) (hf : ∀ x, (f x).length = sz) (h0 : 0 < sz) (hx : l[k]? = some x) : Rd w ⟨g, k * sz, none⟩ (f x) := by
 have hs := hh.aC hi;have hl := hs.bk hf h0;obtain ⟨ad, h1, h2⟩ := hs.2 (by have := (List.getElem?_eq_some_iff.1 hx).1; omega);injection h1 with h1
 subst h1;have h3 := h2.recAt hf hx;rwa [eY, Nat.zero_add] at h3
end
section
variable {ro : Mode}
section
variable {P : Program} {ρ : Rf} {w : World}
end
end
section
variable {ro : Mode}
section
variable {P : Program} {ρ : Rf} {w : World}
end
section
variable {P : Program} {N : Nat} {ops : Array Oper} {Q : Kq} {ρ : Rf} {w : World} {rest : List Oper} {d ty : Nat} {pos : String} {af : Array Edge}
end
end
section
variable {P : Program} {N : Nat} {Q : Kq} {ρ : Rf} {w : World}
structure WA (P : Program) (N : Nat) (ops : Array Oper) (Q : Kq) (fuel : Nat) (L : Array Bool) (ρ : Rf) (w : World) : Prop where
 out : ∀ a, Fits N a ρ → wpAny P .any ops (lift N Q) fuel L a w
theorem uu {o : Oper} {a : Act} {next : Rf → World → Prop} {K : Act → World → Prop} {r : Result Next} (h : o.upon P a K (lift N (cv next Q)) r) : o.upon P a K (lift N Q) r := by
 have hp : ∀ c a w, lift N (cv next Q) (.panic c) a w → lift N Q (.panic c) a w := fun _ _ _ h => h;have ho : LetsOut (lift N (cv next Q)) → LetsOut (lift N Q) := fun ⟨a, w, h⟩ => ⟨a, w, h⟩
 cases r with
 | ok n w' =>
  cases n <;> simp only [Oper.upon] at h ⊢ <;> first
   | exact h
   | exact Calls.mono h (fun e w'' he => by cases e <;> first | exact he | exact hp _ _ _ he | exact ho he)
 | halt x w' => cases x <;> simp only [Oper.upon] at h ⊢ <;> first | exact h | exact hp _ _ _ h | exact ho h
theorem EV {ops : Array Oper} {fuel : Nat} {L : Array Bool} {rs : List Nat} (hr : Region.ready .any ops L = rs) (hne : rs ≠ [])
  (h : ∀ i ∈ rs, ∃ o, ops[i]? = some o ∧ WL .plain P N ops (cv (fun ρ w => WA P N ops Q fuel (L.setIfInBounds i true) ρ w) Q) [o] ρ w) : WA P N ops Q (fuel + 1) L ρ w := by
 refine ⟨fun a hf => wpAny_all hr hne fun i hi => ?_⟩;obtain ⟨o, ho, hw⟩ := h i hi;have h1 := hw.out a hf;have hK : ∀ a w, wpList P ops (lift N (cv (fun ρ w => WA P N ops Q fuel (L.setIfInBounds i true) ρ w) Q)) [] a w → wpAny P .any ops (lift N Q) fuel (L.setIfInBounds i true) a w := fun a w ⟨ρ', hf', hq⟩ => by
  have hq' : WA P N ops Q fuel (L.setIfInBounds i true) ρ' w := hq;exact hq'.out a hf'
 unfold wpOp;rw [ho];simp only [];unfold wpList at h1;split at h1
 ·rename_i hwt;rw [if_pos hwt];refine h1.imp (fun h2 => Oper.wp_mono hK ?_) (fun h2 => ⟨h2.1, ?_⟩)
  ·unfold Oper.wp at h2 ⊢;exact uu h2
  ·obtain ⟨a', w', h3⟩ := h2.2;exact ⟨a', w', h3⟩
 ·rename_i hwt;rw [if_neg hwt];exact hK _ _ h1
theorem fK {ops : Array Oper} {fuel : Nat} {L : Array Bool} {i : Nat} {o : Oper} (hr : Region.ready .any ops L = [i]) (ho : ops[i]? = some o)
  (h : WL .plain P N ops (cv (fun ρ w => WA P N ops Q fuel (L.setIfInBounds i true) ρ w) Q) [o] ρ w) : WA P N ops Q (fuel + 1) L ρ w :=
 EV hr (by simp) fun j hj => by
  obtain rfl : j = i := by simpa using hj
  exact ⟨o, ho, h⟩
theorem sS {ops : Array Oper} {fuel : Nat} {L : Array Bool} {i i2 : Nat} {o o2 : Oper} (hr : Region.ready .any ops L = [i, i2]) (ho : ops[i]? = some o) (ho2 : ops[i2]? = some o2)
  (h : WL .plain P N ops (cv (fun ρ w => WA P N ops Q fuel (L.setIfInBounds i true) ρ w) Q) [o] ρ w)
  (h2 : WL .plain P N ops (cv (fun ρ w => WA P N ops Q fuel (L.setIfInBounds i2 true) ρ w) Q) [o2] ρ w) : WA P N ops Q (fuel + 1) L ρ w :=
 EV hr (by simp) fun j hj => by
  rcases List.mem_cons.1 hj with rfl | hj
  ·exact ⟨o, ho, h⟩
  ·obtain rfl : j = i2 := by simpa using hj
   exact ⟨o2, ho2, h2⟩
theorem fa {ops : Array Oper} {fuel : Nat} {L : Array Bool} (h : WA P N ops Q fuel L ρ w) : WL .plain P N ops (cv (fun ρ w => WA P N ops Q fuel L ρ w) Q) [] ρ w := aa h
theorem kt {l : List Oper} {fuel : Nat} {L : Array Bool} (m : Nat) (hm : m ≤ l.length) (hL : L = jc l.length m) (hf : l.length ≤ fuel + m)
  (hr : ((List.range (l.length - m)).all fun k => Region.ready .any l.toArray (jc l.length (m + k)) == [m + k]) = true) (hend : Region.ready .any l.toArray (jc l.length l.length) = [])
  (h : WL .plain P N l.toArray Q (l.drop m) ρ w) : WA P N l.toArray Q fuel L ρ w :=
 ⟨fun a hfits => by
  rw [hL];refine pS m (fun k h1 h2 => ?_) hend fuel m a w (Nat.le_refl _) hm hf (h.out a hfits);have h3 := List.all_eq_true.1 hr (k - m) (by simp; omega);rw [show m + (k - m) = k by omega] at h3;exact eq_of_beq h3⟩
theorem p5 {id : Nat} {l : List Oper} {w0 : World} {H : List HE} (hh : Hp w0 H w) (hm : P.follows .mixedOrders = true) (h : ∀ w', JJ w0 H w w' → WA P N l.toArray Q l.length (Array.replicate l.length false) ρ w') : WC .plain P N (.region id l.toArray true) Q ρ w := by
 refine WC.oR fun a hf => wp_region_any hm ?_;have hb : Below w.heap.size w ({ w with drawn := w.drawn + 1 } : World) := ⟨rfl, rfl, rfl, Nat.le_refl _, fun _ _ => rfl⟩;have := (h _ ((JJ.start hh).ext hb)).out a hf;simpa using this
end
section
variable {P : Program} {N : Nat} {Q : Kq} {ρ : Rf} {w : World}
def FH : List Nat → List (List Nat)
 | [] => [[]]
 | x :: r => FH r ++ (FH r).map (x :: ·)
theorem qW (p : Nat → Bool) : ∀ l : List Nat, l.filter p ∈ FH l
 | [] => by simp [FH]
 | x :: r => by
  have ih := qW p r;rw [List.filter_cons, FH];split
  ·exact List.mem_append_right _ (List.mem_map.2 ⟨_, ih, rfl⟩)
  ·exact List.mem_append_left _ ih
def lD (n m : Nat) (fl D : List Nat) : Array Bool := ((List.range n).map fun i => decide (i < m ∧ (i ∉ fl ∨ i ∈ D))).toArray
def EX (l : List Oper) (fl D : List Nat) : Bool := D.all fun i => match l[i]? with
 | some o => o.after.all fun e => !Region.binds .any e || !fl.contains e.on || D.contains e.on
 | none => true
def P2 (ds : List (Nat × Nat)) (fl D : List Nat) : List (Nat × Nat) := ds.filter fun p => !fl.contains p.1 || D.contains p.1
def EB (l : List Oper) (m : Nat) (fl : List Nat) (ds : List (Nat × Nat)) : List (List Nat × Nat × List (Nat × Nat)) :=
 ((FH fl).filter (EX l fl)).map fun D => (D, l.length - (lD l.length m fl D).toList.countP (fun b => b) - 1, P2 ds fl D)
def xp (l : List Oper) (m N : Nat) (src : List (List (Nat × Option Nat))) (ds : List (Nat × Nat)) (fl M : List Nat) : Bool :=
 let ops := l.toArray
 let pre := (List.range m).map fun i => ((ops[i]?).bind (·.dst))
 (m ≤ l.length) && (src.length == m) &&
 (ds == (pre.zipIdx.filterMap fun (d, i) => d.map fun d => (i, d)).reverse) && (decide (ds.map (·.2)).Nodup) && (ds.all fun p => p.2 < N) &&
 ((List.range m).all fun i => match ops[i]?, src[i]? with
  | some o, some s => ((o.looksAt ops).all fun t => s.any fun p => p.1 == t) &&
    s.all fun p => match p.2 with
     | some j => (j < m) && ((ops[j]?).bind (·.dst) == some p.1) && (M.getD i 0).testBit j
     | none => (List.range m).all fun j => !((ops[j]?).bind (·.dst) == some p.1) || (j != i && (M.getD j 0).testBit i)
  | _, _ => false) &&
 (l.length == m || ((List.range m).all fun i => fl.contains i || (M.getD m 0).testBit i)) &&
 ((List.range (l.length - m)).all fun k => k == 0 || (M.getD (m + k) 0).testBit m) &&
 ((List.range l.length).all fun i => match ops[i]? with | some o => o.after.all fun e => !Region.binds .any e || e.on < i | none => false) && (uj l [] == M)
theorem JL {id : Nat} {l : List Oper} (fl M : List Nat) (m : Nat) (src : List (List (Nat × Option Nat))) (ds : List (Nat × Nat)) (Ds : List (List Nat × Nat × List (Nat × Nat))) (J : World → Prop) (V : Nat → Value → World → Prop) (hm : P.follows .mixedOrders = true) (hok : xp l m N src ds fl M = true) (hDs : EB l m fl ds = Ds) (hmn : m < l.length)
  (hJ : ∀ w w', J w → Below w.heap.size w w' → J w') (h0 : J w) (hops : DO P l.toArray J V ρ 0 (l.take m) src)
  (tail : ∀ p ∈ Ds, ∀ f w', J w' → yY V f w' p.2.2 → WL .plain P N l.toArray (cv (fun ρ w => WA P N l.toArray Q p.2.1 ((lD l.length m fl p.1).setIfInBounds m true) ρ w) Q) ((l.drop m).take 1) (mJ ρ f p.2.2) w') : WC .plain P N (.region id l.toArray true) Q ρ w := by
 refine WC.oR fun a hf => wp_region_any hm ?_;simp only [xp, Bool.and_eq_true, decide_eq_true_eq, beq_iff_eq, List.all_eq_true, List.mem_range] at hok;obtain ⟨⟨⟨⟨⟨⟨⟨⟨⟨hml, _⟩, hds⟩, hnd⟩, hdN⟩, hrd⟩, htail⟩, hdep⟩, hedge⟩, hM⟩ := hok;have hdo := (EL _ _ _ hops).2;have hpre : ∀ i d, i < m → ((l.toArray[i]?).bind (·.dst)) = some d → (i, d) ∈ ds := fun i d hi hd => by
  exact Pu
 have hdsm : ∀ i d, (i, d) ∈ ds → i < m ∧ ((l.toArray[i]?).bind (·.dst)) = some d := fun i d hp => by
  exact O3
 have hone : ∀ i j d, i < m → j < m → ((l.toArray[i]?).bind (·.dst)) = some d → ((l.toArray[j]?).bind (·.dst)) = some d → i = j := fun i j d hi hj h1 h2 => by
  exact Pb
 have hnn : l.toArray.size = l.length := by simp
 have part : ∀ (L : Array Bool) (a : Act) (w : World) (fuel : Nat), RI [] [] N l.toArray m ρ J V L a w → (∀ i, i < m → i ∉ fl → L.getD i false = true) → fuel + 1 + L.toList.countP (fun b => b) = l.length → ∀ o, l.toArray[m]? = some o →
   wpOp P l.toArray (lift N Q) m (wpAny P .any l.toArray (lift N Q) fuel (L.setIfInBounds m true)) a w := by
  intro L a w fuel hI hall hfu o ho;have hflt : ∀ i, i ∈ fl.filter (fun i => L.getD i false) ↔ i ∈ fl ∧ L.getD i false = true := fun i => by rw [List.mem_filter]
  have hL : L = lD l.length m fl (fl.filter fun i => L.getD i false) := by
   apply Array.ext (by simp [lD, hI.ls]);intro i h1 h2;have e1 : L.getD i false = L[i] := by simp [h1]
   rw [← e1];simp only [lD, List.getElem_toArray, List.getElem_map, List.getElem_range]
   rcases Nat.lt_or_ge i m with h | h
   ·by_cases hif : i ∈ fl
    ·cases hc : L.getD i false with
     | true => exact (decide_eq_true ⟨h, .inr ((hflt i).2 ⟨hif, hc⟩)⟩).symm
     | false => exact (decide_eq_false fun hh => hh.2.elim (fun hn => hn hif) fun hd => by rw [((hflt i).1 hd).2] at hc; cases hc).symm
    ·rw [hall i h hif];exact (decide_eq_true ⟨h, .inl hif⟩).symm
   ·rw [hI.tl i h];exact (decide_eq_false fun hh => by omega).symm
  have hcl : EX l fl (fl.filter fun i => L.getD i false) = true := List.all_eq_true.2 fun i hi => by
   obtain ⟨h1, h2⟩ := (hflt i).1 hi
   cases hli : l[i]? with
   | none => rfl
   | some oi =>
    refine Array.all_eq_true'.2 fun e he => ?_
    cases hb : Region.binds .any e with
    | false => rfl
    | true =>
     have h3 := hI.cl i oi (by rw [List.getElem?_toArray]; exact hli) h2 e he hb;by_cases hef : e.on ∈ fl
     ·rw [Bool.or_eq_true];exact .inr (List.contains_iff_mem.2 ((hflt _).2 ⟨hef, h3⟩))
     ·simp [hef]
  have hmem : (fl.filter (fun i => L.getD i false), l.length - (lD l.length m fl (fl.filter fun i => L.getD i false)).toList.countP (fun b => b) - 1, P2 ds fl (fl.filter fun i => L.getD i false)) ∈ Ds := by
   rw [← hDs];exact List.mem_map.2 ⟨_, List.mem_filter.2 ⟨qW _ _, hcl⟩, rfl⟩
  have hfu' : l.length - L.toList.countP (fun b => b) - 1 = fuel := Tx;have htl := tail _ hmem;simp only [← hL, hfu'] at htl;have hsub : ∀ p ∈ P2 ds fl (fl.filter fun i => L.getD i false), p ∈ ds ∧ L.getD p.1 false = true := fun p hp => by
   obtain ⟨h1, h2⟩ := List.mem_filter.1 hp;refine ⟨h1, ?_⟩;simp only [Bool.or_eq_true, Bool.not_eq_true', List.contains_eq_mem, decide_eq_false_iff_not, decide_eq_true_eq] at h2
   rcases h2 with h2 | h2
   ·exact hall _ (hdsm _ _ h1).1 h2
   ·exact ((hflt _).1 h2).2
  have hnd' : ((P2 ds fl (fl.filter fun i => L.getD i false)).map (·.2)).Nodup := (List.filter_sublist.map _).nodup hnd;have hfits : Fits N a (mJ ρ (fun i => match (l.toArray[i]?).bind (·.dst) with | some d => a.tmps.getD d undef | none => undef) (P2 ds fl (fl.filter fun i => L.getD i false))) := by
   refine ⟨hI.nd, hI.sz, fun s => ?_⟩;by_cases hs : ∃ i, (i, s) ∈ P2 ds fl (fl.filter fun i => L.getD i false)
   ·obtain ⟨i, hi⟩ := hs;rw [(lL _ _ s hnd').1 i hi, (hdsm i s (hsub _ hi).1).2]
   ·rw [(lL _ _ s hnd').2 fun i hi => hs ⟨i, hi⟩];refine hI.Kk s fun i hi hil hd => hs ⟨i, List.mem_filter.2 ⟨hpre i s hi hd, ?_⟩⟩;by_cases hif : i ∈ fl
    ·rw [Bool.or_eq_true];exact .inr (List.contains_iff_mem.2 ((hflt i).2 ⟨hif, hil⟩))
    ·simp [hif]
  have h1 := (htl (fun i => match (l.toArray[i]?).bind (·.dst) with | some d => a.tmps.getD d undef | none => undef) w hI.j (sx _ fun p hp => by
   obtain ⟨h1, h2⟩ := hsub p hp;obtain ⟨h3, h4⟩ := hdsm p.1 p.2 h1;have := hI.vs p.1 p.2 h3 h2 h4;rw [h4];exact this)).out a hfits
  have hone' : (l.drop m).take 1 = [o] := by
   rw [List.getElem?_toArray] at ho;obtain ⟨h2, h3⟩ := List.getElem?_eq_some_iff.1 ho;rw [List.drop_eq_getElem_cons h2, h3]
   rfl
  rw [hone'] at h1;have hK : ∀ a w, wpList P l.toArray (lift N (cv (fun ρ w => WA P N l.toArray Q fuel (L.setIfInBounds m true) ρ w) Q)) [] a w → wpAny P .any l.toArray (lift N Q) fuel (L.setIfInBounds m true) a w := fun a w ⟨ρ', hf', hq⟩ => by
   have hq' : WA P N l.toArray Q fuel (L.setIfInBounds m true) ρ' w := hq;exact hq'.out a hf'
  unfold wpOp;rw [ho];simp only [];unfold wpList at h1;split at h1
  ·rename_i hwt;rw [if_pos hwt];refine h1.imp (fun h2 => Oper.wp_mono hK ?_) (fun h2 => ⟨h2.1, ?_⟩)
   ·unfold Oper.wp at h2 ⊢;exact uu h2
   ·obtain ⟨a', w', h3⟩ := h2.2;exact ⟨a', w', h3⟩
  ·rename_i hwt;rw [if_neg hwt];exact hK _ _ h1
 have key : ∀ (fuel : Nat) (L : Array Bool) (a : Act) (w : World), RI [] [] N l.toArray m ρ J V L a w → fuel + L.toList.countP (fun b => b) = l.length → wpAny P .any l.toArray (lift N Q) fuel L a w := by
  intro fuel
  induction fuel with
  | zero =>
   intro L a w hI hc;have hall : ∀ i, i < l.length → L.getD i false = true := fun i hi => by
    exact Nx
   have h1 := hall m hmn;rw [hI.tl m (Nat.le_refl _)] at h1
   cases h1
  | succ fuel ih =>
   intro L a w hI hc
   ·have hready_spec : ∀ i, i ∈ Region.ready .any l.toArray L ↔ i < l.length ∧ L.getD i true = false ∧ ∃ o, l.toArray[i]? = some o ∧ ∀ e ∈ o.after, Region.binds .any e = true → L.getD e.on false = true := fun i => by
     exact Pt
    have both : ∀ (i : Nat) (_ : i < m) (o : Oper) (_ : l.toArray[i]? = some o) (_ : L.getD i false = false) (_ : ∀ e ∈ o.after, Region.binds .any e = true → L.getD e.on false = true),
      OG P l.toArray o (fun t => a.tmps.getD t undef) w (fun v w2 => Below w.heap.size w w2 ∧ V i v w2) ∧
      ∀ v w2, (Below w.heap.size w w2 ∧ V i v w2) → (i ∈ ([] : List Nat) → ∃ b, v = .pointer (some ⟨b, 0, none⟩) ∧ w.heap.size ≤ b ∧ b < w2.heap.size) → wpAny P .any l.toArray (lift N Q) fuel (L.setIfInBounds i true) (a.put o.dst v) w2 := fun i him o ho hun' hed => by
     have hiL : i < L.size := by rw [hI.ls, hnn]; omega
     have hed' : ∀ o', l.toArray[i]? = some o' → ∀ e ∈ o'.after, Region.binds .any e = true → L.getD e.on false = true := fun o' ho' => by
      rw [ho] at ho'; injection ho' with ho'; subst ho'; exact hed
     have hok' : (l.take m)[i]? = some o := by
      rw [List.getElem?_take, if_pos him];simpa using ho
     obtain ⟨s, hs, hstab, hog⟩ := hdo i o hok';rw [Nat.zero_add] at hstab hog;have hrdi := hrd i him;rw [ho, hs] at hrdi;simp only [Bool.and_eq_true, List.all_eq_true] at hrdi;have hro : df V ρ (fun t => a.tmps.getD t undef) w s := pb s fun p hp => by
      have hp2 := hrdi.2 p hp
      cases hp3 : p.2 with
      | some j =>
       rw [hp3] at hp2;simp only [Bool.and_eq_true, decide_eq_true_eq, beq_iff_eq] at hp2;exact hI.vs j p.1 hp2.1.1 (j0 hM hI.cl i j hed' hp2.2) hp2.1.2
      | none =>
       rw [hp3] at hp2;refine hI.Kk p.1 fun j hj hjl hjd => ?_;have h6 := List.all_eq_true.1 hp2 j (by simpa using hj);rw [hjd] at h6;simp only [beq_self_eq_true, Bool.not_true, Bool.false_or, Bool.and_eq_true] at h6;have := j0 hM hI.cl j i (fun o' ho' e he hb => hI.cl j o' ho' hjl e he hb) h6.2;rw [hun'] at this
       cases this
     have hnext : ∀ v w2, (Below w.heap.size w w2 ∧ V i v w2) → (i ∈ ([] : List Nat) → ∃ b, v = .pointer (some ⟨b, 0, none⟩) ∧ w.heap.size ≤ b ∧ b < w2.heap.size) → wpAny P .any l.toArray (lift N Q) fuel (L.setIfInBounds i true) (a.put o.dst v) w2 := fun v w2 hv hfv => by
      have hd1 : ∀ d', o.dst = some d' → d' < a.tmps.size := fun d' hd' => by
       rw [hI.sz];exact hdN (i, d') (hpre i d' him (by rw [ho]; exact hd'))
      have hput : ∀ j d, j < m → j ≠ i → (l.toArray[j]?).bind (·.dst) = some d → (a.put o.dst v).tmps.getD d undef = a.tmps.getD d undef := fun j d hj hji hjd => by
       cases hod : o.dst with
       | none => rfl
       | some d' => rw [dW (hd1 d' hod), if_neg fun e => hji (hone j i d hj him hjd (by rw [ho, e]; exact hod))]
      have hputi : ∀ d, (l.toArray[i]?).bind (·.dst) = some d → (a.put o.dst v).tmps.getD d undef = v := fun d hd => by
       rw [ho] at hd;simp only [Option.bind_some] at hd;rw [hd, dW (hd1 d hd), if_pos rfl]
      refine ih _ _ _ ?_ ?_
      ·refine ⟨?_, ?_, hJ _ _ hI.j hv.1, by simpa using hI.ls, ?_, ?_, ?_, ?_, ?_, ?_⟩
       ·cases o.dst <;> exact hI.nd
       ·cases hod : o.dst with
        | none => exact hI.sz
        | some d => simpa [Act.put] using hI.sz
       ·intro k ok hk hkl e he hb;rw [dw hiL] at hkl ⊢;by_cases hki : k = i
        ·subst hki;simp [hed' ok hk e he hb]
        ·simp only [hki, decide_false, Bool.false_or] at hkl;simp [hI.cl k ok hk hkl e he hb]
       ·intro k hk;rw [dw hiL, hI.tl k hk];have : ¬ k = i := Tx;simp [this]
       ·intro j d hj hjl hjd;rw [dw hiL] at hjl;have hd1 : ∀ d', o.dst = some d' → d' < a.tmps.size := fun d' hd' => by
         rw [hI.sz];exact hdN (i, d') (hpre i d' him (by rw [ho]; exact hd'))
        by_cases hji : j = i
        ·subst hji;rw [ho] at hjd;simp only [Option.bind_some] at hjd;rw [hjd, dW (hd1 d hjd), if_pos rfl];exact hv.2
        ·simp only [hji, decide_false, Bool.false_or] at hjl;have hold := hI.vs j d hj hjl hjd;have hdj : (j, d) ∈ ds := hpre j d hj hjd;have hst := (hdo j (l.toArray[j]?.getD default) (by
          have : j < l.length := Tx;rw [List.getElem?_take, if_pos hj];simp [this])).choose_spec.2.1
         rw [Nat.zero_add] at hst;have hne : ∀ d', o.dst = some d' → d ≠ d' := fun d' hd' e => by
          subst e;exact hji (hone j i d hj him hjd (by rw [ho]; exact hd'))
         cases hod : o.dst with
         | none => exact hst _ _ _ hold hv.1
         | some d' =>
          rw [dW (hd1 d' hod), if_neg (hne d' hod)];exact hst _ _ _ hold hv.1
       ·intro s' hs';have hni : ((l.toArray[i]?).bind (·.dst)) ≠ some s' := hs' i him (by rw [dw hiL]; simp);have hold := hI.Kk s' fun j hj hjl => hs' j hj (by rw [dw hiL]; simp [hjl]);rw [ho] at hni;simp only [Option.bind_some] at hni
        cases hod : o.dst with
        | none => exact hold
        | some d' =>
         rw [dW (by rw [hI.sz]; exact hdN (i, d') (hpre i d' him (by rw [ho]; exact hod))), if_neg (fun e => hni (by rw [hod, e]))];exact hold
       ·intro j hj
        cases hj
       ·intro j hj
        cases hj
      ·have hLi : L.toList[i]? = some false := by
        have h3 : i < L.toList.length := by simpa using hiL
        rw [List.getElem?_eq_getElem h3];have : L.getD i false = L.toList[i] := by simp [hiL]
        rw [← this, hun']
       rw [Array.toList_setIfInBounds, List.countP_set (by simpa using hiL)];have h4 : L.toList[i]'(by simpa using hiL) = false := (List.getElem?_eq_some_iff.1 hLi).2;rw [h4];simp only [Bool.false_eq_true, if_false, if_true];omega
     exact ⟨hog _ w hI.j hro, hnext⟩
    refine ⟨fun hnil => ?_, fun i hi => ?_⟩
    ·exfalso;have hmin : ∀ k, (∃ i, i < k ∧ i < m + 1 ∧ L.getD i false = false) → ∃ i, i < m + 1 ∧ L.getD i false = false ∧ ∀ j, j < i → L.getD j false = true := by
      intro k
      induction k with
      | zero => rintro ⟨i, h, _⟩; omega
      | succ k ihk =>
       rintro ⟨i, h1, h2, h3⟩;by_cases hex : ∃ i, i < k ∧ i < m + 1 ∧ L.getD i false = false
       ·exact ihk hex
       ·exact Nh
     obtain ⟨i, hi, hu, hlow⟩ := hmin (m + 1) ⟨m, Tx, Tx, hI.tl m (Nat.le_refl _)⟩;exact N7
    ·obtain ⟨hil, hun, o, ho, hed⟩ := (hready_spec i).1 hi;have hiL : i < L.size := by rw [hI.ls, hnn]; exact hil
     have hun' : L.getD i false = false := by
      exact OE
     have hed' : ∀ o', l.toArray[i]? = some o' → ∀ e ∈ o'.after, Region.binds .any e = true → L.getD e.on false = true := fun o' ho' => by
      exact Pk
     rcases Nat.lt_or_ge i m with him | him
     ·obtain ⟨hog, hnext⟩ := both i him o ho hun' hed;have hgo := hog.out a (wpAny P .any l.toArray (lift N Q) fuel (L.setIfInBounds i true)) (lift N Q) (fun _ => rfl) fun v w2 hv => hnext v w2 hv fun h => nomatch h;unfold wpOp;rw [ho];exact hgo
     ·rcases Nat.lt_or_ge m i with h2 | h2
      ·exfalso;exact QK
      ·obtain rfl : i = m := Tx;refine part L a w fuel hI (fun j hj hjf => ?_) hc o ho;have h4 : (l.length == i) = false := by simp; omega
       rw [h4, Bool.false_or] at htail;have h6 := List.all_eq_true.1 htail j (by simpa using hj);have h7 : fl.contains j = false := by simpa using hjf
       rw [h7, Bool.false_or] at h6;exact j0 hM hI.cl i j hed' h6
 exact Q0
end
theorem qB {P : Program} {N : Nat} {ρ : Rf} {w : World} {Q : Kq} {id : Nat} {l : List Oper} (fl M : List Nat) (m : Nat) (src : List (List (Nat × Option Nat))) (ds : List (Nat × Nat)) (Ds : List (List Nat × Nat × List (Nat × Nat))) {w0 : World} {H : List HE} (hh : Hp w0 H w) (hm : P.follows .mixedOrders = true) (hok : xp l m N src ds fl M = true) (hDs : EB l m fl ds = Ds) (hmn : m < l.length)
  (h : DX P l.toArray (JJ w0 H w) ρ (fun V => ∀ p ∈ Ds, ∀ f w', JJ w0 H w w' → yY V f w' p.2.2 → WL .plain P N l.toArray (cv (fun ρ w => WA P N l.toArray Q p.2.1 ((lD l.length m fl p.1).setIfInBounds m true) ρ w) Q) ((l.drop m).take 1) (mJ ρ f p.2.2) w') 0 R3 (l.take m) src) : WC .plain P N (.region id l.toArray true) Q ρ w := by
 obtain ⟨V, _, h1, h2⟩ := EJ _ _ _ _ (fun _ _ _ _ => trivial) h;exact JL fl M m src ds Ds (JJ w0 H w) V hm hok hDs hmn (fun _ _ h hb => h.ext hb) (JJ.start hh) h1 h2
theorem jh {P : Program} {ρ : Rf} {w : World} {d : Option Nat} {ty : TypeId} {pos : String} {af : Array Edge} {g : Option (Nat × Bool)} {t e : TypeId} {x lo : Operand} {A : Option Addr} {n c l sz : Nat} {k : IntKind} {m : Int} (ht : P.underlying t = some (.slice e)) (hsz : (P.info? e).map (·.size) = some sz) (hx : ev ρ x = .slice A n c) (hlo : ev ρ lo = .int k m)
  (hm : m = (l : Int)) (h1 : l ≤ n) (h2 : n ≤ c) : (execOp (ev ρ) ⟨d, .slice t x (some lo) none none, ty, pos, af, g⟩).run P w = .ok (.value (.slice (if c = l then A else A.map (·.add (l * sz))) (n - l) (c - l))) w :=
 iU (lo := some lo) (hi := none) (l := l) (h := n) ht hsz hx ⟨k, m, hlo, hm⟩ rfl h1 h2
theorem Sl.front {w : World} {A : Option Addr} {n k m : Nat} {xs : List Value} (h : Sl w A n k xs) (hm : m ≤ n) : Sl w A m k (xs.take (m * k)) := by
 have hle : m * k ≤ n * k := Nat.mul_le_mul_right _ hm;refine ⟨by rw [List.length_take, h.1]; omega, fun h0 => ?_⟩;obtain ⟨ad, h1, h2⟩ := h.2 Tx;exact ⟨ad, h1, h2.take _⟩
theorem Sl.back {w : World} {A : Option Addr} {n k l c : Nat} {xs : List Value} (h : Sl w A n k xs) (hl : l ≤ n) (hc : n ≤ c) : Sl w (if c = l then A else A.map (·.add (l * k))) (n - l) k (xs.drop (l * k)) := by
 have h1 := h.cut hl (Nat.le_refl n) hc;have h2 : ((xs.drop (l * k)).take ((n - l) * k)) = xs.drop (l * k) := List.take_of_length_le (by rw [List.length_drop, h.1, Nat.sub_mul]; exact Nat.le_refl _);rwa [h2] at h1
def S7 (base : Nat) (t : TypeId) (sz : Nat) : VP := fun v W => ∃ g, v = .slice (some ⟨g, 0, none⟩) 0 0 ∧ W.ownsRow base t sz (.slice (some ⟨g, 0, none⟩) 0 0) 0 []
def ve (base : Nat) (t : TypeId) (n sz : Nat) (cs : List Value) : VP := fun v W => ∃ A c, v = .slice A n c ∧ W.ownsRow base t sz (.slice A n c) n cs
theorem tZ {w w' : World} {base : Nat} {t : TypeId} {sz n c : Nat} {A : Option Addr} {xs : List Value} (h : w.ownsRow base t sz (.slice A n c) n xs) (hb : Below w.heap.size w w') : w'.ownsRow base t sz (.slice A n c) n xs := by
 refine ⟨h.1, h.2.imp id ?_⟩;rintro ⟨g, cap, cur, h1, h2, h3, h4⟩;have hlt : g < w.heap.size := by
  rcases Nat.lt_or_ge g w.heap.size with h | h
  ·exact h
  ·rw [Array.getElem?_eq_none h] at h3; cases h3
 exact ⟨g, cap, cur, h1, h2, (hb.block g hlt).trans h3, h4⟩
theorem ve.ext {base : Nat} {t : TypeId} {n sz : Nat} {cs : List Value} (v : Value) (w w' : World) (h : ve base t n sz cs v w) (hb : Below w.heap.size w w') : ve base t n sz cs v w' := let ⟨A, c, h1, h2⟩ := h; ⟨A, c, h1, tZ h2 hb⟩
theorem JJ.Hy {w0 : World} {H : List HE} {w W : World} {t : TypeId} {n c sz : Nat} {A : Option Addr} {cs : List Value} (hs : Hp w0 H w) (h : Hp w0 H W) (ho : W.ownsRow w.heap.size t sz (.slice A n c) n cs) : Hp w0 (.row A n c t sz cs :: H) W := by
 refine ⟨h.below, fun x hx => ?_, ?_⟩
 ·rcases List.mem_cons.1 hx with rfl | hx
  ·refine ⟨ho.1, ho.2.imp id ?_⟩;rintro ⟨g, cap, cur, h1, h2, h3⟩;exact ⟨g, cap, cur, h1, Nat.le_trans hs.size h2, h3⟩
  ·exact h.own x hx
 ·rw [List.filterMap_cons]
  rcases ho.2 with ⟨h1, _⟩ | ⟨g, cap, cur, h1, h2, _⟩
  ·injection h1 with e1
   subst e1;exact h.nd
  ·injection h1 with e1
   subst e1;show (g :: H.filterMap HE.id).Nodup;refine List.nodup_cons.2 ⟨fun hm => ?_, h.nd⟩;obtain ⟨y, hy, hyb⟩ := List.mem_filterMap.1 hm;have := (dJ (hs.own y hy) hyb).2;omega
section
variable {P : Program} {ops : Array Oper} {J : World → Prop} {ρ : Rf} {T : (Nat → VP) → Prop} {i : Nat} {pv : Nat → VP} {os : List Oper} {s : List (Nat × Option Nat)} {ss : List (List (Nat × Option Nat))} {d : Option Nat} {ty : TypeId} {pos : String} {af : Array Edge}
end
section
variable {D : List Deferred}
section
variable {P : Program} {N : Nat} {Q : Kq} {ρ : Rf} {w : World}
structure Tl (D : List Deferred) (N : Nat) (ops : Array Oper) (m μ : Nat) (ρ : Rf) (J : Bool → World → Prop) (V : Nat → Value → World → Prop) (L : Array Bool) (a : Act) (w : World) : Prop where
 nd : a.defers = D
 sz : a.tmps.size = N
 j : J (L.getD μ false) w
 ls : L.size = ops.size
 cl : qo ops L
 tl : ∀ k, m ≤ k → L.getD k false = false
 vs : ∀ i d, i < m → L.getD i false = true → (ops[i]?).bind (·.dst) = some d → V i (a.tmps.getD d undef) w
 Kk : ∀ s, (∀ i, i < m → L.getD i false = true → (ops[i]?).bind (·.dst) ≠ some s) → a.tmps.getD s undef = ρ s
end
def S4 (V : Nat → VP) : List Nat → Prop
 | [] => True
 | i :: r => (∀ v w w', V i v w → V i v w') ∧ S4 V r
structure JC (w0 : World) (H : List HE) (W : World) : Prop where
 hp : Hp w0 H W
end
section
variable {P : Program} {ops : Array Oper} {J : World → Prop} {ρ : Rf} {T : (Nat → VP) → Prop} {i : Nat} {pv : Nat → VP} {os : List Oper} {s : List (Nat × Option Nat)} {ss : List (List (Nat × Option Nat))} {d : Option Nat} {ty : TypeId} {pos : String} {af : Array Edge} {x y : Operand} {t u : TypeId}
theorem dE {k : IntKind} {a : Int} (kk : DX P ops J ρ T (i + 1) (ek pv i (Is (.int k a))) os ss) (hx : ∀ ρ1 w1, J w1 → df pv ρ ρ1 w1 s → ev ρ1 x = .int k a := by intro ρ1 w1 hj hR; first | exact hR.1 | exact hR.2.1 | exact hR.2.2.1 | exact rfl) : DX P ops J ρ T i pv (⟨d, .move x, ty, pos, af, none⟩ :: os) (s :: ss) := bp (fun ρ1 w1 hj h => ez (hx ρ1 w1 hj h)) kk
theorem nJ {a : Bool} (kk : DX P ops J ρ T (i + 1) (ek pv i (Is (.bool a))) os ss) (hx : ∀ ρ1 w1, J w1 → df pv ρ ρ1 w1 s → ev ρ1 x = .bool a := by intro ρ1 w1 hj hR; first | exact hR.1 | exact hR.2.1 | exact hR.2.2.1 | exact rfl) : DX P ops J ρ T i pv (⟨d, .move x, ty, pos, af, none⟩ :: os) (s :: ss) := bp (fun ρ1 w1 hj h => ez (hx ρ1 w1 hj h)) kk
theorem SW {a : ByteArray} (kk : DX P ops J ρ T (i + 1) (ek pv i (Is (.string a))) os ss) (hx : ∀ ρ1 w1, J w1 → df pv ρ ρ1 w1 s → ev ρ1 x = .string a := by intro ρ1 w1 hj hR; first | exact hR.1 | exact hR.2.1 | exact hR.2.2.1 | exact rfl) : DX P ops J ρ T i pv (⟨d, .move x, ty, pos, af, none⟩ :: os) (s :: ss) := bp (fun ρ1 w1 hj h => ez (hx ρ1 w1 hj h)) kk
theorem gk {A : Option Addr} {n c : Nat} (kk : DX P ops J ρ T (i + 1) (ek pv i (Is (.slice A n c))) os ss) (hx : ∀ ρ1 w1, J w1 → df pv ρ ρ1 w1 s → ev ρ1 x = .slice A n c := by intro ρ1 w1 hj hR; first | exact hR.1 | exact hR.2.1 | exact hR.2.2.1 | exact rfl) : DX P ops J ρ T i pv (⟨d, .move x, ty, pos, af, none⟩ :: os) (s :: ss) := bp (fun ρ1 w1 hj h => ez (hx ρ1 w1 hj h)) kk
theorem Sq {l : List Value} (kk : DX P ops J ρ T (i + 1) (ek pv i (Is (.tuple l.toArray))) os ss) (hx : ∀ ρ1 w1, J w1 → df pv ρ ρ1 w1 s → ev ρ1 x = .tuple l.toArray := by intro ρ1 w1 hj hR; first | exact hR.1 | exact hR.2.1 | exact hR.2.2.1 | exact rfl) : DX P ops J ρ T i pv (⟨d, .move x, ty, pos, af, none⟩ :: os) (s :: ss) := bp (fun ρ1 w1 hj h => ez (hx ρ1 w1 hj h)) kk
theorem Lq {f : Fn} {l r : List Value} (kk : DX P ops J ρ T (i + 1) (ek pv i (Is (.func f l.toArray r.toArray))) os ss) (hx : ∀ ρ1 w1, J w1 → df pv ρ ρ1 w1 s → ev ρ1 x = .func f l.toArray r.toArray := by intro ρ1 w1 hj hR; first | exact hR.1 | exact hR.2.1 | exact hR.2.2.1 | exact rfl) : DX P ops J ρ T i pv (⟨d, .move x, ty, pos, af, none⟩ :: os) (s :: ss) := bp (fun ρ1 w1 hj h => ez (hx ρ1 w1 hj h)) kk
theorem dV {c : TypeId} {f b o off : Nat} {ft : TypeId} [hf : eL P c f off ft] (kk : DX P ops J ρ T (i + 1) (ek pv i (Is (.pointer (some ⟨b, o + off, none⟩)))) os ss) (hx : ∀ ρ1 w1, J w1 → df pv ρ ρ1 w1 s → ev ρ1 x = .pointer (some ⟨b, o, none⟩) := by intro ρ1 w1 hj hR; first | exact hR.1 | exact hR.2.1 | exact hR.2.2.1 | exact rfl) : DX P ops J ρ T i pv (⟨d, .fieldAddr c x f, ty, pos, af, none⟩ :: os) (s :: ss) := bp (fun ρ1 w1 hj h => rC hf.out (hx ρ1 w1 hj h)) kk
theorem MT {c : TypeId} {f off : Nat} {ad : Addr} {ft : TypeId} [hf : eL P c f off ft] (kk : DX P ops J ρ T (i + 1) (ek pv i (Is (.pointer (some (ad.add off))))) os ss) (hx : ∀ ρ1 w1, J w1 → df pv ρ ρ1 w1 s → ev ρ1 x = .pointer (some ad) := by intro ρ1 w1 hj hR; first | exact hR.1 | exact hR.2.1 | exact hR.2.2.1 | exact rfl) : DX P ops J ρ T i pv (⟨d, .fieldAddr c x f, ty, pos, af, none⟩ :: os) (s :: ss) := bp (fun ρ1 w1 hj h => pZ hf.out (hx ρ1 w1 hj h)) kk
theorem rX {ad : Addr} {n by' : Nat} {zc : List Value} {v : Value} (hc : ∀ w1, J w1 → w1.cell? ad = some v) [ht : aN P t n false by' zc] (kk : DX P ops J ρ T (i + 1) (ek pv i (Is (v))) os ss) (hx : ∀ ρ1 w1, J w1 → df pv ρ ρ1 w1 s → ev ρ1 x = .pointer (some ad) := by intro ρ1 w1 hj hR; first | exact hR.1 | exact hR.2.1 | exact hR.2.2.1 | exact rfl) : DX P ops J ρ T i pv (⟨d, .load t x, ty, pos, af, none⟩ :: os) (s :: ss) := bp (fun ρ1 w1 hj h => jv ht.out (hx ρ1 w1 hj h) (hc w1 hj)) kk
theorem pE {ad : Addr} {n by' : Nat} {zc : List Value} (vs : List Value) (hc : ∀ w1, J w1 → Rd w1 ad vs) [ht : aN P t n true by' zc] (kk : DX P ops J ρ T (i + 1) (ek pv i (Is (.agg vs.toArray))) os ss) (hx : ∀ ρ1 w1, J w1 → df pv ρ ρ1 w1 s → ev ρ1 x = .pointer (some ad) := by intro ρ1 w1 hj hR; first | exact hR.1 | exact hR.2.1 | exact hR.2.2.1 | exact rfl) (hl : vs.length = n := by exact rfl) : DX P ops J ρ T i pv (⟨d, .load t x, ty, pos, af, none⟩ :: os) (s :: ss) := bp (fun ρ1 w1 hj h => CE ht.out (hx ρ1 w1 hj h) (hc w1 hj) hl) kk
theorem fJ {w0 w : World} {H : List HE} {b o n by' : Nat} {zc cs : List Value} {fz : Nat × Nat} {t' : TypeId} {v : Value} (j : Nat) [ht : aN P t n false by' zc] (kk : DX P ops (JJ w0 H w) ρ T (i + 1) (ek pv i (Is (v))) os ss) (hx : ∀ ρ1 w1, JJ w0 H w w1 → df pv ρ ρ1 w1 s → ev ρ1 x = .pointer (some ⟨b, o, none⟩) := by intro ρ1 w1 hj hR; first | exact hR.1 | exact hR.2.1 | exact hR.2.2.1 | exact rfl) (hi : H[j]? = some (.blk b t' cs fz) := by exact rfl) (hv : cs[o]? = some v := by exact rfl) : DX P ops (JJ w0 H w) ρ T i pv (⟨d, .load t x, ty, pos, af, none⟩ :: os) (s :: ss) := bp (fun ρ1 w1 hj h => jv ht.out (hx ρ1 w1 hj h) (hj.hp.dX hi hv)) kk
theorem fT {w0 w : World} {H : List HE} {b o n by' : Nat} {zc cs : List Value} {fz : Nat × Nat} {t' : TypeId} (j : Nat) (vs : List Value) [ht : aN P t n true by' zc] (kk : DX P ops (JJ w0 H w) ρ T (i + 1) (ek pv i (Is (.agg vs.toArray))) os ss) (hx : ∀ ρ1 w1, JJ w0 H w w1 → df pv ρ ρ1 w1 s → ev ρ1 x = .pointer (some ⟨b, o, none⟩) := by intro ρ1 w1 hj hR; first | exact hR.1 | exact hR.2.1 | exact hR.2.2.1 | exact rfl) (hi : H[j]? = some (.blk b t' cs fz) := by exact rfl) (hv : (cs.drop o).take n = vs := by exact rfl) (hl : vs.length = n := by exact rfl) : DX P ops (JJ w0 H w) ρ T i pv (⟨d, .load t x, ty, pos, af, none⟩ :: os) (s :: ss) := bp (fun ρ1 w1 hj h => CE ht.out (hx ρ1 w1 hj h) (hj.hp.ck hi hv) hl) kk
theorem CP {e : TypeId} {B : Option Addr} {n c : Nat} [ht : bg P t (.slice e)] (kk : DX P ops J ρ T (i + 1) (ek pv i (Is (.int .i64 n))) os ss) (hx : ∀ ρ1 w1, J w1 → df pv ρ ρ1 w1 s → ev ρ1 x = .slice B n c := by intro ρ1 w1 hj hR; first | exact hR.1 | exact hR.2.1 | exact hR.2.2.1 | exact rfl) : DX P ops J ρ T i pv (⟨d, .call ⟨.builtin .len, #[x], #[t]⟩, ty, pos, af, none⟩ :: os) (s :: ss) := bp (fun ρ1 w1 hj h => Ax ht.out (hx ρ1 w1 hj h)) kk
theorem PG {k : IntKind} {a b : Int} {r : Bool} (kk : DX P ops J ρ T (i + 1) (ek pv i (Is (.bool r))) os ss) (hx : ∀ ρ1 w1, J w1 → df pv ρ ρ1 w1 s → ev ρ1 x = .int k a := by intro ρ1 w1 hj hR; first | exact hR.1 | exact hR.2.1 | exact hR.2.2.1 | exact rfl) (hy : ∀ ρ1 w1, J w1 → df pv ρ ρ1 w1 s → ev ρ1 y = .int k b := by intro ρ1 w1 hj hR; first | exact hR.1 | exact hR.2.1 | exact hR.2.2.1 | exact rfl) (hr : decide (b < a) = r := by first | exact decide_eq_true Tx | exact decide_eq_false Tx | exact rfl) : DX P ops J ρ T i pv (⟨d, .binOp .gtr t x y u, ty, pos, af, none⟩ :: os) (s :: ss) := bp (fun ρ1 w1 hj h => by rw [← hr]; exact Eh (hx ρ1 w1 hj h) (hy ρ1 w1 hj h)) kk
theorem yi {k : IntKind} {a b : Int} {r : Bool} (kk : DX P ops J ρ T (i + 1) (ek pv i (Is (.bool r))) os ss) (hx : ∀ ρ1 w1, J w1 → df pv ρ ρ1 w1 s → ev ρ1 x = .int k a := by intro ρ1 w1 hj hR; first | exact hR.1 | exact hR.2.1 | exact hR.2.2.1 | exact rfl) (hy : ∀ ρ1 w1, J w1 → df pv ρ ρ1 w1 s → ev ρ1 y = .int k b := by intro ρ1 w1 hj hR; first | exact hR.1 | exact hR.2.1 | exact hR.2.2.1 | exact rfl) (hr : decide (a = b) = r := by first | exact decide_eq_true Tx | exact decide_eq_false Tx | exact rfl) : DX P ops J ρ T i pv (⟨d, .binOp .eql t x y u, ty, pos, af, none⟩ :: os) (s :: ss) := bp (fun ρ1 w1 hj h => by rw [← hr]; exact D5 (hx ρ1 w1 hj h) (hy ρ1 w1 hj h)) kk
theorem rP {a b : Int} (kk : DX P ops J ρ T (i + 1) (ek pv i (Is (.int .i64 (a + b)))) os ss) (hx : ∀ ρ1 w1, J w1 → df pv ρ ρ1 w1 s → ev ρ1 x = .int .i64 a := by intro ρ1 w1 hj hR; first | exact hR.1 | exact hR.2.1 | exact hR.2.2.1 | exact rfl) (hy : ∀ ρ1 w1, J w1 → df pv ρ ρ1 w1 s → ev ρ1 y = .int .i64 b := by intro ρ1 w1 hj hR; first | exact hR.1 | exact hR.2.1 | exact hR.2.2.1 | exact rfl) (h1 : -9223372036854775808 ≤ a + b := by omega) (h2 : a + b ≤ 9223372036854775807 := by omega) : DX P ops J ρ T i pv (⟨d, .binOp .add t x y u, ty, pos, af, none⟩ :: os) (s :: ss) := bp (fun ρ1 w1 hj h => IH (hx ρ1 w1 hj h) (hy ρ1 w1 hj h) h1 h2) kk
theorem uX {a b : Int} (kk : DX P ops J ρ T (i + 1) (ek pv i (Is (.int .i64 (a - b)))) os ss) (hx : ∀ ρ1 w1, J w1 → df pv ρ ρ1 w1 s → ev ρ1 x = .int .i64 a := by intro ρ1 w1 hj hR; first | exact hR.1 | exact hR.2.1 | exact hR.2.2.1 | exact rfl) (hy : ∀ ρ1 w1, J w1 → df pv ρ ρ1 w1 s → ev ρ1 y = .int .i64 b := by intro ρ1 w1 hj hR; first | exact hR.1 | exact hR.2.1 | exact hR.2.2.1 | exact rfl) (h1 : -9223372036854775808 ≤ a - b := by omega) (h2 : a - b ≤ 9223372036854775807 := by omega) : DX P ops J ρ T i pv (⟨d, .binOp .sub t x y u, ty, pos, af, none⟩ :: os) (s :: ss) := bp (fun ρ1 w1 hj h => J2 (hx ρ1 w1 hj h) (hy ρ1 w1 hj h) h1 h2) kk
theorem Qi {a b : Int} (kk : DX P ops J ρ T (i + 1) (ek pv i (Is (.int .i64 (a * b)))) os ss) (hx : ∀ ρ1 w1, J w1 → df pv ρ ρ1 w1 s → ev ρ1 x = .int .i64 a := by intro ρ1 w1 hj hR; first | exact hR.1 | exact hR.2.1 | exact hR.2.2.1 | exact rfl) (hy : ∀ ρ1 w1, J w1 → df pv ρ ρ1 w1 s → ev ρ1 y = .int .i64 b := by intro ρ1 w1 hj hR; first | exact hR.1 | exact hR.2.1 | exact hR.2.2.1 | exact rfl) (h1 : -9223372036854775808 ≤ a * b := by omega) (h2 : a * b ≤ 9223372036854775807 := by omega) : DX P ops J ρ T i pv (⟨d, .binOp .mul t x y u, ty, pos, af, none⟩ :: os) (s :: ss) := bp (fun ρ1 w1 hj h => HO (hx ρ1 w1 hj h) (hy ρ1 w1 hj h) h1 h2) kk
theorem FB {b : Bool} (kk : DX P ops J ρ T (i + 1) (ek pv i (Is (.bool !b))) os ss) (hx : ∀ ρ1 w1, J w1 → df pv ρ ρ1 w1 s → ev ρ1 x = .bool b := by intro ρ1 w1 hj hR; first | exact hR.1 | exact hR.2.1 | exact hR.2.2.1 | exact rfl) : DX P ops J ρ T i pv (⟨d, .unOp .not t x, ty, pos, af, none⟩ :: os) (s :: ss) := bp (fun ρ1 w1 hj h => ML (hx ρ1 w1 hj h)) kk
theorem Rb {j : Nat} {vs : List Value} {v : Value} (kk : DX P ops J ρ T (i + 1) (ek pv i (Is (v))) os ss) (hx : ∀ ρ1 w1, J w1 → df pv ρ ρ1 w1 s → ev ρ1 x = .tuple vs.toArray := by intro ρ1 w1 hj hR; first | exact hR.1 | exact hR.2.1 | exact hR.2.2.1 | exact rfl) (hv : vs[j]? = some v := by exact rfl) : DX P ops J ρ T i pv (⟨d, .extract x j, ty, pos, af, none⟩ :: os) (s :: ss) := bp (fun ρ1 w1 hj h => fi (hx ρ1 w1 hj h) hv) kk
theorem FJ {c a b : Operand} {v : Bool} (kk : DX P ops J ρ T (i + 1) (ek pv i (Is (.bool v))) os ss) (hc : ∀ ρ1 w1, J w1 → df pv ρ ρ1 w1 s → ev ρ1 c = .bool true := by intro ρ1 w1 hj hR; first | exact hR.1 | exact hR.2.1 | exact hR.2.2.1 | exact rfl) (hx : ∀ ρ1 w1, J w1 → df pv ρ ρ1 w1 s → ev ρ1 a = .bool v := by intro ρ1 w1 hj hR; first | exact hR.1 | exact hR.2.1 | exact hR.2.2.1 | exact rfl) : DX P ops J ρ T i pv (⟨d, .pick c a b, ty, pos, af, none⟩ :: os) (s :: ss) := bp (fun ρ1 w1 hj h => Aw (hc ρ1 w1 hj h) (hx ρ1 w1 hj h)) kk
theorem KH {c a b : Operand} {v : Bool} (kk : DX P ops J ρ T (i + 1) (ek pv i (Is (.bool v))) os ss) (hc : ∀ ρ1 w1, J w1 → df pv ρ ρ1 w1 s → ev ρ1 c = .bool false := by intro ρ1 w1 hj hR; first | exact hR.1 | exact hR.2.1 | exact hR.2.2.1 | exact rfl) (hx : ∀ ρ1 w1, J w1 → df pv ρ ρ1 w1 s → ev ρ1 b = .bool v := by intro ρ1 w1 hj hR; first | exact hR.1 | exact hR.2.1 | exact hR.2.2.1 | exact rfl) : DX P ops J ρ T i pv (⟨d, .pick c a b, ty, pos, af, none⟩ :: os) (s :: ss) := bp (fun ρ1 w1 hj h => Bf (hc ρ1 w1 hj h) (hx ρ1 w1 hj h)) kk
theorem BQ {e : TypeId} {b n c sz : Nat} {q : IntKind} {m : Int} (k : Nat) [ht : bg P t (.slice e)] [hs : TS P e sz] (kk : DX P ops J ρ T (i + 1) (ek pv i (Is (.pointer (some ⟨b, k * sz, none⟩)))) os ss) (hx : ∀ ρ1 w1, J w1 → df pv ρ ρ1 w1 s → ev ρ1 x = .slice (some ⟨b, 0, none⟩) n c := by intro ρ1 w1 hj hR; first | exact hR.1 | exact hR.2.1 | exact hR.2.2.1 | exact rfl) (hy : ∀ ρ1 w1, J w1 → df pv ρ ρ1 w1 s → ev ρ1 y = .int q m := by intro ρ1 w1 hj hR; first | exact hR.1 | exact hR.2.1 | exact hR.2.2.1 | exact rfl) (hm : m = (k : Int) := by omega) (h1 : k < n := by omega) : DX P ops J ρ T i pv (⟨d, .indexAddr t x y, ty, pos, af, none⟩ :: os) (s :: ss) := bp (fun ρ1 w1 hj h => oa ht.out hs.out (hx ρ1 w1 hj h) (hy ρ1 w1 hj h) hm h1) kk
theorem nT {e : TypeId} {ad : Addr} {n c sz : Nat} {q : IntKind} {m : Int} (k : Nat) [ht : bg P t (.slice e)] [hs : TS P e sz] (kk : DX P ops J ρ T (i + 1) (ek pv i (Is (.pointer (some (ad.add (k * sz)))))) os ss) (hx : ∀ ρ1 w1, J w1 → df pv ρ ρ1 w1 s → ev ρ1 x = .slice (some ad) n c := by intro ρ1 w1 hj hR; first | exact hR.1 | exact hR.2.1 | exact hR.2.2.1 | exact rfl) (hy : ∀ ρ1 w1, J w1 → df pv ρ ρ1 w1 s → ev ρ1 y = .int q m := by intro ρ1 w1 hj hR; first | exact hR.1 | exact hR.2.1 | exact hR.2.2.1 | exact rfl) (hm : m = (k : Int) := by omega) (h1 : k < n := by omega) : DX P ops J ρ T i pv (⟨d, .indexAddr t x y, ty, pos, af, none⟩ :: os) (s :: ss) := bp (fun ρ1 w1 hj h => g6 ht.out hs.out (hx ρ1 w1 hj h) (hy ρ1 w1 hj h) hm h1) kk
theorem dC {f : FuncId} {args : Array Operand} {ts : Array TypeId} {vs : List Value} {v : Value} (hc : ∀ w1, J w1 → Calls P f vs.toArray w1 fun e w' => e = .returned v ∧ Below w1.heap.size w1 w') [hf : ak P f] (kk : DX P ops J ρ T (i + 1) (ek pv i (Is (v))) os ss) (ha : ∀ ρ1 w1, J w1 → df pv ρ ρ1 w1 s → wN ρ1 args.toList = vs := by intro ρ1 w1 hj hR; repeat (first | exact aX | (apply aw; first | exact hR.1 | exact hR.2.1 | exact hR.2.2.1 | exact hR.2.2.2.1 | exact rfl))) : DX P ops J ρ T i pv (⟨d, .call ⟨.value (.func f), args, ts⟩, ty, pos, af, none⟩ :: os) (s :: ss) := Ls (fun ρ1 w1 hj h => aM hf.out (ha ρ1 w1 hj h)) hc kk
theorem dB {n by' : Nat} {parts : Array (Nat × Operand)} {ps : List (Nat × Value)} {zc : List Value} {pl : List (Nat × Nat)} (cs : List Value) [hte : aN P t n true by' zc] [hpl : kF P t pl] (kk : DX P ops J ρ T (i + 1) (ek pv i (Is (.agg cs.toArray))) os ss) (hp : ∀ ρ1 w1, J w1 → df pv ρ ρ1 w1 s → wI ρ1 parts.toList = ps := by intro ρ1 w1 hj hR; repeat (first | exact bP | (apply aK; first | exact hR.1 | exact hR.2.1 | exact hR.2.2.1 | exact hR.2.2.2.1 | exact rfl))) (hf : ke (pl[·]?) zc ps = some cs := by exact rfl) : DX P ops J ρ T i pv (⟨d, .build t parts, ty, pos, af, none⟩ :: os) (s :: ss) := bp (fun ρ1 w1 hj h => sy hte.out hpl.out (hp ρ1 w1 hj h) hf) kk
theorem sC {e : TypeId} {len sz by' : Nat} {ag : Bool} {parts : Array (Nat × Operand)} {ps : List (Nat × Value)} {zc : List Value} (cs : List Value) [ht : bg P t (.slice e)] [hte : aN P e sz ag by' zc] (kk : DX P ops J ρ T (i + 1) (ek pv i (Rows len sz cs)) os ss) (hp : ∀ ρ1 w1, J w1 → df pv ρ ρ1 w1 s → wI ρ1 parts.toList = ps := by intro ρ1 w1 hj hR; repeat (first | exact bP | (apply aK; first | exact hR.1 | exact hR.2.1 | exact hR.2.2.1 | exact hR.2.2.2.1 | exact rfl))) (hzl : zc.length = sz := by exact rfl) (hf : ke (fun i => some (i * sz, sz)) (fk len zc) ps = some cs := by exact rfl) (h0 : ¬ len * sz = 0 := by decide) (hsl : len * sz ≤ 16777216 := by decide) (hl : cs.length = len * sz := by exact rfl) : DX P ops J ρ T i pv (⟨d, .buildSlice t len parts, ty, pos, af, none⟩ :: os) (s :: ss) := u9 ht.out hte.out hp hzl hf h0 hsl hl kk
theorem dS {b c : Bool} {op : Op} {j dj : Nat} (kk : DX P ops J ρ T (i + 1) (ek pv i (Is (undef))) os ss) (hj : (ops[j]?).bind (·.dst) = some dj := by exact rfl) (hv : ∀ ρ1 w1, J w1 → df pv ρ ρ1 w1 s → ρ1 dj = .bool c := by intro ρ1 w1 hj hR; first | exact hR.1 | exact hR.2.1 | exact hR.2.2.1 | exact hR.2.2.2.1) (hb : c ≠ b := by decide) : DX P ops J ρ T i pv (⟨d, op, ty, pos, af, some (j, b)⟩ :: os) (s :: ss) := yk hj hv hb kk
theorem dU {b : Bool} {op : Op} {j dj : Nat} (kk : DX P ops J ρ T (i + 1) (ek pv i (Is (undef))) os ss) (hj : (ops[j]?).bind (·.dst) = some dj := by exact rfl) (hv : ∀ ρ1 w1, J w1 → df pv ρ ρ1 w1 s → ρ1 dj = undef := by intro ρ1 w1 hj hR; first | exact hR.1 | exact hR.2.1 | exact hR.2.2.1 | exact hR.2.2.2.1) : DX P ops J ρ T i pv (⟨d, op, ty, pos, af, some (j, b)⟩ :: os) (s :: ss) := AJ hj hv kk
theorem dG {b : Bool} {op : Op} {j dj : Nat} (kk : DX P ops J ρ T i pv (⟨d, op, ty, pos, af, none⟩ :: os) (s :: ss)) (hj : (ops[j]?).bind (·.dst) = some dj := by exact rfl) (hv : ∀ ρ1 w1, J w1 → df pv ρ ρ1 w1 s → ρ1 dj = .bool b := by intro ρ1 w1 hj hR; first | exact hR.1 | exact hR.2.1 | exact hR.2.2.1 | exact hR.2.2.2.1) : DX P ops J ρ T i pv (⟨d, op, ty, pos, af, some (j, b)⟩ :: os) (s :: ss) := let ⟨V, h1, h2, h3⟩ := kk; ⟨V, h1, fun ρ1 w1 hj1 h => a7 hj (hv ρ1 w1 hj1 h) (h2 ρ1 w1 hj1 h), h3⟩
end
section
variable {ro : Mode}
section
variable {P : Program} {N : Nat} {ops : Array Oper} {Q : Kq} {ρ : Rf} {w w0 : World} {rest : List Oper} {H : List HE} {d : Nat} {ty : TypeId} {pos : String} {af : Array Edge}
theorem Lp (hh : Hp w0 H w) {t s e : TypeId} {x y : Operand} {i b o m c dl dc n cy sz by' : Nat} {ag : Bool} {B : Option Addr} {zc xs news : List Value} (hi : H[i]? = some (.row (some ⟨b, 0, none⟩) m c e sz xs)) (hx : ev ρ x = .slice (some ⟨b, o, none⟩) dl dc) (hy : ev ρ y = .slice B n cy)
  (hsl : Sl w B n sz news) (ht : P.underlying t = some (.slice e)) (hte : dn P e = some (sz, ag, by', zc)) (ho : o + min n dl * sz ≤ xs.length) (h1 : (news.all Value.oneCell') = true) (hN : d < N)
  (kk : ∀ w', Hp w0 (H.set i (.row (some ⟨b, 0, none⟩) m c e sz (cm xs o (news.take (min n dl * sz))))) w' → WL ro P N ops Q rest (cG ρ d (.int .i64 ((min n dl : Nat) : Int))) w') :
  WL ro P N ops Q (⟨some d, .call ⟨.builtin .copy, #[x, y], #[t, s]⟩, ty, pos, af, none⟩ :: rest) ρ w := by
 obtain ⟨inf, z, dd, hti, hd, hz, hsz, hby, hzc, _⟩ := eu hte;have hrow := hh.at_ hi;obtain ⟨hlen, h2⟩ := hrow;have hnl := hsl.1;have hmin : min n dl * sz ≤ n * sz := Nat.mul_le_mul_right _ (Nat.min_le_left _ _);have hvl : (news.take (min n dl * sz)).length = min n dl * sz := by rw [List.length_take]; omega
 have h1' : ∀ v ∈ news.take (min n dl * sz), v.oneCell' = true := fun v hv => List.all_eq_true.1 h1 v (List.mem_of_mem_take hv);have hcells : (Builtin.firstCells sz (min n dl) (.slice B n cy)).run P w = .ok (news.take (min n dl * sz)).toArray w := by
  cases B with
  | none =>
   have h0 : n = 0 := by
    rcases Nat.eq_zero_or_pos n with h0 | h0
    ·exact h0
    ·obtain ⟨ad, h1, _⟩ := hsl.2 h0; cases h1
   subst h0;simp [Builtin.firstCells]
  | some ad =>
   have hrd : ∀ j u, (news.take (min n dl * sz))[j]? = some u → w.cell? (ad.add j) = some u := by
    intro j u hj;rw [List.getElem?_take] at hj;split at hj
    ·rcases Nat.eq_zero_or_pos n with h0 | h0
     ·subst h0;have : news = [] := List.eq_nil_of_length_eq_zero (by simpa using hnl);simp [this] at hj
     ·obtain ⟨ad', he, hr'⟩ := hsl.2 h0;injection he with he
      subst he;exact hr' j u hj
    ·cases hj
   have := run_loadCells_list (P := P) w ad _ hrd;rw [hvl] at this;simpa [Builtin.firstCells] using this
 generalize news.take (min n dl * sz) = vs at hvl h1' hcells kk;rw [← hvl] at ho
 rcases h2 with ⟨h2, _⟩ | ⟨g, cap, cur, hv, hg, hheap, hmc, hcm, hcur, htake⟩
 ·injection h2 with h2; cases h2
 ·injection hv with hA hn hcap
  injection hA with hA
  injection hA with hA
  subst hA; subst hcap;have hcl : cur.size = cur.toList.length := by simp
  have hle : m * sz ≤ c * sz := Nat.mul_le_mul_right _ hmc;obtain ⟨w', hr, hb', hgr, hs⟩ := gF (P := P) (b := b) (t := e) (fz := (0, 0)) o vs 0 cur.toList w (by simpa using hheap) (.inr (Nat.le_refl _)) (by rw [← hcl]; omega) h1';refine aQ rfl rfl hN (w' := w') (v := .int .i64 ((min n dl : Nat) : Int)) ?_ (kk w' (hh.grown hi hgr (.inl rfl) ⟨by rw [ff Tx]; exact hlen, .inr ⟨b, c, (cm cur.toList o vs).toArray, rfl, hg, by simpa using hb', hmc, hcm, ?_, ?_⟩⟩))
  ·have hmm : Nat.min n dl = min n dl := rfl;simp only [execOp, resolve, invoke, hx, hy, List.map_toArray, List.map_cons, List.map_nil];simp [builtin, Builtin.copy_, run_underlying ht, Builtin.lenOf, sizeOf, typeInfo, hti, hsz, hmm, hcells, hr, goInt]
  ·simp only [List.size_toArray];rw [ff (by rw [← hcl]; omega), ← hcl, hcur]
  ·exact Qc
end
end
def bu (B : Nat) : List Nat → Nat
 | [] => 0
 | d :: l => d + B * bu B l
def bK (B : Nat) : Nat → Nat → List Nat
 | 0, _ => []
 | k + 1, n => n % B :: bK B k (n / B)
def dD : List Nat → List Nat
 | [] => []
 | d :: l => match dD l with
  | [] => if d = 0 then [] else [d]
  | e :: m => d :: e :: m
def aU (B n : Nat) : List Nat := dD (bK B (n.log2 + 1) n)
def Dg (B : Nat) (l : List Nat) : Prop := ∀ d ∈ l, d < B
section
variable {B : Nat}
theorem Dg.nil : Dg B [] := fun _ h => (nomatch h)
theorem Dg.cons {d : Nat} {l : List Nat} (h : d < B) (hl : Dg B l) : Dg B (d :: l) := fun x hx => by
 rcases List.mem_cons.1 hx with rfl | hx
 ·exact h
 ·exact hl x hx
theorem Dg.head {d : Nat} {l : List Nat} (h : Dg B (d :: l)) : d < B := h d List.mem_cons_self
theorem Dg.tail {d : Nat} {l : List Nat} (h : Dg B (d :: l)) : Dg B l := fun x hx => h x (List.mem_cons_of_mem _ hx)
theorem Dg.append {l m : List Nat} (h : Dg B l) (h' : Dg B m) : Dg B (l ++ m) := fun x hx => by
 rcases List.mem_append.1 hx with hx | hx
 ·exact h x hx
 ·exact h' x hx
theorem Dg.sub {l m : List Nat} (h : Dg B l) (h' : m.Sublist l) : Dg B m := fun x hx => h x (h'.subset hx)
theorem Dg.take {l : List Nat} (h : Dg B l) (n : Nat) : Dg B (l.take n) := h.sub (List.take_sublist n l)
theorem Dg.drop {l : List Nat} (h : Dg B l) (n : Nat) : Dg B (l.drop n) := h.sub (List.drop_sublist n l)
theorem Dg.at_ {l : List Nat} (h : Dg B l) {i d : Nat} (hi : l[i]? = some d) : d < B := h d (List.mem_of_getElem? hi)
theorem Dg.KZ {l : List Nat} (h : Dg B l) (i : Nat) {d : Nat} (hd : d < B) : Dg B (l.set i d) := fun x hx => by
 rcases List.mem_or_eq_of_mem_set hx with hx | rfl
 ·exact h x hx
 ·exact hd
theorem Dg.fO (hB : 0 < B) (n : Nat) : Dg B (List.replicate n 0) := fun x hx => by rw [List.eq_of_mem_replicate hx]; exact hB
theorem eA (l m : List Nat) : bu B (l ++ m) = bu B l + B ^ l.length * bu B m := by
 induction l with
 | nil => simp [bu]
 | cons d l ih => simp only [List.cons_append, bu, ih, List.length_cons, Nat.pow_succ]; rw [Nat.mul_add, Nat.add_assoc]; congr 2; rw [← Nat.mul_assoc, Nat.mul_comm B]
theorem iB {l : List Nat} (h : Dg B l) : bu B l < B ^ l.length := by
 induction l with
 | nil => simp [bu]
 | cons d l ih =>
  have h1 := ih h.tail;have h2 := h.head;simp only [bu, List.length_cons, Nat.pow_succ]
  calc d + B * bu B l < B + B * bu B l := by omega
   _ = B * (bu B l + 1) := by rw [Nat.mul_add, Nat.mul_one, Nat.add_comm]
   _ ≤ B * B ^ l.length := Nat.mul_le_mul_left _ h1
   _ = B ^ l.length * B := Nat.mul_comm _ _
theorem qy (n : Nat) : bu B (List.replicate n 0) = 0 := by
 induction n with
 | zero => rfl
 | succ n ih => simp [List.replicate_succ, bu, ih]
theorem aO (k n : Nat) : (bK B k n).length = k := by
 induction k generalizing n with
 | zero => rfl
 | succ k ih => simp [bK, ih]
theorem fV (hB : 0 < B) (k n : Nat) : Dg B (bK B k n) := by
 induction k generalizing n with
 | zero => exact Dg.nil
 | succ k ih => exact Dg.cons (Nat.mod_lt _ hB) (ih _)
theorem JH (k n : Nat) : bu B (bK B k n) = n % B ^ k := by
 induction k generalizing n with
 | zero => simp [bK, bu, Nat.mod_one]
 | succ k ih => rw [bK, bu, ih, Nat.pow_succ, Nat.mul_comm (B ^ k), Nat.mod_mul]
theorem dh {k n : Nat} (h : n < B ^ k) : bu B (bK B k n) = n := by rw [JH, Nat.mod_eq_of_lt h]
theorem uL {l : List Nat} (h : Dg B l) : bK B l.length (bu B l) = l := by
 induction l with
 | nil => rfl
 | cons d l ih =>
  have hd := h.head;simp only [List.length_cons, bK, bu];rw [Nat.add_mul_mod_self_left, Nat.mod_eq_of_lt hd, Nat.add_mul_div_left _ _ Tx, Nat.div_eq_of_lt hd, Nat.zero_add, ih h.tail]
theorem yu {l m : List Nat} (hl : Dg B l) (hm : Dg B m) (hlen : l.length = m.length) (h : bu B l = bu B m) : l = m := by
 rw [← uL hl, ← uL hm, hlen, h]
theorem iz (k n i : Nat) (h : i < k) : (bK B k n)[i]? = some (n / B ^ i % B) := by
 induction k generalizing n i with
 | zero => omega
 | succ k ih =>
  cases i with
  | zero => simp [bK]
  | succ i => simp only [bK, List.getElem?_cons_succ]; rw [ih _ _ Tx, Nat.div_div_eq_div_mul, Nat.pow_succ, Nat.mul_comm B]
theorem sE {l : List Nat} (h : Dg B l) {i d : Nat} (hi : l[i]? = some d) : bu B l / B ^ i % B = d := by
 have h1 := iz (B := B) l.length (bu B l) i (List.getElem?_eq_some_iff.1 hi).1;rw [uL h, hi] at h1;injection h1 with h1
 exact h1.symm
theorem tj {l : List Nat} (h : Dg B l) {i : Nat} (hi : l.length ≤ i) (hB : 0 < B) : bu B l / B ^ i = 0 :=
 Nat.div_eq_of_lt (Nat.lt_of_lt_of_le (iB h) (Nat.pow_le_pow_right hB hi))
theorem iY (l : List Nat) (i : Nat) (h : i ≤ l.length) : bu B l = bu B (l.take i) + B ^ i * bu B (l.drop i) := by
 have := eA (B := B) (l.take i) (l.drop i);rw [List.take_append_drop, List.length_take_of_le h] at this;exact this
theorem kV (l : List Nat) : bu B (dD l) = bu B l := by
 induction l with
 | nil => rfl
 | cons d l ih =>
  simp only [dD, bu];split
  ·rename_i h;rw [h] at ih;simp only [bu] at ih;split
   ·rename_i h0; rw [h0, ← ih]; simp [bu]
   ·rw [← ih]; simp [bu]
  ·rename_i e m h;rw [h] at ih;rw [← ih]; rfl
theorem jz (l : List Nat) : dD l = l.take (dD l).length := by
 induction l with
 | nil => rfl
 | cons d l ih =>
  simp only [dD];split
  ·split
   ·rfl
   ·simp
  ·rename_i e m h;rw [h] at ih;simp only [List.length_cons, List.take_succ_cons] at ih ⊢;rw [← ih]
theorem e7 (l : List Nat) : (dD l).length ≤ l.length := by
 have := congrArg List.length (jz l);rw [List.length_take] at this;omega
theorem vr (l : List Nat) : (dD l).getLast? ≠ some 0 := by
 induction l with
 | nil => simp [dD]
 | cons d l ih =>
  simp only [dD];split
  ·split
   ·simp
   ·simpa
  ·rename_i e m h;rw [h] at ih;rwa [List.getLast?_cons_cons]
theorem Dg.cut {l : List Nat} (h : Dg B l) : Dg B (dD l) := by rw [jz]; exact h.take _
theorem Gy {l : List Nat} (h : l.getLast? ≠ some 0) : dD l = l := by
 induction l with
 | nil => rfl
 | cons d l ih =>
  cases l with
  | nil => simp only [dD]; rw [if_neg]; intro h0; subst h0; simp at h
  | cons e m =>
   rw [List.getLast?_cons_cons] at h;rw [dD, ih h]
theorem te (l : List Nat) : dD (l ++ [0]) = dD l := by
 induction l with
 | nil => simp [dD]
 | cons d l ih => simp only [List.cons_append, dD, ih]
theorem wB {l : List Nat} {d : Nat} (h : d ≠ 0) : dD (l ++ [d]) = l ++ [d] := Gy (by simpa using h)
def Can (B : Nat) (l : List Nat) : Prop := Dg B l ∧ l.getLast? ≠ some 0
theorem Can.cut {l : List Nat} (h : Dg B l) : Can B (dD l) := ⟨h.cut, vr l⟩
theorem JE {l : List Nat} (h : l.getLast? ≠ some 0) (hn : l ≠ []) : B ^ (l.length - 1) ≤ bu B l := by
 have h1 := List.dropLast_concat_getLast hn;have h2 : l.getLast hn ≠ 0 := by
  intro h0;apply h;rw [List.getLast?_eq_some_getLast hn, h0]
 rw [← h1, eA];simp only [List.length_append, List.length_dropLast, List.length_cons, List.length_nil];have : l.length - 1 + (0 + 1) - 1 = l.length - 1 := Tx;rw [this];simp only [bu, Nat.mul_zero, Nat.add_zero];exact Nat.le_trans (Nat.le_mul_of_pos_right _ (Nat.pos_of_ne_zero h2)) (Nat.le_add_left _ _)
theorem Can.uH {l m : List Nat} (hl : Can B l) (hm : Can B m) (hB : 1 < B) (h : bu B l ≤ bu B m) : l.length ≤ m.length := by
 rcases Nat.lt_or_ge m.length l.length with hlt | hge
 ·exfalso;have hn : l ≠ [] := by intro h0; simp [h0] at hlt
  have h1 := JE (B := B) hl.2 hn;have h2 := iB hm.1;have h3 : B ^ m.length ≤ B ^ (l.length - 1) := Nat.pow_le_pow_right Tx Tx;exact Nat.lt_irrefl _ (Nat.lt_of_lt_of_le h2 (Nat.le_trans h3 (Nat.le_trans h1 h)))
 ·exact hge
theorem Can.inj {l m : List Nat} (hl : Can B l) (hm : Can B m) (hB : 1 < B) (h : bu B l = bu B m) : l = m :=
 yu hl.1 hm.1 (Nat.le_antisymm (hl.uH hm hB (Nat.le_of_eq h)) (hm.uH hl hB (Nat.le_of_eq h.symm))) h
theorem dI (hB : 0 < B) (n : Nat) : Can B (aU B n) := Can.cut (fV hB _ _)
theorem Ab (hB : 1 < B) (n : Nat) : n < B ^ (n.log2 + 1) := by
 have h1 : n < 2 ^ (n.log2 + 1) := Nat.lt_log2_self;exact Nat.lt_of_lt_of_le h1 (Nat.pow_le_pow_left hB _)
theorem dF (hB : 1 < B) (n : Nat) : bu B (aU B n) = n := by
 rw [aU, kV, dh (Ab hB n)]
theorem AG (hB : 1 < B) {l : List Nat} (h : Can B l) : aU B (bu B l) = l :=
 (dI Tx _).inj h hB (dF hB _)
theorem ie (hB : 1 < B) {l : List Nat} (h : Dg B l) : dD l = aU B (bu B l) := by
 rw [← kV, AG hB (Can.cut h)]
theorem fW (hB : 1 < B) : aU B 0 = [] := (dI Tx 0).inj ⟨Dg.nil, by simp⟩ hB (by rw [dF hB]; rfl)
theorem ti (hB : 1 < B) {n : Nat} : aU B n = [] ↔ n = 0 := by
 constructor
 ·intro h; have := dF hB n; rw [h] at this; exact this.symm
 ·intro h; rw [h, fW hB]
theorem g9 (hB : 1 < B) {n k : Nat} (h : n < B ^ k) : (aU B n).length ≤ k := by
 have h1 : dD (bK B k n) = aU B n := by rw [ie hB (fV Tx _ _), dh h]
 have := e7 (bK B k n);rw [h1, aO] at this;exact this
theorem o8 (hB : 1 < B) (n : Nat) : n < B ^ (aU B n).length := by
 have := iB (dI (B := B) Tx n).1;rwa [dF hB] at this
theorem nK (hB : 1 < B) {a b : Nat} (h : a ≤ b) : (aU B a).length ≤ (aU B b).length :=
 (dI Tx a).uH (dI Tx b) hB (by rw [dF hB, dF hB]; exact h)
theorem AR (hB : 1 < B) {n i : Nat} (h : i < (aU B n).length) : (aU B n)[i]? = some (n / B ^ i % B) := by
 have h1 := List.getElem?_eq_getElem h;rw [h1];have h2 := sE (dI (B := B) Tx n).1 h1;rw [dF hB] at h2;rw [h2]
theorem GO (hB : 1 < B) {n : Nat} (h : n ≠ 0) : aU B n = n % B :: aU B (n / B) := by
 refine (dI Tx n).inj ⟨Dg.cons (Nat.mod_lt _ Tx) (dI Tx _).1, ?_⟩ hB ?_
 ·cases hd : aU B (n / B) with
  | nil =>
   rw [ti hB] at hd;have : n = n % B := by have := Nat.div_add_mod n B; rw [hd] at this; simpa using this.symm
   simp only [List.getLast?_singleton];intro h0; injection h0 with h0; omega
  | cons e m =>
   rw [List.getLast?_cons_cons, ← hd];exact (dI Tx _).2
 ·rw [dF hB, bu, dF hB]; have := Nat.div_add_mod n B; omega
theorem Iq (hB : 1 < B) {n k : Nat} (h : n < B ^ k) : bK B k n = aU B n ++ List.replicate (k - (aU B n).length) 0 := by
 have hl := g9 hB h;refine yu (B := B) (fV Tx _ _) ((dI Tx _).1.append (Dg.fO Tx _)) ?_ ?_
 ·rw [aO, List.length_append, List.length_replicate]; omega
 ·rw [dh h, eA, dF hB, qy]; simp
end
section
variable {B : Nat}
def yN : List Nat → Nat
 | [] => 0
 | d :: _ => d
theorem IQ (ys : List Nat) : bu B ys = yN ys + B * bu B ys.tail := by cases ys <;> simp [bu, yN]
theorem OK {ys : List Nat} (h : Dg B ys) (hB : 0 < B) : yN ys < B := by
 cases ys with
 | nil => exact hB
 | cons d l => exact h.head
theorem Dg.tl {ys : List Nat} (h : Dg B ys) : Dg B ys.tail := by
 cases ys with
 | nil => exact h
 | cons d l => exact h.tail
theorem s9 (ys : List Nat) (i : Nat) : yN (ys.drop i) = (ys[i]?).getD 0 := by
 induction ys generalizing i with
 | nil => simp [yN]
 | cons d l ih => cases i with
  | zero => rfl
  | succ i => simpa using ih i
theorem tail_drop (ys : List Nat) (i : Nat) : (ys.drop i).tail = ys.drop (i + 1) := by
 induction ys generalizing i with
 | nil => simp
 | cons d l ih => cases i with
  | zero => rfl
  | succ i => simp
theorem zv {B a b n : Nat} (hB : 0 < B) (h : a + B * b < B * n) : b + a / B < n := by
 have h1 : (a + B * b) / B < n := by rw [Nat.div_lt_iff_lt_mul hB, Nat.mul_comm n]; exact h
 rw [Nat.add_mul_div_left _ _ hB] at h1;omega
def g7 (B : Nat) : List Nat → List Nat → Nat → Nat → List Nat
 | [], _, _, _ => []
 | x :: xs, ys, m, c => (x + yN ys * m + c) % B :: g7 B xs ys.tail m ((x + yN ys * m + c) / B)
theorem o9 (xs ys : List Nat) (m c : Nat) : (g7 B xs ys m c).length = xs.length := by
 induction xs generalizing ys c with
 | nil => rfl
 | cons x xs ih => simp [g7, ih]
theorem zX (hB : 0 < B) (xs ys : List Nat) (m c : Nat) : Dg B (g7 B xs ys m c) := by
 exact Q6
theorem wX (hB : 0 < B) (xs ys : List Nat) (m c : Nat) (h : bu B xs + bu B ys * m + c < B ^ xs.length) : bu B (g7 B xs ys m c) = bu B xs + bu B ys * m + c := by
 induction xs generalizing ys c with
 | nil => simp only [List.length_nil, Nat.pow_zero, bu] at h; simp only [g7, bu]; omega
 | cons x xs ih =>
  have e : bu B (x :: xs) + bu B ys * m + c = (x + yN ys * m + c) + B * (bu B xs + bu B ys.tail * m) := by
   rw [bu, IQ ys, Nat.add_mul, Nat.mul_add, Nat.mul_assoc]; omega
  rw [List.length_cons, Nat.pow_succ, Nat.mul_comm _ B, e] at h;have h1 := zv hB h;simp only [g7, bu];rw [ih _ _ h1, ← bu, e, Nat.mul_add];have := Nat.mod_add_div (x + yN ys * m + c) B;omega
def rT (B : Nat) : List Nat → List Nat → Nat → List Nat
 | [], _, _ => []
 | x :: xs, ys, b => (x + B - yN ys - b) % B :: rT B xs ys.tail (if x < yN ys + b then 1 else 0)
def zG (B : Nat) : List Nat → List Nat → Nat → Nat
 | [], _, b => b
 | x :: xs, ys, b => zG B xs ys.tail (if x < yN ys + b then 1 else 0)
theorem La (hB : 0 < B) (xs ys : List Nat) (c : Nat) : Dg B (rT B xs ys c) := by
 exact Q6
theorem IL (hB : 0 < B) (xs ys : List Nat) (b : Nat) (hx : Dg B xs) (hy : Dg B ys) (hb : b ≤ 1) (h : bu B ys + b ≤ bu B xs) : bu B (rT B xs ys b) + bu B ys + b = bu B xs ∧ zG B xs ys b = 0 := by
 induction xs generalizing ys b with
 | nil => simp only [bu] at h; simp only [rT, zG, bu]; omega
 | cons x xs ih =>
  have hx0 := hx.head;have hy0 := OK hy hB;have e := IQ (B := B) ys;simp only [bu, rT, zG] at h ⊢;by_cases hlt : x < yN ys + b
  ·rw [if_pos hlt];have h1 : bu B ys.tail + 1 ≤ bu B xs := by
    refine Nat.lt_of_not_le fun hle => ?_;have := Nat.mul_le_mul_left B hle;omega
   obtain ⟨i1, i2⟩ := ih ys.tail 1 hx.tail hy.tl Tx h1;refine ⟨?_, i2⟩;have h2 := congrArg (B * ·) i1;simp only [Nat.mul_add] at h2;rw [Nat.mod_eq_of_lt Tx];omega
  ·rw [if_neg hlt];have h1 : bu B ys.tail + 0 ≤ bu B xs := by
    refine Nat.le_of_not_lt fun hle => ?_;have := Nat.mul_le_mul_left B (Nat.succ_le_of_lt hle);simp only [Nat.mul_succ, Nat.add_zero] at this;omega
   obtain ⟨i1, i2⟩ := ih ys.tail 0 hx.tail hy.tl Tx h1;refine ⟨?_, i2⟩;have h2 := congrArg (B * ·) i1;simp only [Nat.mul_add, Nat.add_zero] at h2;have h3 : x + B - yN ys - b = (x - yN ys - b) + B := Tx;rw [h3, Nat.add_mod_right, Nat.mod_eq_of_lt Tx];omega
theorem K2 (xs : List Nat) (i d : Nat) {o : Nat} (hi : xs[i]? = some o) : bu B (xs.set i d) + B ^ i * o = bu B xs + B ^ i * d := by
 induction xs generalizing i with
 | nil => simp at hi
 | cons x xs ih =>
  cases i with
  | zero => simp only [List.getElem?_cons_zero, Option.some.injEq] at hi; subst hi; simp only [List.set_cons_zero, bu, Nat.pow_zero, Nat.one_mul]; omega
  | succ i =>
   have := congrArg (B * ·) (ih i hi);simp only [Nat.mul_add, ← Nat.mul_assoc] at this;simp only [List.set_cons_succ, bu, Nat.pow_succ, Nat.mul_comm _ B];omega
theorem BW {l m : List Nat} {x y : Nat} (hl : Dg B l) (hlen : l.length = m.length) (h : x < y) : bu B (l ++ [x]) < bu B (m ++ [y]) := by
 rw [eA, eA, hlen];have h1 := iB hl;rw [hlen] at h1;have h2 : B ^ m.length * (x + 1) ≤ B ^ m.length * y := Nat.mul_le_mul_left _ h;simp only [bu, Nat.mul_zero, Nat.add_zero, Nat.mul_succ] at h2 ⊢;omega
def kH (a b : Nat) : Int := if a < b then -1 else if b < a then 1 else 0
theorem lN {a b : Nat} (h : a < b) : kH a b = -1 := by simp [kH, h]
theorem xU {a b : Nat} (h : b < a) : kH a b = 1 := by simp only [kH]; rw [if_neg Tx, if_pos h]
theorem E5 {a b : Nat} (h : a = b) : kH a b = 0 := by simp only [kH]; rw [if_neg Tx, if_neg Tx]
theorem vA {xs ys : List Nat} {k x y : Nat} (hx : Dg B xs) (hxk : xs[k]? = some x) (hyk : ys[k]? = some y) (hd : xs.drop (k + 1) = ys.drop (k + 1)) (hlt : x < y) : bu B xs < bu B ys := by
 have lx := (List.getElem?_eq_some_iff.1 hxk).1;have ly := (List.getElem?_eq_some_iff.1 hyk).1;rw [iY xs (k + 1) lx, iY ys (k + 1) ly, hd];have e1 : xs.take (k + 1) = xs.take k ++ [x] := by rw [List.take_add_one, hxk]; rfl
 have e2 : ys.take (k + 1) = ys.take k ++ [y] := by rw [List.take_add_one, hyk]; rfl
 have := BW (B := B) (m := ys.take k) (hx.take k) (by rw [List.length_take, List.length_take]; omega) hlt;rw [e1, e2];omega
theorem xE {xs ys : List Nat} {k x y : Nat} (hxk : xs[k]? = some x) (hyk : ys[k]? = some y) (hd : xs.drop (k + 1) = ys.drop (k + 1)) (h : x = y) : xs.drop k = ys.drop k := by
 obtain ⟨lx, ex⟩ := List.getElem?_eq_some_iff.1 hxk;obtain ⟨ly, ey⟩ := List.getElem?_eq_some_iff.1 hyk;rw [List.drop_eq_getElem_cons lx, List.drop_eq_getElem_cons ly, hd, ex, ey, h]
end
section
variable {B : Nat}
theorem oP {k n j v : Nat} (hB : 0 < B) (hj : j < k) (hn : n + B ^ j * v < B ^ k) (hv : n / B ^ j % B + v < B) : (bK B k n).set j (n / B ^ j % B + v) = bK B k (n + B ^ j * v) := by
 refine yu (B := B) ((fV hB _ _).KZ _ hv) (fV hB _ _) (by rw [List.length_set, aO, aO]) ?_;have h1 := K2 (B := B) (bK B k n) j (n / B ^ j % B + v) (iz k n j hj);rw [dh Tx] at h1;rw [dh hn];rw [Nat.mul_add] at h1;omega
theorem qu (k : Nat) : bK B k 0 = List.replicate k 0 := by
 induction k with
 | zero => rfl
 | succ k ih => simp [bK, ih, List.replicate_succ]
def Bj (s : List UInt8) : List Nat := (s.map UInt8.toNat).reverse
def bn (s : List UInt8) : Nat := bu 256 (Bj s)
def sb (n : Nat) : List UInt8 := ((aU 256 n).map UInt8.ofNat).reverse
theorem oH (s : List UInt8) : (Bj s).length = s.length := by simp [Bj]
theorem xg (s : List UInt8) : Dg 256 (Bj s) := fun d hd => by
 obtain ⟨c, _, rfl⟩ := List.mem_map.1 (List.mem_reverse.1 hd);exact c.toNat_lt
theorem NN (s : List UInt8) : bn s < 256 ^ s.length := by have := iB (xg s); rwa [oH] at this
theorem Hv {s : List UInt8} {i : Nat} {c : UInt8} (hi : i < s.length) (h : s[s.length - 1 - i]? = some c) : (Bj s)[i]? = some c.toNat := by
 unfold Bj;rw [List.getElem?_reverse (by simpa using hi), List.length_map, List.getElem?_map, h]; rfl
theorem Jn (n : Nat) : Bj (sb n) = aU 256 n := by
 unfold Bj sb;rw [List.map_reverse, List.reverse_reverse, List.map_map];have : ∀ l : List Nat, Dg 256 l → l.map (UInt8.toNat ∘ UInt8.ofNat) = l := by
  intro l
  induction l with
  | nil => intro _; rfl
  | cons d l ih =>
   intro h;have hd := h.head;simp only [List.map_cons, ih h.tail, Function.comp];congr 1;simp only [UInt8.toNat_ofNat'];omega
 exact this _ (dI Tx n).1
theorem QT (n : Nat) : bn (sb n) = n := by rw [bn, Jn, dF Tx]
theorem GA (n : Nat) : (sb n).length = (aU 256 n).length := by simp [sb]
theorem KQ {s t : List UInt8} (h : Bj s = Bj t) : s = t := by
 have h1 := List.reverse_inj.1 h;exact (List.map_inj_right fun a b h => UInt8.toNat_inj.1 h).1 h1
theorem QF {s : List UInt8} {n : Nat} (h : Bj s = aU 256 n) : s = sb n := KQ (by rw [h, Jn])
theorem Mm : sb 0 = [] := by rw [sb, fW Tx]; rfl
theorem Jg (s : List UInt8) : bn (0 :: s) = bn s := by
 unfold bn Bj;rw [List.map_cons, List.reverse_cons, eA]; simp [bu]
theorem Rl {s : List UInt8} (h : s.head? ≠ some 0) : sb (bn s) = s := by
 refine (QF ?_).symm;rw [bn, AG Tx ⟨xg s, ?_⟩];unfold Bj;rw [List.getLast?_reverse, List.head?_map]
 cases s with
 | nil => simp
 | cons c s =>
  simp only [List.head?_cons, Option.map_some];intro h0;injection h0 with h0
  apply h;simp only [List.head?_cons];congr 1;exact UInt8.toNat_inj.1 (by simpa using h0)
end
def bC (n : Nat) : Nat := (aU 2 n).length
theorem kZ : bC 0 = 0 := by rw [bC, fW Tx]; rfl
theorem dk (n : Nat) : n < 2 ^ bC n := o8 Tx n
theorem dv {n k : Nat} (h : n < 2 ^ k) : bC n ≤ k := g9 Tx h
theorem DH {n : Nat} (h : n ≠ 0) : 2 ^ (bC n - 1) ≤ n := by
 have h1 := JE (B := 2) (dI (B := 2) Tx n).2 (fun h0 => h ((ti Tx).1 h0));rwa [dF Tx] at h1
theorem pN {n : Nat} (h : n ≠ 0) : 0 < bC n := by
 rw [bC];have : aU 2 n ≠ [] := fun h0 => h ((ti Tx).1 h0);exact List.length_pos_iff.2 this
theorem Fh {n k : Nat} (h1 : n < 2 ^ k) (h2 : 2 ^ (k - 1) ≤ n) : bC n = k := by
 have h3 := dv h1
 rcases Nat.lt_or_ge (bC n) k with h | h
 ·have h4 := dk n;have h5 : 2 ^ bC n ≤ 2 ^ (k - 1) := Nat.pow_le_pow_right Tx Tx;omega
 ·omega
theorem Iy {B b m : Nat} (hB : B = 2 ^ b) {l : List Nat} {d : Nat} (hl : Dg B l) (hlen : l.length = m) (hd : d ≠ 0) : bC (bu B (l ++ [d])) = b * m + bC d := by
 have hlt := iB hl;rw [hlen] at hlt;have hp : B ^ m = 2 ^ (b * m) := by rw [hB, ← Nat.pow_mul]
 rw [eA, hlen];simp only [bu, Nat.mul_zero, Nat.add_zero];rw [hp] at hlt ⊢;apply Fh
 ·have h1 := dk d;have h2 : 2 ^ (b * m) * (d + 1) ≤ 2 ^ (b * m) * 2 ^ bC d := Nat.mul_le_mul_left _ h1;rw [Nat.pow_add];rw [Nat.mul_succ] at h2;omega
 ·have h1 := DH hd;have h2 := pN hd;have e : b * m + bC d - 1 = b * m + (bC d - 1) := Tx;rw [e, Nat.pow_add];have h3 : 2 ^ (b * m) * 2 ^ (bC d - 1) ≤ 2 ^ (b * m) * d := Nat.mul_le_mul_left _ h1;omega
theorem Cj {a c s : Nat} (h : a < 2 ^ s) : a ||| (c * 2 ^ s) = a + c * 2 ^ s := by
 have h1 := Nat.shiftLeft_add_eq_or_of_lt h c;rw [Nat.shiftLeft_eq] at h1;rw [Nat.or_comm, ← h1, Nat.add_comm]
theorem LQ {k i c : Nat} (n : Nat) (hn : n < 256 ^ i) (hc : c < 256) (hi : i / 8 < k) :
  n / 18446744073709551616 ^ (i / 8) % 18446744073709551616 < 2 ^ (i % 8 * 8) ∧ c * 2 ^ (i % 8 * 8) < 18446744073709551616 ∧
  (bK 18446744073709551616 k n).set (i / 8) (n / 18446744073709551616 ^ (i / 8) % 18446744073709551616 + c * 2 ^ (i % 8 * 8)) = bK 18446744073709551616 k (n + 256 ^ i * c) := by
 have hW : (18446744073709551616 : Nat) = 2 ^ 64 := by decide
 have h256 : (256 : Nat) = 2 ^ 8 := by decide
 have hp : 256 ^ i = 18446744073709551616 ^ (i / 8) * 2 ^ (i % 8 * 8) := by
  rw [hW, h256, ← Nat.pow_mul, ← Nat.pow_mul, ← Nat.pow_add]; congr 1; omega
 have h1 : n / 18446744073709551616 ^ (i / 8) < 2 ^ (i % 8 * 8) := by
  rw [Nat.div_lt_iff_lt_mul (Nat.pow_pos Ty), Nat.mul_comm, ← hp]; exact hn
 have hs : 2 ^ (i % 8 * 8) * 256 ≤ 18446744073709551616 := by
  rw [h256, hW, ← Nat.pow_add]; exact Nat.pow_le_pow_right Tx Tx
 have h2 : n / 18446744073709551616 ^ (i / 8) % 18446744073709551616 < 2 ^ (i % 8 * 8) := Nat.lt_of_le_of_lt (Nat.mod_le _ _) h1;have h3 : (c + 1) * 2 ^ (i % 8 * 8) ≤ 256 * 2 ^ (i % 8 * 8) := Nat.mul_le_mul_right _ hc;rw [Nat.succ_mul] at h3;have hpos : 0 < 2 ^ (i % 8 * 8) := Nat.pow_pos Tx;refine ⟨h2, Tx, ?_⟩;have h4 : 256 ^ i * c = 18446744073709551616 ^ (i / 8) * (c * 2 ^ (i % 8 * 8)) := by rw [hp, Nat.mul_assoc, Nat.mul_comm c]
 rw [h4];refine oP Ty hi ?_ Tx;rw [← h4];have h5 : 256 ^ i * (c + 1) ≤ 256 ^ i * 256 := Nat.mul_le_mul_left _ hc;have h6 : 256 ^ i * 256 ≤ 18446744073709551616 ^ k := by
  have : 256 ^ i * 256 = 2 ^ (8 * (i + 1)) := by rw [h256, ← Nat.pow_mul, ← Nat.pow_add]; congr 1
  rw [this, hW, ← Nat.pow_mul];exact Nat.pow_le_pow_right Tx Tx
 rw [Nat.mul_succ] at h5;omega
theorem GM (n i : Nat) : n / 18446744073709551616 ^ (i / 8) % 18446744073709551616 / 2 ^ (i % 8 * 8) % 256 = n / 256 ^ i % 256 := by
 have hW : (18446744073709551616 : Nat) = 2 ^ 64 := by decide
 have h256 : (256 : Nat) = 2 ^ 8 := by decide
 have hp : 256 ^ i = 18446744073709551616 ^ (i / 8) * 2 ^ (i % 8 * 8) := by
  rw [hW, h256, ← Nat.pow_mul, ← Nat.pow_mul, ← Nat.pow_add]; congr 1; omega
 rw [hp, ← Nat.div_div_eq_div_mul];generalize n / 18446744073709551616 ^ (i / 8) = m;have e : (18446744073709551616 : Nat) = 2 ^ (i % 8 * 8) * 2 ^ (64 - i % 8 * 8) := by rw [← Nat.pow_add, hW]; congr 1; omega
 rw [e, Nat.mod_mul_right_div_self];have e2 : 2 ^ (64 - i % 8 * 8) = 256 * 2 ^ (56 - i % 8 * 8) := by rw [h256, ← Nat.pow_add]; congr 1; omega
 rw [e2, Nat.mod_mul_right_mod]
theorem wA (n j s : Nat) (hs : s < 64) (h0 : 0 < s) :
  (n / 18446744073709551616 ^ j % 18446744073709551616 / 2 ^ s) < 2 ^ (64 - s) ∧
  n / 18446744073709551616 ^ j % 18446744073709551616 / 2 ^ s + n / 18446744073709551616 ^ (j + 1) % 2 ^ s * 2 ^ (64 - s) = n / 2 ^ (64 * j + s) % 18446744073709551616 := by
 have hW : (18446744073709551616 : Nat) = 2 ^ 64 := by decide
 have e : (18446744073709551616 : Nat) = 2 ^ s * 2 ^ (64 - s) := by rw [← Nat.pow_add, hW]; congr 1; omega
 have hp : (18446744073709551616 : Nat) ^ (j + 1) = 18446744073709551616 ^ j * 18446744073709551616 := Nat.pow_succ ..;rw [hp, ← Nat.div_div_eq_div_mul, Nat.pow_add, Nat.pow_mul, ← hW, ← Nat.div_div_eq_div_mul];generalize n / 18446744073709551616 ^ j = m;have e1 : m % 18446744073709551616 / 2 ^ s = m / 2 ^ s % 2 ^ (64 - s) := by rw [e, Nat.mod_mul_right_div_self]
 rw [e1];refine ⟨Nat.mod_lt _ (Nat.pow_pos Tx), ?_⟩;have e2 : m / 18446744073709551616 = m / 2 ^ s / 2 ^ (64 - s) := by rw [e, ← Nat.div_div_eq_div_mul]
 rw [e2];generalize m / 2 ^ s = q;have e3 : (18446744073709551616 : Nat) = 2 ^ (64 - s) * 2 ^ s := by rw [Nat.mul_comm]; exact e
 rw [e3, Nat.mod_mul, Nat.mul_comm (2 ^ (64 - s))]
theorem On {d s : Nat} (hd : d < 18446744073709551616) (hs : s ≤ 64) : d * 2 ^ s % 18446744073709551616 + d / 2 ^ (64 - s) * 18446744073709551616 = d * 2 ^ s ∧ d / 2 ^ (64 - s) < 2 ^ s := by
 have hW : (18446744073709551616 : Nat) = 2 ^ 64 := by decide
 have e : (18446744073709551616 : Nat) = 2 ^ (64 - s) * 2 ^ s := by rw [← Nat.pow_add, hW]; congr 1; omega
 have h1 : d * 2 ^ s / 18446744073709551616 = d / 2 ^ (64 - s) := by rw [e, Nat.mul_div_mul_right _ _ (Nat.pow_pos Tx)]
 rw [← h1];constructor
 ·have := Nat.mod_add_div (d * 2 ^ s) 18446744073709551616;omega
 ·rw [h1, Nat.div_lt_iff_lt_mul (Nat.pow_pos Tx), Nat.mul_comm, ← e]; exact hd
def str (l : List UInt8) : ByteArray := ⟨l.toArray⟩
theorem dt (l : List UInt8) : (str l).data.toList = l := by simp [str]
theorem tX {a b : ByteArray} (h : a.data.toList = b.data.toList) : a = b := by
 cases a; cases b; congr 1; exact Array.ext' h
theorem Pf (s : ByteArray) : str s.data.toList = s := tX (dt _)
theorem kM (l : List UInt8) : (str l).size = l.length := by simp [str, ByteArray.size]
theorem dA (s : ByteArray) : s.size = s.data.toList.length := (Array.length_toList).symm
def bF (l : List Int) : List Value := l.map (Value.int .i64)
theorem bU (l : List Int) : (bF l).length = l.length := by simp [bF]
theorem cj {l : List Int} {k : Nat} {x : Int} (h : l[k]? = some x) : (bF l)[k]? = some (.int .i64 x) := by simp [bF, h]
theorem De (a b : List UInt8) : nC (a ++ b) = nC a ++ nC b := by simp [nC]
theorem bX (l : List Int) : ((bF l).all Value.oneCell') = true := by simp [bF, Value.oneCell']
def lj (l : List ByteArray) : List Value := l.map Value.string
theorem rr (l : List ByteArray) : (lj l).length = l.length := by simp [lj]
theorem E2 {l : List ByteArray} {k : Nat} {x : ByteArray} (h : l[k]? = some x) : (lj l)[k]? = some (.string x) := by simp [lj, h]
theorem ay {α : Type} {l : List α} {k : Nat} {x : α} (h : l[k]? = some x) : l.take (k + 1) = l.take k ++ [x] := by rw [List.take_add_one, h]; rfl
theorem ao {α : Type} {l : List α} {k : Nat} (h : k < l.length) : ∃ x, l[k]? = some x := ⟨_, List.getElem?_eq_getElem h⟩
def eE (l : List UInt8) : Bool := l.all fun c => decide (c.toNat < 128)
theorem FP (l : List UInt8) (c : UInt8) : eE (l ++ [c]) = (eE l && decide (c.toNat < 128)) := by simp [eE]
theorem Ie {l : List UInt8} {k : Nat} {c : UInt8} (h : l[k]? = some c) (hc : ¬ c.toNat < 128) : eE l = false := by
 rw [← List.take_append_drop (k + 1) l, ay h];simp only [eE, List.all_append];simp; omega
theorem sa {l : List UInt8} (h : eE l = true) {k : Nat} {c : UInt8} (hc : l[k]? = some c) : c.toNat < 128 := by
 have := List.all_eq_true.1 h c (List.mem_of_getElem? hc);simpa using this
def cw (x : Int) : Bool := decide (0 ≤ x) && decide (x ≤ 127)
def xM (x : Int) : UInt8 := UInt8.ofNat x.toNat
def HW (xs : List Int) : List UInt8 := if xs.all cw then xs.map xM else []
def Kx (xs : List Int) : Int := if xs.all cw then 0 else 3
theorem Om {xs : List Int} {k : Nat} {x : Int} (hx : xs[k]? = some x) (h : cw x = false) : HW xs = [] ∧ Kx xs = 3 := by
 have : xs.all cw = false := by
  cases hc : xs.all cw with
  | false => rfl
  | true => rw [List.all_eq_true.1 hc x (List.mem_of_getElem? hx)] at h; cases h
 simp [HW, Kx, this]
theorem pz {xs : List Int} (h : xs.all cw = true) : HW xs = xs.map xM ∧ Kx xs = 0 := by simp [HW, Kx, h]
theorem Io {α : Type} {p : α → Bool} {l : List α} {k : Nat} {x : α} (h : l[k]? = some x) (h1 : (l.take k).all p = true) (h2 : p x = true) : (l.take (k + 1)).all p = true := by
 rw [ay h, List.all_append, h1]; simp [h2]
theorem KC {x : Int} (h : 0 ≤ x) (h2 : x ≤ 255) : IntKind.u8.wrap x = x := by
 have : IntKind.u8.wrap x = x % 256 := rfl;rw [this]; omega
theorem rW {x : Int} (h : cw x = true) : Value.int .u8 x = .int .u8 (xM x).toNat := by
 simp only [cw, Bool.and_eq_true, decide_eq_true_eq] at h;congr 1;simp only [xM, UInt8.toNat_ofNat'];omega
theorem HU {xs : List Int} {k : Nat} {x : Int} (hx : xs[k]? = some x) (h : cw x = true) : nC ((xs.take k).map xM) ++ [.int .u8 x] = nC ((xs.take (k + 1)).map xM) := by
 rw [ay hx, List.map_append, De, rW h]; rfl
def ints (l : List UInt8) : List Int := l.map fun c => (c.toNat : Int)
def iq (l : List UInt8) : List Int := if eE l then ints l else []
def Tg (l : List UInt8) : Int := (iq l).sum
theorem cU (l : List UInt8) : (ints l).length = l.length := by simp [ints]
theorem uU {l : List UInt8} {k : Nat} {c : UInt8} (h : l[k]? = some c) : bF (ints (l.take k)) ++ [.int .i64 c.toNat] = bF (ints (l.take (k + 1))) := by
 rw [ay h]; simp [bF, ints]
def lenOf : Value → Nat | .slice _ n _ => n | _ => 0
theorem jC {l : List UInt8} (h : eE l = true) : iq l = ints l := by simp [iq, h]
theorem J5 {l : List UInt8} (h : eE l = false) : iq l = [] := by simp [iq, h]
theorem Lf {l : List UInt8} {k : Nat} {c : UInt8} (h : l[k]? = some c) : (ints l)[k]? = some (c.toNat : Int) := by simp [ints, h]
theorem EP {l : List UInt8} {k : Nat} {x : Int} (h : (iq l)[k]? = some x) : 0 ≤ x ∧ x ≤ 127 := by
 unfold iq at h;split at h
 ·rename_i hm;simp only [ints, List.getElem?_map, Option.map_eq_some_iff] at h;obtain ⟨c, hc, rfl⟩ := h;have := sa hm hc;omega
 ·simp at h
def jd (f : Int → Int → Int) (a b : List UInt8) : Option (List Int) :=
 if eE a && (eE b && decide ((b.length : Int) = a.length)) then some (List.zipWith f (ints a) (ints b)) else none
def mulL (a b : List UInt8) : List UInt8 × Int :=
 match jd (· + ·) a b with | some l => (HW l, Kx l) | none => ([], 1)
def SO (a b : List UInt8) : List UInt8 × Bool :=
 match jd (· - ·) a b with | some l => (HW l, decide (Kx l = 0)) | none => ([], false)
theorem IK {f : Int → Int → Int} {a b : List Int} {k : Nat} {x y : Int} (hx : a[k]? = some x) (hy : b[k]? = some y) : (List.zipWith f a b)[k]? = some (f x y) := by
 simp [List.getElem?_zipWith, hx, hy]
def mV (f : Int → Int → Int) (a b : List Int) (k : Nat) : List Int := (List.zipWith f a b).take k ++ b.drop k
theorem IG (f : Int → Int → Int) (a b : List Int) : mV f a b 0 = b := by simp [mV]
theorem L7 {f : Int → Int → Int} {a b : List Int} (h : a.length = b.length) {k : Nat} (hk : k ≤ b.length) : (mV f a b k).length = b.length := by
 simp [mV, h]; omega
theorem OJ {f : Int → Int → Int} {a b : List Int} (h : a.length = b.length) {k : Nat} {y : Int} (hy : b[k]? = some y) : (mV f a b k)[k]? = some y := by
 have hk : k < b.length := (List.getElem?_eq_some_iff.1 hy).1;unfold mV;rw [List.getElem?_append_right (by simp [h]; omega)];simp [h, Nat.min_eq_left (Nat.le_of_lt hk), hy]
theorem KX {f : Int → Int → Int} {a b : List Int} (h : a.length = b.length) {k : Nat} {x y : Int} (hx : a[k]? = some x) (hy : b[k]? = some y) :
  cm (bF (mV f a b k)) k [.int .i64 (f x y)] = bF (mV f a b (k + 1)) := by
 have hk : k < b.length := (List.getElem?_eq_some_iff.1 hy).1;have hl : ((List.zipWith f a b).take k).length = k := by simp [h]; omega
 have e1 : (mV f a b k).take k = (List.zipWith f a b).take k := by
  unfold mV; rw [List.take_append_of_le_length Tx, List.take_of_length_le Tx]
 have e2 : (mV f a b k).drop (k + 1) = b.drop (k + 1) := by
  unfold mV;rw [List.drop_append, hl, List.drop_of_length_le Tx, show k + 1 - k = 1 by omega, List.drop_drop];simp
 simp only [cm, bF, ← List.map_take, ← List.map_drop, List.length_cons, List.length_nil, Nat.zero_add, e1, e2];unfold mV;rw [ay (IK hx hy)];simp
theorem ID {f : Int → Int → Int} {a b : List Int} (h : a.length = b.length) : mV f a b b.length = List.zipWith f a b := by
 unfold mV;rw [List.take_of_length_le (by simp [h]), List.drop_length, List.append_nil]
theorem ru {l : List Int} {k : Nat} (y : Int) (h : k < l.length) : cm (bF l) (k * 1) [.int .i64 y] = bF (l.set k y) := by
 rw [Nat.mul_one, cM (by rw [bU]; exact h)];unfold bF;rw [List.map_set]
section
variable {P : Program} {N : Nat} {ops : Array Oper} {Q : Kq} {ρ : Rf} {w : World} {rest : List Oper} {d : Nat} {ty : TypeId} {pos : String} {af : Array Edge}
theorem kr {f : FuncId} {args : Array Operand} {ts : Array TypeId} {vs : List Value} {v : Value} (hc : (callFunc f vs.toArray).run P w = .ok (.value v) w) (ha : wN ρ args.toList = vs) (hN : d < N) (kk : WL .plain P N ops Q rest (cG ρ d v) w) :
  WL .plain P N ops Q (⟨some d, .call ⟨.value (.func f), args, ts⟩, ty, pos, af, none⟩ :: rest) ρ w := by
 have hr : (execOp (ev ρ) ⟨some d, .call ⟨.value (.func f), args, ts⟩, ty, pos, af, none⟩).run P w = .ok (.value v) w := by
  have hx : ev ρ (.func f) = .func (.func f) #[] #[] := rfl;simp only [execOp, resolve, Deferred.ofValue, hx, invoke, mZ args ha];simpa using hc
 exact aQ rfl rfl hN hr kk
end
theorem jD (x y c : Nat) (hc : c ≤ 1) (w : World) :
  (callFunc 261 #[.int .u64 x, .int .u64 y, .int .u64 c]).run Tryz.prog w =
   .ok (.value (.tuple #[.int .u64 (((x + y + c) % 18446744073709551616 : Nat) : Int), .int .u64 (((x + y + c) / 18446744073709551616 : Nat) : Int)])) w := by
 rw [run_callFunc_extern Tryz.func261 Tz Tz Tz (e := add64Entry) Tz, run_add64 x y c Tx Tx Tx Tx];simp only [Result.andThen];congr 5 <;> omega
def Hq : Array Value → Sem Value := fun args => do
 let (x, y, b) ← Extern.MathBitsCarry.three "Sub64" args
 pure (Extern.MathBitsCarry.pair ((x + Extern.MathBitsCarry.m64 - y - b) % Extern.MathBitsCarry.m64) (if x < y + b then 1 else 0))
theorem CF {P : Program} (x y b : Nat) (hb : b ≤ 1) (w : World) :
  (Hq #[.int .u64 x, .int .u64 y, .int .u64 b]).run P w =
   .ok (.tuple #[.int .u64 (((x + 18446744073709551616 - y - b) % 18446744073709551616 : Nat) : Int), .int .u64 ((if x < y + b then 1 else 0 : Nat) : Int)]) w := by
 have : b = 0 ∨ b = 1 := Tx
 rcases this with rfl | rfl <;> rfl
theorem wO (x y b : Nat) (hb : b ≤ 1) (w : World) :
  (callFunc 262 #[.int .u64 x, .int .u64 y, .int .u64 b]).run Tryz.prog w =
   .ok (.value (.tuple #[.int .u64 (((x + 18446744073709551616 - y - b) % 18446744073709551616 : Nat) : Int), .int .u64 ((if x < y + b then 1 else 0 : Nat) : Int)])) w := by
 rw [run_callFunc_extern Tryz.func262 Tz Tz Tz (e := Hq) Tz, CF x y b hb]
 rfl
theorem rA (x y : Nat) (w : World) (hx : x < 18446744073709551616) (hy : y < 18446744073709551616) :
  Calls Tryz.prog 267 #[.int .u64 (x : Int), .int .u64 (y : Int)] w fun e w' => e = .returned (.tuple #[.int .u64 ((x * y / 18446744073709551616 : Nat) : Int), .int .u64 ((x * y % 18446744073709551616 : Nat) : Int)]) ∧ Below w.heap.size w w' := by
 refine aj (N := 51) (l := [.int .u64 (x : Int), .int .u64 (y : Int)]) Tryz.func267 rfl rfl (by simp) ?_;refine sr (aI (aI (aa (sr (mI ?_)))));refine J7 ?_;refine aI (aa (sr (mI ?_)));refine wc ?_;refine aI (aa (sr (mI ?_)));refine J7 ?_;refine aI (aa (sr (mI ?_)));refine wc ?_;refine aI (aa (sr (mI (mI ?_))));refine qh rfl rfl Ty ?_;refine aI (aa (sr (mI (mI ?_))));refine qh rfl rfl Ty ?_;refine mI ?_;refine wc ?_;refine ix rfl rfl Ty ?_;refine aI (aa (sr (mI ?_)));refine J7 ?_;refine aI (aa (sr (mI ?_)));refine wc ?_;refine aI (aa (sr (mI (mI (mI ?_)))));refine qh rfl rfl Ty ?_;refine ix rfl rfl Ty ?_;refine aI (aa (sr (mI (mI ?_))));refine qh rfl rfl Ty ?_;refine mI ?_;refine ix rfl rfl Ty ?_;refine mI ?_;refine wc ?_;refine ix rfl rfl Ty ?_;refine aI (aa (sr (mI (mI ?_))));refine qh rfl rfl Ty ?_;refine aI (aa (av ?_));refine Kl ?_;obtain ⟨bd, bt, bw, hhi⟩ := Lib.mul64_hi x y hx hy;have ba := Lib.half_mul_le (a := x / 4294967296) (b := y / 4294967296) Tx Tx;have bb := Lib.half_mul_le (a := x / 4294967296) (b := y % 4294967296) Tx Tx;have bc := Lib.half_mul_le (a := x % 4294967296) (b := y / 4294967296) Tx Tx
 have em : ∀ z : Nat, z &&& 4294967295 = z % 4294967296 := fun z => Nat.and_two_pow_sub_one_eq_mod z 32;simp only [em];have hb : x * y / 18446744073709551616 < 18446744073709551616 := by
  rw [Nat.div_lt_iff_lt_mul Tx];exact Nat.mul_lt_mul'' hx hy
 refine ⟨?_, Below.refl _ _⟩;congr 5;rw [Nat.mod_eq_of_lt bd, Nat.mod_eq_of_lt (show x / 4294967296 * (y % 4294967296) < 18446744073709551616 by omega), Nat.mod_eq_of_lt bt, Nat.mod_eq_of_lt (show x % 4294967296 * (y / 4294967296) < 18446744073709551616 by omega), Nat.mod_eq_of_lt bw, Nat.mod_eq_of_lt (show x / 4294967296 * (y / 4294967296) < 18446744073709551616 by omega)];have key : ∀ A T V : Nat, A + T + V < 18446744073709551616 → ((A + T) % 18446744073709551616 + V) % 18446744073709551616 = A + T + V := by intro A T V h; omega
 rw [← hhi] at hb ⊢;exact congrArg Nat.cast (key _ _ _ hb)
theorem gN {x k m : Nat} (hm : 2 ^ k = m) (h : m ≤ x) : bC x = k + bC (x / m) := by
 subst hm;have h0 : x / 2 ^ k ≠ 0 := by
  have := (Nat.div_pos_iff (a := x) (b := 2 ^ k)).2 ⟨Nat.pow_pos Tx, h⟩;omega
 have h1 := dk (x / 2 ^ k);have h2 := DH h0;have h3 := pN h0;have h4 := Nat.div_add_mod x (2 ^ k);have h5 := Nat.mod_lt x (Nat.pow_pos (n := k) (show 0 < 2 by omega));apply Fh
 ·rw [Nat.pow_add];have : 2 ^ k * (x / 2 ^ k + 1) ≤ 2 ^ k * 2 ^ bC (x / 2 ^ k) := Nat.mul_le_mul_left _ h1;rw [Nat.mul_succ] at this;omega
 ·have e : k + bC (x / 2 ^ k) - 1 = k + (bC (x / 2 ^ k) - 1) := Tx;rw [e, Nat.pow_add];have : 2 ^ k * 2 ^ (bC (x / 2 ^ k) - 1) ≤ 2 ^ k * (x / 2 ^ k) := Nat.mul_le_mul_left _ h2;omega
theorem kd {T : ByteArray} (hT : T.data.toList = (List.range 256).map fun n => UInt8.ofNat (bC n)) {n : Nat} (h : n < 256) : ∃ c : UInt8, T.data.toList[n]? = some c ∧ c.toNat = bC n ∧ bC n ≤ 8 := by
 have hb : bC n ≤ 8 := dv Tx;refine ⟨UInt8.ofNat (bC n), ?_, ?_, hb⟩
 ·rw [hT, List.getElem?_map, List.getElem?_range h]; rfl
 ·rw [UInt8.toNat_ofNat']; omega
theorem Aq (x : Nat) (w : World) (hx : x < 18446744073709551616) :
  Calls Tryz.prog 271 #[.int .u64 (x : Int)] w fun e w' => e = .returned (.int .i64 (bC x)) ∧ Below w.heap.size w w' := by
 refine aj (N := 25) (l := [.int .u64 (x : Int)]) Tryz.func271 rfl rfl (by simp) ?_;by_cases h32 : 4294967296 ≤ x
 ·have := gN (x := x) (k := 32) (m := 4294967296) rfl h32;refine sr (aI (aa (ah (sr (mI ?_)))));refine dR (aa (cT (sr (mI ?_))));refine wc ?_;refine aI (aa (al (aI (aa (ah (sr (mI ?_)))))));by_cases h16 : 65536 ≤ (x / 4294967296)
  ·have := gN (x := (x / 4294967296)) (k := 16) (m := 65536) rfl h16;refine dR (aa (cT (sr (mI ?_))));refine lK (s := 16) (m := 65536) rfl rfl Ty Ty Ty ?_;refine aI (aa (al (mI ?_)));refine bh (aI (aa (ah (sr (mI ?_)))));by_cases h8 : 256 ≤ ((x / 4294967296) / 65536)
   ·have := gN (x := ((x / 4294967296) / 65536)) (k := 8) (m := 256) rfl h8;refine dR (aa (cT (sr (mI ?_))));refine Dz ?_;refine aI (aa (al (mI ?_)));refine bh (aI (aa (sr (mI (mI ?_)))));refine l8 ?_;obtain ⟨cc, hcc, hcv, hcb⟩ := kd (T := _) Tz (n := (((x / 4294967296) / 65536) / 256)) Tx;exact NF
   ·refine DU ?_;refine l8 ?_;obtain ⟨cc, hcc, hcv, hcb⟩ := kd (T := _) Tz (n := (((x / 4294967296) / 65536))) Tx;exact NF
  ·refine dR (aa (cF (ar (ai (ah (sr (mI ?_)))))));by_cases h8 : 256 ≤ ((x / 4294967296))
   ·have := gN (x := ((x / 4294967296))) (k := 8) (m := 256) rfl h8;refine dR (aa (cT (sr (mI ?_))));refine Dz ?_;refine aI (aa (al (mI ?_)));refine bh (aI (aa (sr (mI (mI ?_)))));refine l8 ?_;obtain ⟨cc, hcc, hcv, hcb⟩ := kd (T := _) Tz (n := (((x / 4294967296)) / 256)) Tx;exact NF
   ·refine DU ?_;refine l8 ?_;obtain ⟨cc, hcc, hcv, hcb⟩ := kd (T := _) Tz (n := (((x / 4294967296)))) Tx;exact NF
 ·refine sr (aI (aa (ah (sr (mI ?_)))));refine dR (aa (cF (ar (ai (ah (sr (mI ?_)))))));by_cases h16 : 65536 ≤ (x)
  ·have := gN (x := (x)) (k := 16) (m := 65536) rfl h16;refine dR (aa (cT (sr (mI ?_))));refine lK (s := 16) (m := 65536) rfl rfl Ty Ty Ty ?_;refine aI (aa (al (mI ?_)));refine bh (aI (aa (ah (sr (mI ?_)))));by_cases h8 : 256 ≤ ((x) / 65536)
   ·have := gN (x := ((x) / 65536)) (k := 8) (m := 256) rfl h8;refine dR (aa (cT (sr (mI ?_))));refine Dz ?_;refine aI (aa (al (mI ?_)));refine bh (aI (aa (sr (mI (mI ?_)))));refine l8 ?_;obtain ⟨cc, hcc, hcv, hcb⟩ := kd (T := _) Tz (n := (((x) / 65536) / 256)) Tx;exact NF
   ·refine DU ?_;refine l8 ?_;obtain ⟨cc, hcc, hcv, hcb⟩ := kd (T := _) Tz (n := (((x) / 65536))) Tx;exact NF
  ·refine dR (aa (cF (ar (ai (ah (sr (mI ?_)))))));by_cases h8 : 256 ≤ ((x))
   ·have := gN (x := ((x))) (k := 8) (m := 256) rfl h8;refine dR (aa (cT (sr (mI ?_))));refine Dz ?_;refine aI (aa (al (mI ?_)));refine bh (aI (aa (sr (mI (mI ?_)))));refine l8 ?_;obtain ⟨cc, hcc, hcv, hcb⟩ := kd (T := _) Tz (n := (((x)) / 256)) Tx;exact NF
   ·refine DU ?_;refine l8 ?_;obtain ⟨cc, hcc, hcv, hcb⟩ := kd (T := _) Tz (n := (((x)))) Tx;exact NF
theorem B1 (x : Nat) (w : World) (hx : x < 18446744073709551616) :
  Calls Tryz.prog 260 #[.int .u64 (x : Int)] w fun e w' => e = .returned (.int .i64 (64 - (bC x : Int))) ∧ Below w.heap.size w w' := by
 have hh := Hp.start w;have hb : bC x ≤ 64 := dv (by simpa using hx);refine aj (N := 6) (l := [.int .u64 (x : Int)]) Tryz.func260 rfl rfl (by simp) ?_;refine sr (aI (aa (sr (mI ?_))));refine bz hh (Aq _ _ hx) rfl ?_;intro w4 hh;refine dT (aI (aa (av ?_)));refine cX ?_;exact ⟨rfl, hh.below⟩
def tz (n : Nat) : Nat := Int.trailingZeros (n : Int)
theorem DP (k m : Nat) : tz (2 ^ k * (2 * m + 1)) = k := by
 have h := Int.trailingZeros_shiftLeft (x := 2 * (m : Int) + 1) Tx k;rw [Int.trailingZeros_two_mul_add_one, Int.shiftLeft_eq] at h;unfold tz;have e : ((2 ^ k * (2 * m + 1) : Nat) : Int) = (2 * (m : Int) + 1) * 2 ^ k := by
  rw [Int.natCast_mul, Int.natCast_pow, Int.mul_comm]; rfl
 rw [e];have e2 : (((2 ^ k : Nat)) : Int) = 2 ^ k := by simp
 rw [← e2] at h ⊢;simpa using h
theorem sI {n : Nat} (h : n ≠ 0) : ∃ m, n = 2 ^ tz n * (2 * m + 1) := by
 have : ∀ b n : Nat, n ≤ b → n ≠ 0 → ∃ k m, n = 2 ^ k * (2 * m + 1) := by
  intro b
  induction b with
  | zero => intro n h1 h2; omega
  | succ b ih =>
   intro n h1 h2
   rcases Nat.mod_two_eq_zero_or_one n with h | h
   ·obtain ⟨k, m, hk⟩ := ih (n / 2) Tx Tx;exact ⟨k + 1, m, by rw [Nat.pow_succ, Nat.mul_comm (2 ^ k), Nat.mul_assoc, ← hk]; omega⟩
   ·exact ⟨0, n / 2, Tx⟩
 obtain ⟨k, m, hk⟩ := this n n (Nat.le_refl _) h;exact ⟨m, by rw [hk, DP]⟩
theorem xe {n k : Nat} (h : n ≠ 0) (hn : n < 2 ^ k) : tz n < k := by
 obtain ⟨m, hm⟩ := sI h
 rcases Nat.lt_or_ge (tz n) k with h1 | h1
 ·exact h1
 ·have h2 : 2 ^ k ≤ 2 ^ tz n := Nat.pow_le_pow_right Tx h1;have h3 : 2 ^ tz n * 1 ≤ 2 ^ tz n * (2 * m + 1) := Nat.mul_le_mul_left _ Tx;omega
theorem Ac (m m' j : Nat) (h : m + m' + 1 = 2 ^ j) : (2 * m + 1) &&& (2 * m' + 1) = 1 := by
 apply Nat.eq_of_testBit_eq;intro i;rw [Nat.testBit_and]
 cases i with
 | zero => simp
 | succ i =>
  rw [Nat.testBit_succ, Nat.testBit_succ, Nat.testBit_succ];have e1 : (2 * m + 1) / 2 = m := Tx;have e2 : (2 * m' + 1) / 2 = m' := Tx;have e3 : m' = 2 ^ j - (m + 1) := Tx;rw [e1, e2, e3, Nat.testBit_two_pow_sub_succ Tx]
  cases hi : m.testBit i <;> simp
theorem LV {x k m : Nat} (hx : x = 2 ^ k * (2 * m + 1)) (hlt : x < 18446744073709551616) : x &&& (18446744073709551616 - x) % 18446744073709551616 = 2 ^ k := by
 have hW : (18446744073709551616 : Nat) = 2 ^ 64 := by decide
 have hk : k < 64 := by
  have := xe (n := x) (k := 64) (by rw [hx]; exact Nat.mul_ne_zero (Nat.pos_iff_ne_zero.1 (Nat.pow_pos Tx)) Tx) (by rw [← hW]; exact hlt);rwa [hx, DP] at this
 have hp : (18446744073709551616 : Nat) = 2 ^ k * (2 * 2 ^ (63 - k)) := by rw [hW, ← Nat.pow_succ', ← Nat.pow_add]; congr 1; omega
 have hm : m < 2 ^ (63 - k) := by
  rw [hx, hp] at hlt;have := Nat.lt_of_mul_lt_mul_left hlt;omega
 have e : (18446744073709551616 - x) % 18446744073709551616 = 2 ^ k * (2 * (2 ^ (63 - k) - (m + 1)) + 1) := by
  have h1 : 2 * (2 ^ (63 - k) - (m + 1)) + 1 = 2 * 2 ^ (63 - k) - (2 * m + 1) := Tx;rw [h1, Nat.mul_sub, ← hp, ← hx, Nat.mod_eq_of_lt];have : 0 < 2 ^ k * (2 * m + 1) := Nat.mul_pos (Nat.pow_pos Tx) Tx;omega
 rw [e, hx];have h2 := Ac m (2 ^ (63 - k) - (m + 1)) (63 - k) Tx;have h3 := congrArg (· <<< k) h2;rw [Nat.shiftLeft_and_distrib] at h3;simp only [Nat.shiftLeft_eq, Nat.one_mul] at h3;rw [Nat.mul_comm (2 ^ k), Nat.mul_comm (2 ^ k)];exact h3
def BM : List Nat := [0, 1, 56, 2, 57, 49, 28, 3, 61, 58, 42, 50, 38, 29, 17, 4, 62, 47, 59, 36, 45, 43, 51, 22, 53, 39, 33, 30, 24, 18, 12, 5, 63, 55, 48, 27, 60, 41, 37, 16, 46, 35, 44, 21, 52, 32, 23, 11, 54, 26, 40, 15, 34, 20, 31, 10, 25, 14, 19, 9, 13, 8, 7, 6]
def ee (w : World) : Prop := Rd w ⟨0, 0, none⟩ (gl BM)
theorem ee.ext {w w' : World} (h : ee w) (hb : Below w.heap.size w w') : ee w' := Rd.ext h hb
theorem ee.hp {w w' : World} {H : List HE} (h : ee w) (hh : Hp w H w') : ee w' := Rd.ext h hh.below
theorem Px : ∀ k : Fin 64, BM[2 ^ k.val * 285870213051353865 % 18446744073709551616 / 288230376151711744]? = some k.val ∧ 2 ^ k.val * 285870213051353865 % 18446744073709551616 / 288230376151711744 < 64 := by decide +kernel
theorem BP (x : Nat) (w : World) (hx : x < 18446744073709551616) (h0 : x ≠ 0) (hT : ee w) :
  Calls Tryz.prog 225 #[.int .u64 (x : Int)] w fun e w' => e = .returned (.int .i64 (tz x)) ∧ Below w.heap.size w w' := by
 have hh := Hp.start w;obtain ⟨m, hm⟩ := sI h0;have hk : tz x < 64 := xe h0 (by simpa using hx);have ha := LV hm hx;obtain ⟨t1, t2⟩ := Px ⟨tz x, hk⟩;simp only at t1 t2;have hc := (show Rd w _ _ from hT).xo (qp t1);refine aj (N := 14) (l := [.int .u64 (x : Int)]) Tryz.func225 rfl rfl (by simp) ?_;refine sr (aI (aa (ah (sr (mI ?_)))));refine cW (aa (cF (ar (ai (sr (mI (mI ?_)))))));refine I9 rfl (by first | assumption | omega) Ty ?_;refine Ci rfl rfl hx (Nat.mod_lt _ Ty) Ty ?_;rw [ha];skip;refine qh (b := 285870213051353865) rfl rfl Ty ?_;refine lK (s := 58) (m := 288230376151711744) rfl rfl Ty Ty Ty ?_;refine BT bg.out aN.size rfl rfl rfl Tx Ty ?_;refine bT aN.out rfl (hc) Ty ?_;refine Bx ?_;exact zr
end Go.Proofs.YteeckcbbnegmcaaGreatDoor
