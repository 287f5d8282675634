/- Lemmas for castSame, part 2. -/
import Derived.Deep.AppendSrc
import Derived.Deep.Upon
import Init
import Derived.Laws.Externs
import Derived.Lib.Mul64
import Derived.Test.YteeckcbbnegmcaaGreatDoorZ1
namespace Go.Proofs.YteeckcbbnegmcaaGreatDoor
open Go.RowKit
section
variable {ro : Mode} {P : Program} {N d : Nat} {ops : Array Oper} {Q : Kq} {ρ : Rf} {w w0 : World} {rest : List Oper} {H : List HE} {ty : TypeId} {pos : String} {af : Array Edge} {x y : Operand} {t u : TypeId}
theorem mI {k : IntKind} {a : Int} (kk : WL ro P N ops Q rest (cx ρ d (.int k a)) w) (hx : ev ρ x = .int k a := by exact cJ rfl) (hN : d < N := by decide) : WL ro P N ops Q (⟨some d, .move x, ty, pos, af, none⟩ :: rest) ρ w := qa hx hN kk
theorem aI {k : IntKind} {a : Int} (kk : WL ro P N ops Q rest (cx ρ d (.int k a)) w) (hx : ev ρ x = .int k a := by exact cJ rfl) (hN : d < N := by decide) : WL ro P N ops Q (⟨some d, .assign x, ty, pos, af, none⟩ :: rest) ρ w := kt hx hN kk
theorem mB {a : Bool} (kk : WL ro P N ops Q rest (cx ρ d (.bool a)) w) (hx : ev ρ x = .bool a := by exact rj rfl) (hN : d < N := by decide) : WL ro P N ops Q (⟨some d, .move x, ty, pos, af, none⟩ :: rest) ρ w := qa hx hN kk
theorem aB {a : Bool} (kk : WL ro P N ops Q rest (cx ρ d (.bool a)) w) (hx : ev ρ x = .bool a := by exact rj rfl) (hN : d < N := by decide) : WL ro P N ops Q (⟨some d, .assign x, ty, pos, af, none⟩ :: rest) ρ w := kt hx hN kk
theorem mS {a : ByteArray} (kk : WL ro P N ops Q rest (cx ρ d (.string a)) w) (hx : ev ρ x = .string a := by exact Hl rfl) (hN : d < N := by decide) : WL ro P N ops Q (⟨some d, .move x, ty, pos, af, none⟩ :: rest) ρ w := qa hx hN kk
theorem aS {a : ByteArray} (kk : WL ro P N ops Q rest (cx ρ d (.string a)) w) (hx : ev ρ x = .string a := by exact Hl rfl) (hN : d < N := by decide) : WL ro P N ops Q (⟨some d, .assign x, ty, pos, af, none⟩ :: rest) ρ w := kt hx hN kk
theorem mL {A : Option Addr} {n c : Nat} (kk : WL ro P N ops Q rest (cx ρ d (.slice A n c)) w) (hx : ev ρ x = .slice A n c := by exact C5 rfl) (hN : d < N := by decide) : WL ro P N ops Q (⟨some d, .move x, ty, pos, af, none⟩ :: rest) ρ w := qa hx hN kk
theorem aL {A : Option Addr} {n c : Nat} (kk : WL ro P N ops Q rest (cx ρ d (.slice A n c)) w) (hx : ev ρ x = .slice A n c := by exact C5 rfl) (hN : d < N := by decide) : WL ro P N ops Q (⟨some d, .assign x, ty, pos, af, none⟩ :: rest) ρ w := kt hx hN kk
theorem mT {l : List Value} (kk : WL ro P N ops Q rest (cx ρ d (.tuple l.toArray)) w) (hx : ev ρ x = .tuple l.toArray := by exact MH rfl) (hN : d < N := by decide) : WL ro P N ops Q (⟨some d, .move x, ty, pos, af, none⟩ :: rest) ρ w := qa hx hN kk
theorem a6 {k : IntKind} {a b : Int} {r : Bool} (kk : WL ro P N ops Q rest (cx ρ d (.bool r)) w) (hx : ev ρ x = .int k a := by exact rfl) (hy : ev ρ y = .int k b := by exact rfl) (hr : decide (a < b) = r := by first | exact SF Sd | exact SQ Sd | exact rfl) (hN : d < N := by decide) : WL ro P N ops Q (⟨some d, .binOp .lss t x y u, ty, pos, af, none⟩ :: rest) ρ w := J2 hx hy hN (by rw [hr]; exact kk)
theorem MM {k : IntKind} {a b : Int} {r : Bool} (kk : WL ro P N ops Q rest (cx ρ d (.bool r)) w) (hx : ev ρ x = .int k a := by exact rfl) (hy : ev ρ y = .int k b := by exact rfl) (hr : decide (a ≤ b) = r := by first | exact SF Sd | exact SQ Sd | exact rfl) (hN : d < N := by decide) : WL ro P N ops Q (⟨some d, .binOp .leq t x y u, ty, pos, af, none⟩ :: rest) ρ w := I6 hx hy hN (by rw [hr]; exact kk)
theorem cg {k : IntKind} {a b : Int} {r : Bool} (kk : WL ro P N ops Q rest (cx ρ d (.bool r)) w) (hx : ev ρ x = .int k a := by exact rfl) (hy : ev ρ y = .int k b := by exact rfl) (hr : decide (b < a) = r := by first | exact SF Sd | exact SQ Sd | exact rfl) (hN : d < N := by decide) : WL ro P N ops Q (⟨some d, .binOp .gtr t x y u, ty, pos, af, none⟩ :: rest) ρ w := Km hx hy hN (by rw [hr]; exact kk)
theorem ee {k : IntKind} {a b : Int} {r : Bool} (kk : WL ro P N ops Q rest (cx ρ d (.bool r)) w) (hx : ev ρ x = .int k a := by exact rfl) (hy : ev ρ y = .int k b := by exact rfl) (hr : decide (b ≤ a) = r := by first | exact SF Sd | exact SQ Sd | exact rfl) (hN : d < N := by decide) : WL ro P N ops Q (⟨some d, .binOp .geq t x y u, ty, pos, af, none⟩ :: rest) ρ w := JR hx hy hN (by rw [hr]; exact kk)
theorem cH {k : IntKind} {a b : Int} {r : Bool} (kk : WL ro P N ops Q rest (cx ρ d (.bool r)) w) (hx : ev ρ x = .int k a := by exact rfl) (hy : ev ρ y = .int k b := by exact rfl) (hr : decide (a = b) = r := by first | exact SF Sd | exact SQ Sd | exact rfl) (hN : d < N := by decide) : WL ro P N ops Q (⟨some d, .binOp .eql t x y u, ty, pos, af, none⟩ :: rest) ρ w := Cw hx hy hN (by rw [hr]; exact kk)
theorem cX {k : IntKind} {a b : Int} {r : Bool} (kk : WL ro P N ops Q rest (cx ρ d (.bool r)) w) (hx : ev ρ x = .int k a := by exact rfl) (hy : ev ρ y = .int k b := by exact rfl) (hr : decide (a ≠ b) = r := by first | exact SF Sd | exact SQ Sd | exact rfl) (hN : d < N := by decide) : WL ro P N ops Q (⟨some d, .binOp .neq t x y u, ty, pos, af, none⟩ :: rest) ρ w := Kf hx hy hN (by rw [hr]; exact kk)
theorem a9 {a b : Int} (kk : WL ro P N ops Q rest (cx ρ d (.int .i64 (a + b))) w) (hx : ev ρ x = .int .i64 a := by exact rfl) (hy : ev ρ y = .int .i64 b := by exact rfl) (h1 : -9223372036854775808 ≤ a + b := by omega) (h2 : a + b ≤ 9223372036854775807 := by omega) (hN : d < N := by decide) : WL ro P N ops Q (⟨some d, .binOp .add t x y u, ty, pos, af, none⟩ :: rest) ρ w := M3 hx hy h1 h2 hN kk
theorem eu {a b : Int} (kk : WL ro P N ops Q rest (cx ρ d (.int .i64 (a - b))) w) (hx : ev ρ x = .int .i64 a := by exact rfl) (hy : ev ρ y = .int .i64 b := by exact rfl) (h1 : -9223372036854775808 ≤ a - b := by omega) (h2 : a - b ≤ 9223372036854775807 := by omega) (hN : d < N := by decide) : WL ro P N ops Q (⟨some d, .binOp .sub t x y u, ty, pos, af, none⟩ :: rest) ρ w := MJ hx hy h1 h2 hN kk
theorem mulC {a b : Int} (kk : WL ro P N ops Q rest (cx ρ d (.int .i64 (a * b))) w) (hx : ev ρ x = .int .i64 a := by exact rfl) (hy : ev ρ y = .int .i64 b := by exact rfl) (h1 : -9223372036854775808 ≤ a * b := by omega) (h2 : a * b ≤ 9223372036854775807 := by omega) (hN : d < N := by decide) : WL ro P N ops Q (⟨some d, .binOp .mul t x y u, ty, pos, af, none⟩ :: rest) ρ w := Nu hx hy h1 h2 hN kk
theorem cE {i : Nat} {vs : List Value} {v : Value} (kk : WL ro P N ops Q rest (cx ρ d (v)) w) (hx : ev ρ x = .tuple vs.toArray := by exact rfl) (hv : vs[i]? = some v := by exact rfl) (hN : d < N := by decide) : WL ro P N ops Q (⟨some d, .extract x i, ty, pos, af, none⟩ :: rest) ρ w := Fq hx hv hN kk
theorem fF {b : Bool} (kk : WL ro P N ops Q rest (cx ρ d (.bool !b)) w) (hx : ev ρ x = .bool b := by exact rfl) (hN : d < N := by decide) : WL ro P N ops Q (⟨some d, .unOp .not t x, ty, pos, af, none⟩ :: rest) ρ w := PN hx hN kk
theorem aK {e : TypeId} {A : Option Addr} {n c : Nat} [ht : bq P t (.slice e)] (kk : WL ro P N ops Q rest (cx ρ d (.int .i64 n)) w) (hx : ev ρ x = .slice A n c := by exact rfl) (hN : d < N := by decide) : WL ro P N ops Q (⟨some d, .call ⟨.builtin .len, #[x], #[t]⟩, ty, pos, af, none⟩ :: rest) ρ w := F5 ht.out hx hN kk
theorem bF {s : TypeId} {f b o off : Nat} {ft : TypeId} [hf : eO P s f off ft] (kk : WL ro P N ops Q rest (cx ρ d (.pointer (some ⟨b, o + off, none⟩))) w) (hx : ev ρ x = .pointer (some ⟨b, o, none⟩) := by exact rfl) (hN : d < N := by decide) : WL ro P N ops Q (⟨some d, .fieldAddr s x f, ty, pos, af, none⟩ :: rest) ρ w := zR hf.out hx hN kk
theorem bE {b o n by' : Nat} {zc cs : List Value} {fz : Nat × Nat} {t' : TypeId} {v : Value} (hh : Hp w0 H w) (i : Nat) [ht : aP P t n false by' zc] (kk : WL ro P N ops Q rest (cx ρ d (v)) w) (hx : ev ρ x = .pointer (some ⟨b, o, none⟩) := by exact rfl) (hi : H[i]? = some (.blk b t' cs fz) := by exact rfl) (hv : cs[o]? = some v := by exact rfl) (hN : d < N := by decide) : WL ro P N ops Q (⟨some d, .load t x, ty, pos, af, none⟩ :: rest) ρ w := cv ht.out hx (hh.dW hi hv) hN kk
theorem cu {b o n by' : Nat} {zc cs : List Value} {fz : Nat × Nat} {t' : TypeId} (hh : Hp w0 H w) (i : Nat) (vs : List Value) [ht : aP P t n true by' zc] (kk : WL ro P N ops Q rest (cx ρ d (.agg vs.toArray)) w) (hx : ev ρ x = .pointer (some ⟨b, o, none⟩) := by exact rfl) (hi : H[i]? = some (.blk b t' cs fz) := by exact rfl) (hv : (cs.drop o).take n = vs := by exact rfl) (hl : vs.length = n := by exact rfl) (hN : d < N := by decide) : WL ro P N ops Q (⟨some d, .load t x, ty, pos, af, none⟩ :: rest) ρ w := ct ht.out hx (hh.bH hi hv) hl hN kk
theorem bJ {n by' : Nat} {ag : Bool} {zc : List Value} (hh : Hp w0 H w) [ht : aP P t n ag by' zc] (kk : ∀ b w', Hp w0 (.blk b t zc (0, 0) :: H) w' → WL ro P N ops Q rest (cx ρ d (.pointer (some ⟨b, 0, none⟩))) w') (hN : d < N := by decide) : WL ro P N ops Q (⟨some d, .alloc t, ty, pos, af, none⟩ :: rest) ρ w := Gp hh ht.out hN kk
theorem cq {v : Value} (hh : Hp w0 H w) (cs : List Value) (kk : ∀ b w', Hp w0 (.blk b t cs (0, 0) :: H) w' → WL ro P N ops Q rest (cx ρ d (.pointer (some ⟨b, 0, none⟩))) w') (hx : ev ρ x = v := by exact rfl) (hc : v.cells = cs.toArray := by exact rfl) (hN : d < N := by decide) : WL ro P N ops Q (⟨some d, .box t x, ty, pos, af, none⟩ :: rest) ρ w := NJ hh hx hc hN kk
theorem bK {t' : TypeId} {b o n by' : Nat} {ag : Bool} {zc cs : List Value} {fz : Nat × Nat} {v : Value} (hh : Hp w0 H w) (i : Nat) (vs : List Value) [ht : aP P t n ag by' zc] (kk : ∀ w', Hp w0 (H.set i (.blk b t' (bM cs o vs) fz)) w' → WL ro P N ops Q rest ρ w') (hx : ev ρ x = .pointer (some ⟨b, o, none⟩) := by exact rfl) (hi : H[i]? = some (.blk b t' cs fz) := by exact rfl) (hy : ev ρ y = v := by exact rfl) (hc : v.cells = vs.toArray := by exact rfl) (hl : vs.length = n := by exact rfl) (ho : o + n ≤ cs.length := by simp) (h1 : (vs.all Value.oneCell') = true := by exact rfl) : WL ro P N ops Q (⟨none, .store t x y, ty, pos, af, none⟩ :: rest) ρ w := HP hh hx hi hy hc ht.out hl ho h1 kk
theorem gg {n by' : Nat} {parts : Array (Nat × Operand)} {ps : List (Nat × Value)} {zc : List Value} {pl : List (Nat × Nat)} (cs : List Value) [hte : aP P t n true by' zc] [hpl : kr P t pl] (kk : WL ro P N ops Q rest (cx ρ d (.agg cs.toArray)) w) (hp : yb ρ parts.toList = ps := by exact rfl) (hf : kz (pl[·]?) zc ps = some cs := by exact rfl) (hN : d < N := by decide) : WL ro P N ops Q (⟨some d, .build t parts, ty, pos, af, none⟩ :: rest) ρ w := Jb hte.out hpl.out hp hf hN kk
theorem fV {c a b : Operand} {v : Bool} (kk : WL ro P N ops Q rest (cx ρ d (.bool v)) w) (hc : ev ρ c = .bool true := by exact rfl) (hx : ev ρ a = .bool v := by exact rj rfl) (hN : d < N := by decide) : WL ro P N ops Q (⟨some d, .pick c a b, ty, pos, af, none⟩ :: rest) ρ w := Ht hc hx hN kk
theorem fa {c a b : Operand} {v : Bool} (kk : WL ro P N ops Q rest (cx ρ d (.bool v)) w) (hc : ev ρ c = .bool false := by exact rfl) (hx : ev ρ b = .bool v := by exact rj rfl) (hN : d < N := by decide) : WL ro P N ops Q (⟨some d, .pick c a b, ty, pos, af, none⟩ :: rest) ρ w := GL hc hx hN kk
theorem gS {op : Op} {j dj : Nat} {b c : Bool} (kk : WL ro P N ops Q rest (cx ρ d undef) w) (hN : d < N := by decide) (hj : (ops[j]?).bind (·.dst) = some dj := by exact rfl) (hv : ρ dj = .bool c := by exact rfl) (hb : c ≠ b := by decide) : WL ro P N ops Q (⟨some d, op, ty, pos, af, some (j, b)⟩ :: rest) ρ w := kg hN hj hv hb kk
theorem gV {op : Op} {j dj : Nat} {b : Bool} (kk : WL ro P N ops Q rest (cx ρ d undef) w) (hN : d < N := by decide) (hj : (ops[j]?).bind (·.dst) = some dj := by exact rfl) (hb : nb (ρ dj) b = true := by exact rfl) : WL ro P N ops Q (⟨some d, op, ty, pos, af, some (j, b)⟩ :: rest) ρ w := tf hN hj hb kk
theorem gT {dd : Option Nat} {op : Op} {j dj : Nat} {b : Bool} (kk : WL ro P N ops Q (⟨dd, op, ty, pos, af, none⟩ :: rest) ρ w) (hj : (ops[j]?).bind (·.dst) = some dj := by exact rfl) (hv : ρ dj = .bool b := by exact rfl) : WL ro P N ops Q (⟨dd, op, ty, pos, af, some (j, b)⟩ :: rest) ρ w := aH hj hv kk
theorem br {f : FuncId} {args : Array Operand} {ts : Array TypeId} {vs : List Value} {v : Value} (hh : Hp w0 H w) (hc : Calls P f vs.toArray w fun e w' => e = .returned v ∧ Below w.heap.size w w') [hf : ak P f] (ha : uM ρ args.toList = vs) (kk : ∀ w', Hp w0 H w' → WL ro P N ops Q rest (cx ρ d v) w') (hN : d < N := by decide) : WL ro P N ops Q (⟨some d, .call ⟨.value (.func f), args, ts⟩, ty, pos, af, none⟩ :: rest) ρ w := aC hc hf.out ha hN fun _ _ hq => ⟨_, hq.1, kk _ (hh.ext hq.2)⟩
theorem sr {id : Nat} {y : Code} {l : List Oper} (h : WL ro P N l.toArray (dR (fun ρ w => WC ro P N y Q ρ w) Q) l ρ w) : WC ro P N (.seq (.region id l.toArray false) y) Q ρ w := ah (al h)
theorem cT {c : Operand} {x y : Code} (h : WC ro P N x Q ρ w) (hc : ev ρ c = .bool true := by exact rfl) : WC ro P N (.cond c x y) Q ρ w := DW hc h
theorem cF {c : Operand} {x y : Code} (h : WC ro P N y Q ρ w) (hc : ev ρ c = .bool false := by exact rfl) : WC ro P N (.cond c x y) Q ρ w := EP hc h
theorem da {P : Program} {fn : Func} {R : Ending → World → Prop} {ρ : Rf} {w : World} {e : Exit} {t0 : Tmp} {v0 : Value} (h : R (.returned v0) w) (hr : fn.results = #[.tmp t0] := by exact rfl) (h0 : ρ t0 = v0 := by first | exact j6 rfl | exact mj rfl | exact vg rfl | exact Fp rfl | exact v_agg rfl | exact rfl) (he : e = .normal ∨ e = .ret := by first | exact .inr rfl | exact .inl rfl) : mn P fn R e ρ w := Qr he hr h0 h
theorem Fx {P : Program} {fn : Func} {R : Ending → World → Prop} {ρ : Rf} {w : World} {e : Exit} {t0 t1 : Tmp} {v0 v1 : Value} (h : R (.returned (.tuple #[v0, v1])) w) (hr : fn.results = #[.tmp t0, .tmp t1] := by exact rfl) (h0 : ρ t0 = v0 := by first | exact j6 rfl | exact mj rfl | exact vg rfl | exact Fp rfl | exact v_agg rfl | exact rfl) (h1 : ρ t1 = v1 := by first | exact j6 rfl | exact mj rfl | exact vg rfl | exact Fp rfl | exact v_agg rfl | exact rfl) (he : e = .normal ∨ e = .ret := by first | exact .inr rfl | exact .inl rfl) : mn P fn R e ρ w := Qq he hr h0 h1 h
theorem Qu {P : Program} {fn : Func} {R : Ending → World → Prop} {ρ : Rf} {w : World} {e : Exit} {t0 t1 t2 : Tmp} {v0 v1 v2 : Value} (h : R (.returned (.tuple #[v0, v1, v2])) w) (hr : fn.results = #[.tmp t0, .tmp t1, .tmp t2] := by exact rfl) (h0 : ρ t0 = v0 := by first | exact j6 rfl | exact mj rfl | exact vg rfl | exact Fp rfl | exact v_agg rfl | exact rfl) (h1 : ρ t1 = v1 := by first | exact j6 rfl | exact mj rfl | exact vg rfl | exact Fp rfl | exact v_agg rfl | exact rfl) (h2 : ρ t2 = v2 := by first | exact j6 rfl | exact mj rfl | exact vg rfl | exact Fp rfl | exact v_agg rfl | exact rfl) (he : e = .normal ∨ e = .ret := by first | exact .inr rfl | exact .inl rfl) : mn P fn R e ρ w := Qf he hr h0 h1 h2 h
theorem II {P : Program} {fn : Func} {R : Ending → World → Prop} {ρ : Rf} {w : World} {e : Exit} {r0 : ResultVar} {v0 : Value} (h1 : gM P ρ w [r0] [v0]) (h : R (.returned v0) w) (hr : fn.results = #[r0] := by exact rfl) (he : e = .normal ∨ e = .ret := by first | exact .inr rfl | exact .inl rfl) : mn P fn R e ρ w := Pk he hr h1 h
theorem PR {P : Program} {fn : Func} {R : Ending → World → Prop} {ρ : Rf} {w : World} {e : Exit} {r0 r1 : ResultVar} {v0 v1 : Value} (h1 : gM P ρ w [r0, r1] [v0, v1]) (h : R (.returned (.tuple #[v0, v1])) w) (hr : fn.results = #[r0, r1] := by exact rfl) (he : e = .normal ∨ e = .ret := by first | exact .inr rfl | exact .inl rfl) : mn P fn R e ρ w := Py he hr h1 h
theorem N9 {P : Program} {fn : Func} {R : Ending → World → Prop} {ρ : Rf} {w : World} {e : Exit} {r0 r1 r2 : ResultVar} {v0 v1 v2 : Value} (h1 : gM P ρ w [r0, r1, r2] [v0, v1, v2]) (h : R (.returned (.tuple #[v0, v1, v2])) w) (hr : fn.results = #[r0, r1, r2] := by exact rfl) (he : e = .normal ∨ e = .ret := by first | exact .inr rfl | exact .inl rfl) : mn P fn R e ρ w := Pv he hr h1 h
end
class TS (P : Program) (t : TypeId) (n : outParam Nat) : Prop where out : (P.info? t).map (·.size) = some n
instance {P : Program} {t n b : Nat} {ag : Bool} {zc : List Value} [aP P t n ag b zc] : TS P t n := ⟨aP.size⟩
variable {K : Value → World → Prop} {N base by' c dj fuel j k m n : Nat} {P : Program} {R : Ending → World → Prop} {W w w' w0 w1 : World} {ad : Addr} {ag : Bool} {cs zc : List Value} {next : Rf → World → Prop} {o : Oper} {ops : Array Oper} {parts : Array (Nat × Operand)} {pos : String} {ps : List (Nat × Value)} {α : Type} {ρ : Rf}
section
variable {D : List Deferred}
section
variable {P : Program} {N : Nat} {Q : Kq} {ρ : Rf} {w : World}
def Le (ops : Array Oper) : Nat → Nat → Nat → Bool
 | 0, _, _ => false
 | n + 1, k, i => match ops[k]? with
  | none => false
  | some o => (o.after.any fun e => Region.binds .any e && e.on == i) || o.after.any fun e => Region.binds .any e && Le ops n e.on i
def qg (ops : Array Oper) (L : Array Bool) : Prop := ∀ k o, ops[k]? = some o → L.getD k false = true → ∀ e ∈ o.after, Region.binds .any e = true → L.getD e.on false = true
theorem mv {ops : Array Oper} {L : Array Bool} (hc : qg ops L) : ∀ (n k i : Nat), (∀ o, ops[k]? = some o → ∀ e ∈ o.after, Region.binds .any e = true → L.getD e.on false = true) → Le ops n k i = true → L.getD i false = true
 | 0, _, _, _, h => by simp [Le] at h
 | n + 1, k, i, hk, h => by
  unfold Le at h;split at h
  ·cases h
  ·rename_i o ho;rw [Uu] at h
   rcases h with h | h
   ·obtain ⟨e, he, h⟩ := Array.any_eq_true'.1 h;simp only [SE, T0] at h;rw [← h.2];exact hk o ho e he h.1
   ·obtain ⟨e, he, h⟩ := Array.any_eq_true'.1 h;simp only [SE] at h;have h1 := hk o ho e he h.1;exact mv hc n e.on i (fun o' ho' => hc e.on o' ho' h1) h.2
structure OG (P : Program) (ops : Array Oper) (o : Oper) (ρ : Rf) (w : World) (K : Value → World → Prop) : Prop where
 out : ∀ (a : Act) (next : Act → World → Prop) (Q : Exit → Act → World → Prop), (∀ i, a.tmps.getD i undef = ρ i) → (∀ v w', K v w' → next (a.put o.dst v) w') →
  if Region.wanted o (yielded ops a.tmps) then o.wp P a w next Q ∨ (o.asks P a w ∧ LetsOut Q) else next (a.put o.dst undef) w
theorem BO {a : Act} (h : ∀ i, a.tmps.getD i undef = ρ i) : a.eval = ev ρ := by
 funext x
 cases x with
 | tmp t => exact h t
 | _ => rfl
theorem gK {v : Value} (hg : o.guard = none) (hr : (execOp (ev ρ) o).run P w = .ok (.value v) w') (hk : K v w') : OG P ops o ρ w K :=
 ⟨fun a next Q ha hn => by
  rw [Sj (by simp [Region.wanted, hg])];refine .inl ?_;unfold Oper.wp;rw [BO ha, hr];exact hn _ _ hk⟩
theorem bA {f : FuncId} {args : Array Value} (hg : o.guard = none) (hr : (execOp (ev ρ) o).run P w = .ok (.enter f args) w1) (hc : Calls P f args w1 R)
  (hk : ∀ e w', R e w' → ∃ v, e = .returned v ∧ K v w') : OG P ops o ρ w K :=
 ⟨fun a next Q ha hn => by
  rw [Sj (by simp [Region.wanted, hg])];refine .inl ?_;unfold Oper.wp;rw [BO ha, hr];show Calls P f args w1 _;refine hc.mono fun e w' hR => ?_;obtain ⟨v, rfl, hkv⟩ := hk e w' hR;exact hn _ _ hkv⟩
theorem bV {d : Option Nat} {op : Op} {ty : TypeId} {af : Array Edge} {b : Bool}
  (hj : (ops[j]?).bind (·.dst) = some dj) (hv : ρ dj = .bool b) (h : OG P ops ⟨d, op, ty, pos, af, none⟩ ρ w K) : OG P ops ⟨d, op, ty, pos, af, some (j, b)⟩ ρ w K :=
 ⟨fun a next Q ha hn => by
  have h1 : Region.wanted ⟨d, op, ty, pos, af, some (j, b)⟩ (yielded ops a.tmps) = true := by
   have h2 := ha dj;rw [hv, Tn] at h2
   cases h3 : a.tmps[dj]? with
   | none => rw [h3] at h2; cases h2
   | some x =>
    rw [h3] at h2;simp only [TM] at h2;subst h2;simp [Region.wanted, yielded, hj, h3]
  have h2 := h.out a next Q ha hn;rw [Sj (by simp [Region.wanted])] at h2;rw [Sj h1];exact h2⟩
theorem uk {d : Option Nat} {op : Op} {ty : TypeId} {af : Array Edge} {b c : Bool}
  (hj : (ops[j]?).bind (·.dst) = some dj) (hv : ρ dj = .bool c) (hb : c ≠ b) (h : K undef w) : OG P ops ⟨d, op, ty, pos, af, some (j, b)⟩ ρ w K :=
 ⟨fun a next Q ha hn => by
  have h1 : Region.wanted ⟨d, op, ty, pos, af, some (j, b)⟩ (yielded ops a.tmps) = false := by
   have h2 := ha dj;rw [hv, Tn] at h2
   cases h3 : a.tmps[dj]? with
   | none => rw [h3] at h2; cases h2
   | some x =>
    rw [h3] at h2;simp only [TM] at h2;subst h2;simp [Region.wanted, yielded, hj, h3, hb]
  rw [h1];exact hn _ _ h⟩
def cS (V : Nat → Value → World → Prop) (ρ ρ1 : Rf) (w1 : World) : List (Nat × Option Nat) → Prop
 | [] => True
 | (t, some j) :: r => V j (ρ1 t) w1 ∧ cS V ρ ρ1 w1 r
 | (t, none) :: r => ρ1 t = ρ t ∧ cS V ρ ρ1 w1 r
def DO (P : Program) (ops : Array Oper) (J : World → Prop) (V : Nat → Value → World → Prop) (ρ : Rf) : Nat → List Oper → List (List (Nat × Option Nat)) → Prop
 | i, o :: os, s :: ss => ((∀ v w w', V i v w → Below w.heap.size w w' → V i v w') ∧ ∀ ρ1 w1, J w1 → cS V ρ ρ1 w1 s → OG P ops o ρ1 w1 fun v w2 => Below w1.heap.size w1 w2 ∧ V i v w2) ∧ DO P ops J V ρ (i + 1) os ss
 | _, [], [] => True
 | _, _, _ => False
theorem DD {ops : Array Oper} {J : World → Prop} {V : Nat → Value → World → Prop} : ∀ (l : List Oper) (ss : List (List (Nat × Option Nat))) (i : Nat), DO P ops J V ρ i l ss → l.length = ss.length ∧ ∀ k o, l[k]? = some o → ∃ s, ss[k]? = some s ∧
  (∀ v w w', V (i + k) v w → Below w.heap.size w w' → V (i + k) v w') ∧ ∀ ρ1 w1, J w1 → cS V ρ ρ1 w1 s → OG P ops o ρ1 w1 fun v w2 => Below w1.heap.size w1 w2 ∧ V (i + k) v w2
 | [], [], _, _ => ⟨rfl, fun k o h => by simp at h⟩
 | [], _ :: _, _, h => h.elim
 | _ :: _, [], _, h => h.elim
 | o :: l, s :: ss, i, h => by
  obtain ⟨h1, h2⟩ := DD l ss (i + 1) h.2;refine ⟨by simp [h1], fun k o' hk => ?_⟩
  cases k with
  | zero =>
   simp only [UX, T3] at hk;subst hk;exact ⟨s, rfl, h.1⟩
  | succ k =>
   obtain ⟨s', hs, h3⟩ := h2 k o' (by simpa using hk);refine ⟨s', by simpa using hs, ?_⟩;have e : i + 1 + k = i + (k + 1) := Sd;rw [e] at h3;exact h3
def k5 (ρ : Rf) (f : Nat → Value) : List (Nat × Nat) → Rf
 | [] => ρ
 | (i, d) :: r => cx (k5 ρ f r) d (f i)
def zj (V : Nat → Value → World → Prop) (f : Nat → Value) (w : World) : List (Nat × Nat) → Prop
 | [] => True
 | (i, _) :: r => V i (f i) w ∧ zj V f w r
def je (n k : Nat) : Array Bool := (List.replicate k true ++ List.replicate (n - k) false).toArray
def AM (l : List Oper) (m N : Nat) (src : List (List (Nat × Option Nat))) (ds : List (Nat × Nat)) : Bool :=
 let ops := l.toArray
 let pre := (List.range m).map fun i => ((ops[i]?).bind (·.dst))
 (m ≤ l.length) && (src.length == m) &&
 (ds == (pre.zipIdx.filterMap fun (d, i) => d.map fun d => (i, d)).reverse) && (decide (ds.map (·.2)).Nodup) && (ds.all fun p => p.2 < N) &&
 ((List.range m).all fun i => match ops[i]?, src[i]? with
  | some o, some s => ((o.looksAt ops).all fun t => s.any fun p => p.1 == t) &&
    s.all fun p => match p.2 with
     | some j => (j < m) && ((ops[j]?).bind (·.dst) == some p.1) && Le ops 16 i j
     | none => (List.range m).all fun j => !((ops[j]?).bind (·.dst) == some p.1) || (j != i && Le ops 16 j i)
  | _, _ => false) &&
 (l.length == m || ((List.range m).all fun i => Le ops 16 m i)) &&
 ((List.range (l.length - m)).all fun k => Region.ready .any ops (je l.length (m + k)) == [m + k]) && (Region.ready .any ops (je l.length l.length) == []) &&
 ((List.range (l.length - m)).all fun k => k == 0 || Le ops 16 (m + k) m) &&
 ((List.range l.length).all fun i => match ops[i]? with | some o => o.after.all fun e => !Region.binds .any e || e.on < i | none => false)
theorem D6 (n k i : Nat) : (je n k).getD i false = decide (i < k) := by
 unfold je;rw [Tn, UA]
 rcases S6 i k with h | h
 ·rw [UM (by simpa using h)];simp [h]
 ·rw [Tu (by simpa using h), List.getElem?_replicate];have : ¬ i < k := Sd;split <;> simp [this]
theorem Iq (n k : Nat) (hk : k < n) : (je n k).setIfInBounds k true = je n (k + 1) := by
 unfold je;rw [List.setIfInBounds_toArray];congr 1;apply S0;intro i;rw [Tz];simp only [List.getElem?_append, TP, List.getElem?_replicate, Sr];by_cases h1 : k = i
 ·subst h1;rw [Sj rfl, Sj Sd, Sj (show k < k + 1 by omega), Sj (show k < k + 1 by omega)]
 ·rw [Si h1];by_cases h2 : i < k
  ·rw [Sj h2, Sj h2, Sj (show i < k + 1 by omega), Sj (show i < k + 1 by omega)]
  ·rw [Si h2, Si (show ¬ i < k + 1 by omega)];by_cases h3 : i - k < n - k
   ·rw [Sj h3, Sj (show i - (k + 1) < n - (k + 1) by omega)]
   ·rw [Si h3, Si (show ¬ i - (k + 1) < n - (k + 1) by omega)]
theorem DY (n k : Nat) (hk : k ≤ n) : (je n k).size = n := by simp [je]; omega
theorem z8 (n k : Nat) : (je n k).toList.countP (fun b => b) = k := by
 simp [je, List.countP_replicate]
theorem vJ {L : Array Bool} (hs : L.size = n) (hk : k ≤ n) (h1 : ∀ i, i < k → L.getD i false = true) (h2 : ∀ i, k ≤ i → L.getD i false = false) : L = je n k := by
 apply Array.ext
 ·rw [hs, DY n k hk]
 ·intro i hi hi2;have e1 : L[i] = L.getD i false := by simp [hi]
  have e2 : (je n k)[i] = (je n k).getD i false := by simp [hi2]
  rw [e1, e2, D6 n k i]
  rcases S6 i k with h | h
  ·rw [h1 i h]; simp [h]
  ·rw [h2 i h];have : ¬ i < k := Sd;simp [this]
theorem n5 {l : List Oper} {Q' : Exit → Act → World → Prop} (m : Nat)
  (hr : ∀ k, m ≤ k → k < l.length → Region.ready .any l.toArray (je l.length k) = [k]) (hend : Region.ready .any l.toArray (je l.length l.length) = []) :
  ∀ (fuel k : Nat) (a : Act) (w : World), m ≤ k → k ≤ l.length → l.length ≤ fuel + k → wpList P l.toArray Q' (l.drop k) a w → wpAny P .any l.toArray Q' fuel (je l.length k) a w
 | fuel, k, a, w, hmk, hk, hf, h => by
  rcases S6 k l.length with hlt | hge
  ·cases fuel with
   | zero => omega
   | succ fuel =>
    refine wpAny_all (hr k hmk hlt) (by simp) fun i hi => ?_;obtain rfl : i = k := by simpa using hi
    rw [T4 hlt] at h;unfold wpList at h;have ho : l.toArray[i]? = some l[i] := by simp [hlt]
    have hset := Iq l.length i hlt;have hgo : ∀ a w, wpList P l.toArray Q' (l.drop (i + 1)) a w → wpAny P .any l.toArray Q' fuel ((je l.length i).setIfInBounds i true) a w := fun a w h => by
     rw [hset];exact n5 m hr hend fuel (i + 1) a w Sd Sd Sd h
    unfold wpOp;rw [ho];simp only [];split at h
    ·rename_i hw;rw [Sj hw];exact h.imp (Oper.wp_mono hgo) id
    ·rename_i hw;rw [Si hw];exact hgo _ _ h
  ·obtain rfl : k = l.length := Sd;rw [List.drop_length] at h;exact wpAny_done hend h fuel
structure DI (D : List Deferred) (N : Nat) (ops : Array Oper) (m : Nat) (ρ : Rf) (J : World → Prop) (V : Nat → Value → World → Prop) (L : Array Bool) (a : Act) (w : World) : Prop where
 nd : a.defers = D
 sz : a.tmps.size = N
 j : J w
 ls : L.size = ops.size
 cl : qg ops L
 tl : ∀ k, m ≤ k → L.getD k false = false
 vs : ∀ i d, i < m → L.getD i false = true → (ops[i]?).bind (·.dst) = some d → V i (a.tmps.getD d undef) w
 IK : ∀ s, (∀ i, i < m → L.getD i false = true → (ops[i]?).bind (·.dst) ≠ some s) → a.tmps.getD s undef = ρ s
theorem dx {L : Array Bool} {i : Nat} (hi : i < L.size) : (L.setIfInBounds i true).getD j false = (decide (j = i) || L.getD j false) := by
 rw [Tn, Array.getElem?_setIfInBounds];by_cases h : i = j
 ·subst h; simp [hi]
 ·have : ¬ j = i := fun e => h e.symm;simp [h, this]
theorem ea {a : Act} {d s : Nat} {v : Value} (hd : d < a.tmps.size) : (a.put (some d) v).tmps.getD s undef = if s = d then v else a.tmps.getD s undef := by
 by_cases h : s = d
 ·subst h; simp [Act.put, hd]
 ·have : d ≠ s := fun e => h e.symm;simp [Act.put, Array.getElem?_setIfInBounds_ne this, h]
theorem lM (f : Nat → Value) : ∀ (ds : List (Nat × Nat)) (s : Nat), (ds.map (·.2)).Nodup → (∀ i, (i, s) ∈ ds → k5 ρ f ds s = f i) ∧ ((∀ i, (i, s) ∉ ds) → k5 ρ f ds s = ρ s)
 | [], s, _ => ⟨fun i h => by simp at h, fun _ => rfl⟩
 | (j, d) :: r, s, h => by
  rw [SW, Uk] at h;obtain ⟨h1, h2⟩ := lM f r s h.2;constructor
  ·intro i hi
   rcases SH.1 hi with hi' | hi'
   ·injection hi' with e1 e2
    subst e1; subst e2;exact sG _ _ _
   ·have hne : s ≠ d := fun e => h.1 (e ▸ SB.2 ⟨_, hi', rfl⟩);exact (iH _ hne _).trans (h1 i hi')
  ·intro hn;have hne : s ≠ d := by
    rintro rfl;exact hn j Sq
   exact (iH _ hne _).trans (h2 fun i hi => hn i (SA _ hi))
theorem ru {V : Nat → Value → World → Prop} {f : Nat → Value} {w : World} : ∀ (ds : List (Nat × Nat)), (∀ p ∈ ds, V p.1 (f p.1) w) → zj V f w ds
 | [], _ => trivial
 | (i, d) :: r, h => ⟨h (i, d) Sq, ru r fun p hp => h p (SA _ hp)⟩
theorem oP {V : Nat → Value → World → Prop} {ρ1 : Rf} {w1 : World} : ∀ (s : List (Nat × Option Nat)), (∀ p ∈ s, match p.2 with | some j => V j (ρ1 p.1) w1 | none => ρ1 p.1 = ρ p.1) → cS V ρ ρ1 w1 s
 | [], _ => trivial
 | (t, some j) :: r, h => ⟨h (t, some j) Sq, oP r fun p hp => h p (SA _ hp)⟩
 | (t, none) :: r, h => ⟨h (t, none) Sq, oP r fun p hp => h p (SA _ hp)⟩
theorem I7 {id : Nat} {l : List Oper} (m : Nat) (src : List (List (Nat × Option Nat))) (ds : List (Nat × Nat)) (J : World → Prop) (V : Nat → Value → World → Prop) (hm : P.follows .mixedOrders = true) (hok : AM l m N src ds = true)
  (hJ : ∀ w w', J w → Below w.heap.size w w' → J w') (h0 : J w) (hops : DO P l.toArray J V ρ 0 (l.take m) src)
  (tail : ∀ f w', J w' → zj V f w' ds → WL ⟨none, D, false⟩ P N l.toArray Q (l.drop m) (k5 ρ f ds) w') : WC ⟨none, D, false⟩ P N (.region id l.toArray true) Q ρ w := by
 refine WC.n9 fun a hf => wp_region_any hm ?_;simp only [AM, SE, SJ, T0, SU, S1] at hok;obtain ⟨⟨⟨⟨⟨⟨⟨⟨⟨⟨hml, _⟩, hds⟩, hnd⟩, hdN⟩, hrd⟩, htail⟩, hready⟩, hend⟩, hdep⟩, hedge⟩ := hok;have hdo := (DD _ _ _ hops).2;have hpre : ∀ i d, i < m → ((l.toArray[i]?).bind (·.dst)) = some d → (i, d) ∈ ds := fun i d hi hd => by
  exact MI
 have hdsm : ∀ i d, (i, d) ∈ ds → i < m ∧ ((l.toArray[i]?).bind (·.dst)) = some d := fun i d hp => by
  exact Mh
 have hone : ∀ i j d, i < m → j < m → ((l.toArray[i]?).bind (·.dst)) = some d → ((l.toArray[j]?).bind (·.dst)) = some d → i = j := fun i j d hi hj h1 h2 => by
  exact Ng
 have hnn : l.toArray.size = l.length := by simp
 have full : ∀ (L : Array Bool) (a : Act) (w : World) (fuel : Nat), DI D N l.toArray m ρ J V L a w → (∀ i, i < m → L.getD i false = true) → l.length ≤ fuel + m → wpAny P .any l.toArray (fp N D Q) fuel L a w := by
  intro L a w fuel hI hall hfu;have hL : L = je l.length m := vJ (by rw [hI.ls, hnn]) hml hall hI.tl;rw [hL];refine n5 m (fun k h1 h2 => ?_) hend fuel m a w (So _) hml hfu ?_
  ·have := hready (k - m) Sd;rwa [show m + (k - m) = k by omega] at this
  ·have hfits : eG N D a (k5 ρ (fun i => match (l.toArray[i]?).bind (·.dst) with | some d => a.tmps.getD d undef | none => undef) ds) := by
    exact NO
   refine (tail _ w hI.j (ru ds fun p hp => ?_)).out a hfits;obtain ⟨h1, h2⟩ := hdsm p.1 p.2 hp;have := hI.vs p.1 p.2 h1 (hall _ h1) h2;rw [h2];exact this
 have key : ∀ (fuel : Nat) (L : Array Bool) (a : Act) (w : World), DI D N l.toArray m ρ J V L a w → fuel + L.toList.countP (fun b => b) = l.length → wpAny P .any l.toArray (fp N D Q) fuel L a w := by
  intro fuel
  induction fuel with
  | zero =>
   exact Oi
  | succ fuel ih =>
   intro L a w hI hc;by_cases hall : ∀ i, i < m → L.getD i false = true
   ·exact O4
   ·have hsome : ∃ i, i < m ∧ L.getD i false = false := by
     exact N0
    have hready_spec : ∀ i, i ∈ Region.ready .any l.toArray L ↔ i < l.length ∧ L.getD i true = false ∧ ∃ o, l.toArray[i]? = some o ∧ ∀ e ∈ o.after, Region.binds .any e = true → L.getD e.on false = true := fun i => by
     exact Nc
    refine ⟨fun hnil => ?_, fun i hi => ?_⟩
    ·exact Pm
    ·obtain ⟨hil, hun, o, ho, hed⟩ := (hready_spec i).1 hi;have hiL : i < L.size := by rw [hI.ls, hnn]; exact hil
     have hun' : L.getD i false = false := by
      exact Nh
     have hed' : ∀ o', l.toArray[i]? = some o' → ∀ e ∈ o'.after, Region.binds .any e = true → L.getD e.on false = true := fun o' ho' => by
      exact Nq
     have him : i < m := by
      rcases S6 i m with h | h
      ·exact h
      ·exfalso
       rcases S6 m i with h2 | h2
       ·have h3 := hdep (i - m) Sd;rw [show m + (i - m) = i by omega] at h3;have h4 : (i - m == 0) = false := by simp; omega
        rw [h4, Tf] at h3;have := mv hI.cl 16 i m hed' h3;rw [hI.tl m (So _)] at this
        cases this
       ·obtain rfl : i = m := Sd;have h4 : (l.length == i) = false := by simp; omega
        rw [h4, Tf] at htail;have h5 := SU.1 htail;obtain ⟨j, hj, hju⟩ := hsome;have := mv hI.cl 16 i j hed' (h5 j (by simpa using hj));rw [hju] at this
        cases this
     have hok' : (l.take m)[i]? = some o := by
      rw [Ul, Sj him];simpa using ho
     obtain ⟨s, hs, hstab, hog⟩ := hdo i o hok';rw [SM] at hstab hog;have hrdi := hrd i him;rw [ho, hs] at hrdi;simp only [SE, SU] at hrdi;have hro : cS V ρ (fun t => a.tmps.getD t undef) w s := oP s fun p hp => by
      have hp2 := hrdi.2 p hp
      cases hp3 : p.2 with
      | some j =>
       rw [hp3] at hp2;simp only [SE, SJ, T0] at hp2;exact hI.vs j p.1 hp2.1.1 (mv hI.cl 16 i j hed' hp2.2) hp2.1.2
      | none =>
       rw [hp3] at hp2;refine hI.IK p.1 fun j hj hjl hjd => ?_;have h6 := SU.1 hp2 j (by simpa using hj);rw [hjd] at h6;simp only [beq_self_eq_true, Bool.not_true, Tf, SE] at h6;have := mv hI.cl 16 j i (fun o' ho' e he hb => hI.cl j o' ho' hjl e he hb) h6.2;rw [hun'] at this
       cases this
     have hgo := (hog _ w hI.j hro).out a (wpAny P .any l.toArray (fp N D Q) fuel (L.setIfInBounds i true)) (fp N D Q) (fun _ => rfl) (fun v w2 hv => by
      refine ih _ _ _ ?_ ?_
      ·refine ⟨?_, ?_, hJ _ _ hI.j hv.1, by simpa using hI.ls, ?_, ?_, ?_, ?_⟩
       ·cases o.dst <;> exact hI.nd
       ·cases hod : o.dst with
        | none => exact hI.sz
        | some d => simpa [Act.put] using hI.sz
       ·intro k ok hk hkl e he hb;rw [dx hiL] at hkl ⊢;by_cases hki : k = i
        ·subst hki;simp [hed' ok hk e he hb]
        ·simp only [hki, decide_false, Tf] at hkl;simp [hI.cl k ok hk hkl e he hb]
       ·intro k hk;rw [dx hiL, hI.tl k hk];have : ¬ k = i := Sd;simp [this]
       ·intro j d hj hjl hjd;rw [dx hiL] at hjl;have hd1 : ∀ d', o.dst = some d' → d' < a.tmps.size := fun d' hd' => by
         rw [hI.sz];exact hdN (i, d') (hpre i d' him (by rw [ho]; exact hd'))
        by_cases hji : j = i
        ·subst hji;rw [ho] at hjd;simp only [Us] at hjd;rw [hjd, ea (hd1 d hjd), Sj rfl];exact hv.2
        ·simp only [hji, decide_false, Tf] at hjl;have hold := hI.vs j d hj hjl hjd;have hdj : (j, d) ∈ ds := hpre j d hj hjd;have hst := (hdo j (l.toArray[j]?.getD default) (by
          have : j < l.length := Sd;rw [Ul, Sj hj];simp [this])).choose_spec.2.1
         rw [SM] at hst;have hne : ∀ d', o.dst = some d' → d ≠ d' := fun d' hd' e => by
          subst e;exact hji (hone j i d hj him hjd (by rw [ho]; exact hd'))
         cases hod : o.dst with
         | none => exact hst _ _ _ hold hv.1
         | some d' =>
          rw [ea (hd1 d' hod), Si (hne d' hod)];exact hst _ _ _ hold hv.1
       ·intro s' hs';have hni : ((l.toArray[i]?).bind (·.dst)) ≠ some s' := hs' i him (by rw [dx hiL]; simp);have hold := hI.IK s' fun j hj hjl => hs' j hj (by rw [dx hiL]; simp [hjl]);rw [ho] at hni;simp only [Us] at hni
        cases hod : o.dst with
        | none => exact hold
        | some d' =>
         rw [ea (by rw [hI.sz]; exact hdN (i, d') (hpre i d' him (by rw [ho]; exact hod))), Si (fun e => hni (by rw [hod, e]))];exact hold
      ·have hLi : L.toList[i]? = some false := by
        have h3 : i < L.toList.length := by simpa using hiL
        rw [Ts h3];have : L.getD i false = L.toList[i] := by simp [hiL]
        rw [← this, hun']
       rw [Array.toList_setIfInBounds, List.countP_set (by simpa using hiL)];have h4 : L.toList[i]'(by simpa using hiL) = false := (SC.1 hLi).2;rw [h4];simp only [Vd, if_false, if_true];omega)
     unfold wpOp;rw [ho];exact hgo
 have hJ0 : J ({ w with drawn := w.drawn + 1 } : World) := hJ w _ h0 ⟨rfl, rfl, rfl, So _, fun _ _ => rfl⟩;have hr0 : ∀ i, (Array.replicate l.toArray.size false).getD i false = false := fun i => by
  rw [Tn, Array.getElem?_replicate]; split <;> rfl
 refine key _ _ _ _ ⟨hf.nd, hf.sz, hJ0, by simp, fun k o _ hk => ?_, fun k _ => hr0 k, fun i d _ hi => ?_, fun s _ => hf.at_ s⟩ ?_
 ·rw [hr0] at hk; cases hk
 ·rw [hr0] at hi; cases hi
 ·simp [List.countP_replicate]
def Is (c : Value) : Value → World → Prop := fun v _ => v = c
theorem Is.ext {c : Value} (v : Value) (w w' : World) (h : Is c v w) (_ : Below w.heap.size w w') : Is c v w' := h
structure JJ (w0 : World) (H : List HE) (w W : World) : Prop where
 hp : Hp w0 H W
 bl : Below w.heap.size w W
theorem JJ.ext {H : List HE} {W' : World} (h : JJ w0 H w W) (hb : Below W.heap.size W W') : JJ w0 H w W' := ⟨h.hp.ext hb, h.bl.trans (hb.mono h.bl.size)⟩
theorem JJ.start {H : List HE} (h : Hp w0 H w) : JJ w0 H w w := ⟨h, Below.refl _ _⟩
def Oy (n k : Nat) (cs : List Value) : Value → World → Prop := fun v W => ∃ b, v = .slice (some ⟨b, 0, none⟩) n n ∧ Sl W (some ⟨b, 0, none⟩) n k cs
def di (w : World) (t : TypeId) (cs : List Value) : Value → World → Prop := fun v W => ∃ b, v = .pointer (some ⟨b, 0, none⟩) ∧ w.heap.size ≤ b ∧ W.heap[b]? = some (.cells cs.toArray t (0, 0))
theorem di.ext {t : TypeId} (v : Value) (w1 w2 : World) (h : di w t cs v w1) (hb : Below w1.heap.size w1 w2) : di w t cs v w2 := by
 obtain ⟨b, h1, h2, h3⟩ := h;have hlt : b < w1.heap.size := by
  rcases S6 b w1.heap.size with hlt | hge
  ·exact hlt
  ·rw [U5 hge] at h3; cases h3
 exact ⟨b, h1, h2, (hb.block b hlt).trans h3⟩
theorem kn {d : Option Nat} {ty : TypeId} {af : Array Edge} {t e : TypeId} {len sz : Nat} (ht : P.underlying t = some (.slice e)) (hte : dk P e = some (sz, ag, by', zc))
  (hp : yb ρ parts.toList = ps) (hzl : zc.length = sz) (hf : kz (fun i => some (i * sz, sz)) (gd len zc) ps = some cs) (h0 : ¬ len * sz = 0) (hsl : len * sz ≤ 16777216) (hl : cs.length = len * sz)
  (hk : ∀ v w2, Oy len sz cs v w2 → Below w.heap.size w w2 → K v w2) : OG P ops ⟨d, .buildSlice t len parts, ty, pos, af, none⟩ ρ w K := by
 obtain ⟨z, hz, hzc⟩ := dY (w := w) hte;have hbl : Below w.heap.size w (w.alloc (.cells cs.toArray e)) := (Below.refl _ _).alloc (So _) _;refine gK rfl (w' := w.alloc (.cells cs.toArray e)) (v := .slice (some ⟨w.heap.size, 0, none⟩) len len) ?_ (hk _ _ ⟨w.heap.size, rfl, hl, fun _ => ⟨_, rfl, fun j u hu => ?_⟩⟩ hbl)
 ·exact O8
 ·rw [eC, SM, cell_of_row _ w.heap.size j cs.toArray e (0, 0) (heap_alloc_new w _)];simpa using hu
theorem jU {d : Option Nat} {ty : TypeId} {af : Array Edge} {t : TypeId} {wr : World} (ht : dk P t = some (n, ag, by', zc)) (hb : Below wr.heap.size wr w)
  (hk : ∀ v w2, di wr t zc v w2 → Below w.heap.size w w2 → K v w2) : OG P ops ⟨d, .alloc t, ty, pos, af, none⟩ ρ w K := by
 obtain ⟨z, hz, hzc⟩ := dY (w := w) ht;exact gK rfl (w' := w.alloc (.cells zc.toArray t)) (v := .pointer (some ⟨w.heap.size, 0, none⟩)) (by simp [execOp, Instr.alloc, newVar, newRow, hz, hzc]) (hk _ _ ⟨w.heap.size, rfl, hb.size, heap_alloc_new w _⟩ ((Below.refl _ _).alloc (So _) _))
theorem JJ.newVar {H : List HE} {t : TypeId} {b : Nat} (h : JJ w0 H w W) (hs : Hp w0 H w) (h2 : w.heap.size ≤ b) (h3 : W.heap[b]? = some (.cells cs.toArray t (0, 0))) : Hp w0 (.blk b t cs (0, 0) :: H) W := by
 refine ⟨h.hp.below, ?_, ?_⟩
 ·intro y hy
  rcases SH.1 hy with rfl | hy
  ·exact ⟨SK hs.size h2, h3, .inr (So _)⟩
  ·exact h.hp.own y hy
 ·rw [Ux];show (b :: H.filterMap HE.id).Nodup;refine Uk.2 ⟨fun hm => ?_, h.hp.nd⟩;obtain ⟨y, hy, hyb⟩ := Tq.1 hm;have := (dX (hs.own y hy) hyb).2;omega
end
section
abbrev VP := Value → World → Prop
def ep (pv : Nat → VP) (i : Nat) (V : VP) : Nat → VP := fun j => cond (Nat.beq j i) V (pv j)
def QC : Nat → VP := fun _ _ _ => True
def DX (P : Program) (ops : Array Oper) (J : World → Prop) (ρ : Rf) (T : (Nat → VP) → Prop) : Nat → (Nat → VP) → List Oper → List (List (Nat × Option Nat)) → Prop
 | i, pv, o :: os, s :: ss => ∃ V : VP, (∀ v w w', V v w → Below w.heap.size w w' → V v w') ∧ (∀ ρ1 w1, J w1 → cS pv ρ ρ1 w1 s → OG P ops o ρ1 w1 fun v w2 => Below w1.heap.size w1 w2 ∧ V v w2) ∧ DX P ops J ρ T (i + 1) (ep pv i V) os ss
 | _, pv, [], [] => T pv
 | _, _, _, _ => False
theorem JZ (pv : Nat → VP) (i : Nat) (V : VP) : ep pv i V i = V := by simp [ep]
theorem wF (pv : Nat → VP) {i : Nat} (V : VP) (h : j ≠ i) : ep pv i V j = pv j := by
 have : Nat.beq j i = false := by rw [U8]; intro h2; exact h (Nat.eq_of_beq_eq_true h2)
 simp only [ep, this, cond_false]
theorem pL {V V' : Nat → VP} {ρ ρ1 : Rf} {w1 : World} (h : ∀ j v w, V j v w → V' j v w) : ∀ s, cS V ρ ρ1 w1 s → cS V' ρ ρ1 w1 s
 | [], _ => trivial
 | (_, some _) :: r, hh => ⟨h _ _ _ hh.1, pL h r hh.2⟩
 | (_, none) :: r, hh => ⟨hh.1, pL h r hh.2⟩
theorem C2 {P : Program} {ops : Array Oper} {J : World → Prop} {ρ : Rf} {T : (Nat → VP) → Prop} : ∀ (os : List Oper) (ss : List (List (Nat × Option Nat))) (i : Nat) (pv : Nat → VP), (∀ j, i ≤ j → ∀ v w, pv j v w) → DX P ops J ρ T i pv os ss →
  ∃ V, (∀ j, j < i → V j = pv j) ∧ DO P ops J V ρ i os ss ∧ T V
 | [], [], _, pv, _, h => ⟨pv, fun _ _ => rfl, trivial, h⟩
 | [], _ :: _, _, _, _, h => h.elim
 | _ :: _, [], _, _, _, h => h.elim
 | o :: os, s :: ss, i, pv, hpv, ⟨V, h1, h2, h3⟩ => by
  obtain ⟨V', h4, h5, h6⟩ := C2 os ss (i + 1) (ep pv i V) (fun j hj v w => by rw [wF _ _ Sd]; exact hpv j Sd v w) h3;have e : V' i = V := by rw [h4 i Sd, JZ]
  refine ⟨V', fun j hj => by rw [h4 j Sd, wF _ _ Sd], ⟨⟨?_, ?_⟩, h5⟩, h6⟩
  ·rw [e]; exact h1
  ·intro ρ1 w1 hj hr;rw [e];refine h2 ρ1 w1 hj (pL (fun j v w hh => ?_) s hr)
   rcases S6 j i with hlt | hge
   ·rw [h4 j Sd, wF _ _ Sd] at hh; exact hh
   ·exact hpv j hge v w
theorem aU {Q : Kq} {id : Nat} {l : List Oper} (m : Nat) (src : List (List (Nat × Option Nat))) (ds : List (Nat × Nat)) {H : List HE} (hh : Hp w0 H w) (hm : P.follows .mixedOrders = true) (hok : AM l m N src ds = true)
  (h : DX P l.toArray (JJ w0 H w) ρ (fun V => ∀ f w', JJ w0 H w w' → zj V f w' ds → WL ⟨none, D, false⟩ P N l.toArray Q (l.drop m) (k5 ρ f ds) w') 0 QC (l.take m) src) : WC ⟨none, D, false⟩ P N (.region id l.toArray true) Q ρ w := by
 obtain ⟨V, _, h1, h2⟩ := C2 _ _ _ _ (fun _ _ _ _ => trivial) h;exact I7 m src ds (JJ w0 H w) V hm hok (fun _ _ h hb => h.ext hb) (JJ.start hh) h1 h2
variable {P : Program} {ops : Array Oper} {J : World → Prop} {ρ : Rf} {T : (Nat → VP) → Prop} {i : Nat} {pv : Nat → VP} {os : List Oper} {s : List (Nat × Option Nat)} {ss : List (List (Nat × Option Nat))} {d : Option Nat} {op : Op} {ty : TypeId} {pos : String} {af : Array Edge}
theorem aR (h : T pv) : DX P ops J ρ T i pv [] [] := h
theorem a8 (V : VP) (h1 : ∀ v w w', V v w → Below w.heap.size w w' → V v w') (h2 : ∀ ρ1 w1, J w1 → cS (pv) ρ ρ1 w1 s → OG P ops o ρ1 w1 fun v w2 => Below w1.heap.size w1 w2 ∧ V v w2)
  (k : DX P ops J ρ T (i + 1) (ep pv i (V)) os ss) : DX P ops J ρ T i pv (o :: os) (s :: ss) := ⟨V, h1, h2, k⟩
theorem bB {v : Value} (hr : ∀ ρ1 w1, J w1 → cS (pv) ρ ρ1 w1 s → (execOp (ev ρ1) ⟨d, op, ty, pos, af, none⟩).run P w1 = .ok (.value v) w1)
  (k : DX P ops J ρ T (i + 1) (ep pv i (Is v)) os ss) : DX P ops J ρ T i pv (⟨d, op, ty, pos, af, none⟩ :: os) (s :: ss) :=
 a8 (Is v) Is.ext (fun ρ1 w1 hj h => gK rfl (hr ρ1 w1 hj h) ⟨Below.refl _ _, rfl⟩) k
theorem Jv {v : Value} {f : FuncId} {args : Array Value} (hr : ∀ ρ1 w1, J w1 → cS (pv) ρ ρ1 w1 s → (execOp (ev ρ1) ⟨d, op, ty, pos, af, none⟩).run P w1 = .ok (.enter f args) w1)
  (hc : ∀ w1, J w1 → Calls P f args w1 fun e w' => e = .returned v ∧ Below w1.heap.size w1 w')
  (k : DX P ops J ρ T (i + 1) (ep pv i (Is v)) os ss) : DX P ops J ρ T i pv (⟨d, op, ty, pos, af, none⟩ :: os) (s :: ss) :=
 a8 (Is v) Is.ext (fun ρ1 w1 hj h => bA rfl (hr ρ1 w1 hj h) (hc w1 hj) fun _ _ hq => ⟨v, hq.1, hq.2, rfl⟩) k
def Rows (n k : Nat) (cs : List Value) : VP := fun v W => ∃ A c, v = .slice A n c ∧ Sl W A n k cs
theorem Rows.ext (v : Value) (w w' : World) (h : Rows n k cs v w) (hb : Below w.heap.size w w') : Rows n k cs v w' := let ⟨A, c, h1, h2⟩ := h; ⟨A, c, h1, h2.ext hb⟩
theorem tX {t e : TypeId} {len sz : Nat} (ht : P.underlying t = some (.slice e)) (hte : dk P e = some (sz, ag, by', zc))
  (hp : ∀ ρ1 w1, J w1 → cS (pv) ρ ρ1 w1 s → yb ρ1 parts.toList = ps) (hzl : zc.length = sz) (hf : kz (fun i => some (i * sz, sz)) (gd len zc) ps = some cs) (h0 : ¬ len * sz = 0) (hsl : len * sz ≤ 16777216) (hl : cs.length = len * sz)
  (k : DX P ops J ρ T (i + 1) (ep pv i (Rows len sz cs)) os ss) : DX P ops J ρ T i pv (⟨d, .buildSlice t len parts, ty, pos, af, none⟩ :: os) (s :: ss) :=
 a8 (Rows len sz cs) Rows.ext (fun ρ1 w1 hj h => kn ht hte (hp ρ1 w1 hj h) hzl hf h0 hsl hl fun _ _ ⟨_, hv, hs⟩ hb => ⟨hb, _, _, hv, hs⟩) k
theorem DL {b : Bool} {v : Value} (hj : (ops[j]?).bind (·.dst) = some dj) (hv : ∀ ρ1 w1, J w1 → cS (pv) ρ ρ1 w1 s → ρ1 dj = .bool b)
  (hr : ∀ ρ1 w1, J w1 → cS (pv) ρ ρ1 w1 s → (execOp (ev ρ1) ⟨d, op, ty, pos, af, none⟩).run P w1 = .ok (.value v) w1)
  (k : DX P ops J ρ T (i + 1) (ep pv i (Is v)) os ss) : DX P ops J ρ T i pv (⟨d, op, ty, pos, af, some (j, b)⟩ :: os) (s :: ss) :=
 a8 (Is v) Is.ext (fun ρ1 w1 hj' h => bV hj (hv ρ1 w1 hj' h) (gK rfl (hr ρ1 w1 hj' h) ⟨Below.refl _ _, rfl⟩)) k
theorem pg {b : Bool} {v : Value} {f : FuncId} {args : Array Value} (hj : (ops[j]?).bind (·.dst) = some dj) (hv : ∀ ρ1 w1, J w1 → cS (pv) ρ ρ1 w1 s → ρ1 dj = .bool b)
  (hr : ∀ ρ1 w1, J w1 → cS (pv) ρ ρ1 w1 s → (execOp (ev ρ1) ⟨d, op, ty, pos, af, none⟩).run P w1 = .ok (.enter f args) w1)
  (hc : ∀ w1, J w1 → Calls P f args w1 fun e w' => e = .returned v ∧ Below w1.heap.size w1 w')
  (k : DX P ops J ρ T (i + 1) (ep pv i (Is v)) os ss) : DX P ops J ρ T i pv (⟨d, op, ty, pos, af, some (j, b)⟩ :: os) (s :: ss) :=
 a8 (Is v) Is.ext (fun ρ1 w1 hj' h => bV hj (hv ρ1 w1 hj' h) (bA rfl (hr ρ1 w1 hj' h) (hc w1 hj') fun _ _ hq => ⟨v, hq.1, hq.2, rfl⟩)) k
theorem wZ {b c : Bool} (hj : (ops[j]?).bind (·.dst) = some dj) (hv : ∀ ρ1 w1, J w1 → cS (pv) ρ ρ1 w1 s → ρ1 dj = .bool c) (hb : c ≠ b)
  (k : DX P ops J ρ T (i + 1) (ep pv i (Is undef)) os ss) : DX P ops J ρ T i pv (⟨d, op, ty, pos, af, some (j, b)⟩ :: os) (s :: ss) :=
 a8 (Is undef) Is.ext (fun ρ1 w1 hj' h => uk hj (hv ρ1 w1 hj' h) hb ⟨Below.refl _ _, rfl⟩) k
end
end
def aw {α : Type} (f : α → List Value) (l : List α) : List Value := l.flatMap f
section
variable {α : Type} {f : α → List Value} {sz : Nat}
theorem dZ (hf : ∀ x, (f x).length = sz) (l : List α) : (aw f l).length = l.length * sz := by
 induction l with
 | nil => simp [aw]
 | cons x l ih =>
  have : aw f (x :: l) = f x ++ aw f l := by simp [aw]
  rw [this, Sr, hf, ih, SG, Tl]; omega
theorem iL (x : α) (l : List α) : aw f (x :: l) = f x ++ aw f l := by simp [aw]
theorem cA (l m : List α) : aw f (l ++ m) = aw f l ++ aw f m := by simp [aw]
theorem sy (x : α) : aw f [x] = f x := by simp [aw]
theorem kA (hf : ∀ x, (f x).length = sz) (l : List α) (k : Nat) : (aw f l).drop (k * sz) = aw f (l.drop k) := by
 induction l generalizing k with
 | nil => simp [aw]
 | cons x l ih =>
  cases k with
  | zero => simp
  | succ k => rw [iL, Tl, Uj, ← hf x, List.drop_append, List.drop_succ_cons, ← ih k, hf x]; simp [hf x]
theorem mE (hf : ∀ x, (f x).length = sz) (l : List α) (k : Nat) : (aw f l).take (k * sz) = aw f (l.take k) := by
 induction l generalizing k with
 | nil => simp [aw]
 | cons x l ih =>
  cases k with
  | zero => simp [aw]
  | succ k => rw [iL, Tl, Uj, List.take_succ_cons, iL, ← ih k, ← hf x, List.take_append]; simp; exact Su (Nat.le_add_right _ _)
theorem tQ (hf : ∀ x, (f x).length = sz) {l : List α} {x : α} (h : l[k]? = some x) : ((aw f l).drop (k * sz)).take sz = f x := by
 obtain ⟨h1, h2⟩ := SC.1 h;rw [kA hf, T4 h1, h2, iL, List.take_append_of_le_length (by rw [hf]; omega), Su (by rw [hf]; omega)]
theorem Rd.recAt {l : List α} (h : Rd w ad (aw f l)) (hf : ∀ x, (f x).length = sz) {x : α} (hx : l[k]? = some x) : Rd w (ad.add (k * sz)) (f x) := by
 have := h.elem k sz;rwa [tQ hf hx] at this
theorem Sl.bz {A : Option Addr} {l : List α} (h : Sl w A n sz (aw f l)) (hf : ∀ x, (f x).length = sz) (h0 : 0 < sz) : l.length = n := by
 have := h.1;rw [dZ hf] at this;exact Nat.eq_of_mul_eq_mul_right h0 this
theorem dO (hf : ∀ x, (f x).length = sz) {l : List α} {y : α} (h : k < l.length) : bM (aw f l) (k * sz) (f y) = aw f (l.set k y) := by
 unfold bM;rw [mE hf, hf, ← Tl, kA hf, Vs, Sj h, cA, iL, S5]
theorem cw (h : ∀ x, (f x).all Value.oneCell' = true) (l : List α) : ((aw f l).all Value.oneCell') = true := by
 rw [SU];intro v hv;obtain ⟨x, _, hx⟩ := Uw.1 hv;exact SU.1 (h x) v hx
end
theorem gE {l : List α} {x : α} (h : l[k]? = some x) : l.drop k = x :: l.drop (k + 1) := by
 obtain ⟨h1, rfl⟩ := SC.1 h;exact T4 h1
theorem iQ {p : α → Bool} {l : List α} (h : l.any p = false) : l.find? p = none := by
 rw [List.find?_eq_none];intro x hx;have := TA.1 h x hx;simpa using this
theorem uS {p : α → Bool} {l : List α} {i : Nat} {x : α} (h : (l.take i).any p = false) (hx : l[i]? = some x) (hp : p x = true) : l.find? p = some x := by
 have : l = l.take i ++ x :: l.drop (i + 1) := by rw [← gE hx, To]
 rw [this, List.find?_append, iQ h, List.find?_cons_of_pos hp]
 rfl
section
variable {D : List Deferred}
section
variable {P : Program} {N : Nat} {Q : Kq} {ρ : Rf} {w : World}
def nk (acc : List Nat) : List Edge → Nat
 | [] => 0
 | e :: r => bif Region.binds .any e then 1 <<< e.on ||| acc.getD e.on 0 ||| nk acc r else nk acc r
def r7 : List Oper → List Nat → List Nat
 | [], acc => acc
 | o :: r, acc => r7 r (acc ++ [nk acc o.after.toList])
theorem nN {acc : List Nat} {i : Nat} : ∀ {es : List Edge}, (nk acc es).testBit i = true → ∃ e ∈ es, Region.binds .any e = true ∧ (e.on = i ∨ (acc.getD e.on 0).testBit i = true)
 | [], h => by simp [nk] at h
 | e :: r, h => by
  unfold nk at h
  cases hb : Region.binds .any e with
  | false =>
   rw [hb, cond_false] at h;obtain ⟨e', h1, h2⟩ := nN h;exact ⟨e', SA _ h1, h2⟩
  | true =>
   rw [hb, cond_true, Nat.testBit_or, Nat.testBit_or, Uu, Uu] at h
   rcases h with (h | h) | h
   ·refine ⟨e, Sq, hb, .inl ?_⟩;rw [Nat.one_shiftLeft, Nat.testBit_two_pow] at h;simpa using h
   ·exact ⟨e, Sq, hb, .inr h⟩
   ·obtain ⟨e', h1, h2⟩ := nN h;exact ⟨e', SA _ h1, h2⟩
theorem zK : ∀ (l : List Oper) (acc : List Nat), ∃ t, r7 l acc = acc ++ t
 | [], acc => ⟨[], by simp [r7]⟩
 | o :: r, acc => by
  obtain ⟨t, h⟩ := zK r (acc ++ [nk acc o.after.toList]);exact ⟨_, by rw [r7, h, S5]⟩
theorem B3 : ∀ (l : List Oper) (acc : List Nat) (k i : Nat), acc.length ≤ k → ((r7 l acc).getD k 0).testBit i = true → ∃ o, l[k - acc.length]? = some o ∧ ∃ e ∈ o.after, Region.binds .any e = true ∧ (e.on = i ∨ e.on < k ∧ ((r7 l acc).getD e.on 0).testBit i = true)
 | [], acc, k, i, hk, h => by
  rw [r7, TC, Sw hk] at h;simp at h
 | o :: r, acc, k, i, hk, h => by
  rcases S6 acc.length k with hlt | hge
  ·have hl : (acc ++ [nk acc o.after.toList]).length = acc.length + 1 := by simp
   obtain ⟨o', h1, h2⟩ := B3 r (acc ++ [nk acc o.after.toList]) k i Sd h;refine ⟨o', ?_, h2⟩;rw [hl] at h1;rw [show k - acc.length = (k - (acc.length + 1)) + 1 by omega, UR];exact h1
  ·obtain rfl : k = acc.length := Sd;obtain ⟨t, ht⟩ := zK r (acc ++ [nk acc o.after.toList]);refine ⟨o, by rw [Td]; rfl, ?_⟩;rw [r7, ht] at h ⊢;rw [TC, S5, Tu (So _), Td] at h;simp only [Sv, UX, TM, Ss] at h;obtain ⟨e, h1, h2, h3⟩ := nN h;refine ⟨e, by simpa using h1, h2, ?_⟩
   rcases h3 with h3 | h3
   ·exact .inl h3
   ·have h4 : e.on < acc.length := by
     rcases S6 e.on acc.length with h5 | h5
     ·exact h5
     ·rw [TC, Sw h5] at h3; simp at h3
    refine .inr ⟨h4, ?_⟩;rw [TC, S5, UM h4, ← TC];exact h3
theorem jS {l : List Oper} {M : List Nat} {L : Array Bool} (hM : r7 l [] = M) (hc : qg l.toArray L) : ∀ (k i : Nat), (∀ o, l.toArray[k]? = some o → ∀ e ∈ o.after, Region.binds .any e = true → L.getD e.on false = true) → (M.getD k 0).testBit i = true → L.getD i false = true := by
 intro k
 induction k using Nat.strongRecOn with
 | _ k ih =>
  intro i hk h;rw [← hM] at h;obtain ⟨o, ho, e, he, hb, h3⟩ := B3 l [] k i (Sn _) h;have ho' : l.toArray[k]? = some o := by rw [UA]; exact ho
  have h1 := hk o ho' e he hb
  rcases h3 with h3 | ⟨h3, h4⟩
  ·rw [← h3]; exact h1
  ·rw [hM] at h4;exact ih e.on h3 i (fun o' ho2 => hc e.on o' ho2 h1) h4
def P3 (n m : Nat) (fl : List Nat) : Array Bool := ((List.range n).map fun i => decide (i < m ∧ i ∉ fl)).toArray
theorem Hu {i : Nat} {fl : List Nat} (hi : i < n) : (P3 n m fl).getD i true = decide (i < m ∧ i ∉ fl) := by
 unfold P3;rw [Tn, UA, St, S8 hi]
 rfl
def NP (Q : Kq) : Prop := ∀ c ρ w, ¬ Q (.panic c) ρ w
theorem bT {fn : Func} : NP (mn P fn R) := fun _ _ _ h => h.1.elim nofun nofun
theorem bG (h : NP Q) : NP (dR next Q) := fun c ρ w hq => h c ρ w hq
theorem bW {id : Nat} (h : NP Q) : NP (pZ id Q) := fun c ρ w hq => h c ρ w hq
def sP : Op → Bool
 | .extract _ _ => true
 | .move _ => true
 | _ => false
def Nz (l : List Oper) (m : Nat) (fl : List Nat) (i : Nat) : Bool :=
 Region.free .any l.toArray (P3 l.length m fl) i && match l[i]? with
  | some ⟨some _, op, _, _, af, none⟩ => sP op && af.all fun e => !Region.binds .any e || (decide (e.on < m) && !fl.contains e.on)
  | _ => false
theorem EO {l : List Oper} {fl : List Nat} {i : Nat} (h : Nz l m fl i = true) : Region.free .any l.toArray (P3 l.length m fl) i = true ∧ (∀ o, l[i]? = some o → ∀ e ∈ o.after, Region.binds .any e = true → e.on < m ∧ e.on ∉ fl) ∧
  ∃ d op ty pos af, l[i]? = some ⟨some d, op, ty, pos, af, none⟩ ∧ sP op = true := by
 unfold Nz at h;rw [SE] at h;obtain ⟨h1, h2⟩ := h;split at h2
 ·rename_i d op ty pos af ho;rw [SE] at h2;obtain ⟨hpu, h2⟩ := h2;refine ⟨h1, fun o ho' e he hb => ?_, d, op, ty, pos, af, ho, hpu⟩;rw [ho] at ho';injection ho' with ho'
  subst ho';have := Vt.1 h2 e he;simp only [hb, Bool.not_true, Tf, SE, SJ, Vr, List.contains_eq_mem, Vv] at this;exact this
 ·cases h2
def xr (l : List Oper) (m N : Nat) (src : List (List (Nat × Option Nat))) (ds : List (Nat × Nat)) (fl M : List Nat) : Bool :=
 let ops := l.toArray
 let pre := (List.range m).map fun i => ((ops[i]?).bind (·.dst))
 (m ≤ l.length) && (src.length == m) &&
 (ds == (pre.zipIdx.filterMap fun (d, i) => d.map fun d => (i, d)).reverse) && (decide (ds.map (·.2)).Nodup) && (ds.all fun p => p.2 < N) &&
 ((List.range m).all fun i => match ops[i]?, src[i]? with
  | some o, some s => ((o.looksAt ops).all fun t => s.any fun p => p.1 == t) &&
    s.all fun p => match p.2 with
     | some j => (j < m) && ((ops[j]?).bind (·.dst) == some p.1) && (M.getD i 0).testBit j
     | none => (List.range m).all fun j => !((ops[j]?).bind (·.dst) == some p.1) || (j != i && (M.getD j 0).testBit i)
  | _, _ => false) &&
 (l.length == m || ((List.range m).all fun i => fl.contains i || (M.getD m 0).testBit i)) &&
 ((List.range (l.length - m)).all fun k => Region.ready .any ops (je l.length (m + k)) == [m + k]) && (Region.ready .any ops (je l.length l.length) == []) &&
 ((List.range (l.length - m)).all fun k => k == 0 || (M.getD (m + k) 0).testBit m) &&
 ((List.range l.length).all fun i => match ops[i]? with | some o => o.after.all fun e => !Region.binds .any e || e.on < i | none => false) &&
 Region.noSelect ops && (fl.all fun i => Nz l m fl i) && (r7 l [] == M)
def wU (P : Program) (l : List Oper) : List Nat → Prop
 | [] => True
 | i :: r => (∃ d t ty pos af n ag by' zc, l[i]? = some ⟨some d, .alloc t, ty, pos, af, none⟩ ∧ dk P t = some (n, ag, by', zc)) ∧ wU P l r
theorem wU.at {l : List Oper} : ∀ {fr : List Nat}, wU P l fr → ∀ i ∈ fr, ∃ d t ty pos af n ag by' zc, l[i]? = some ⟨some d, .alloc t, ty, pos, af, none⟩ ∧ dk P t = some (n, ag, by', zc)
 | [], _, _, hi => by simp at hi
 | j :: r, h, i, hi => by
  rcases SH.1 hi with rfl | hi
  ·exact h.1
  ·exact wU.at h.2 i hi
theorem fN {l : List Oper} : wU P l [] := trivial
theorem E5 {l : List Oper} {i d t ty : Nat} {af : Array Edge} {r : List Nat} (h : l[i]? = some ⟨some d, .alloc t, ty, pos, af, none⟩) (ht : dk P t = some (n, ag, by', zc)) (hr : wU P l r) : wU P l (i :: r) := ⟨⟨d, t, ty, pos, af, n, ag, by', zc, h, ht⟩, hr⟩
theorem Ir {d : Nat} {t ty : Nat} {af : Array Edge} (ht : dk P t = some (n, ag, by', zc)) (h : OG P ops ⟨some d, .alloc t, ty, pos, af, none⟩ ρ w K)
  (a : Act) (hd : d < a.tmps.size) (next : Act → World → Prop) (Q : Exit → Act → World → Prop) (ha : ∀ i, a.tmps.getD i undef = ρ i) (hn : ∀ v w', K v w' → (∃ b, v = .pointer (some ⟨b, 0, none⟩) ∧ w.heap.size ≤ b ∧ b < w'.heap.size) → next (a.put (some d) v) w') :
  if Region.wanted ⟨some d, .alloc t, ty, pos, af, none⟩ (yielded ops a.tmps) then (Oper.wp P ⟨some d, .alloc t, ty, pos, af, none⟩ a w next Q) ∨ ((Oper.asks P ⟨some d, .alloc t, ty, pos, af, none⟩ a w) ∧ LetsOut Q) else next (a.put (some d) undef) w := by
 have h1 := h.out a (fun a' w' => ∃ v, a' = a.put (some d) v ∧ K v w') Q ha fun v w' hk => ⟨v, rfl, hk⟩;have hw : Region.wanted ⟨some d, .alloc t, ty, pos, af, none⟩ (yielded ops a.tmps) = true := by simp [Region.wanted]
 rw [Sj hw] at h1 ⊢;refine h1.imp (fun h2 => ?_) id;obtain ⟨z, hz, hzc⟩ := dY (w := w) ht;have hr : (execOp a.eval ⟨some d, .alloc t, ty, pos, af, none⟩).run P w = .ok (.value (.pointer (some ⟨w.heap.size, 0, none⟩))) (w.alloc (.cells zc.toArray t)) := by simp [execOp, Instr.alloc, newVar, newRow, hz, hzc]
 unfold Oper.wp at h2 ⊢;rw [hr] at h2 ⊢;obtain ⟨v, hv, hk⟩ : ∃ v, a.put (some d) (.pointer (some ⟨w.heap.size, 0, none⟩)) = a.put (some d) v ∧ K v (w.alloc (.cells zc.toArray t)) := h2;have h3 := Tm (fun a' : Act => a'.tmps.getD d undef) hv;simp only [ea hd, Sj] at h3;subst h3;exact hn _ _ hk ⟨_, rfl, So _, (Vy.1 (heap_alloc_new w _)).1⟩
theorem xO {x : Operand} {ty d : Nat} {af : Array Edge} (f : Operand → Value) (w : World) : (∃ v, ∀ w', (execOp f ⟨some d, .extract x k, ty, pos, af, none⟩).run P w' = .ok (.value v) w') ∨ ∀ a K, Oper.upon P ⟨some d, .extract x k, ty, pos, af, none⟩ a K (fun _ _ _ => False) ((execOp f ⟨some d, .extract x k, ty, pos, af, none⟩).run P w) → False := by
 cases hx : f x with
 | tuple xs =>
  cases hk : xs[k]? with
  | some v => exact .inl ⟨v, fun w' => by simp [execOp, hx, Instr.extract, hk]⟩
  | none => exact .inr fun a K h => by simp [execOp, hx, Instr.extract, hk, Oper.upon] at h
 | _ => exact .inr fun a K h => by simp [execOp, hx, Instr.extract, Oper.upon] at h
theorem pure_run {op : Op} (hp : sP op = true) {ty d : Nat} {af : Array Edge} (f : Operand → Value) (w : World) : (∃ v, ∀ w', (execOp f ⟨some d, op, ty, pos, af, none⟩).run P w' = .ok (.value v) w') ∨ ∀ a K, Oper.upon P ⟨some d, op, ty, pos, af, none⟩ a K (fun _ _ _ => False) ((execOp f ⟨some d, op, ty, pos, af, none⟩).run P w) → False := by
 unfold sP at hp;split at hp
 ·exact xO f w
 ·exact .inl ⟨_, fun w' => by simp [execOp]; rfl⟩
 ·cases hp
theorem xE {d : Nat} {op : Op} (hp : sP op = true) {ty : Nat} {af : Array Edge} (h : OG P ops ⟨some d, op, ty, pos, af, none⟩ ρ w K) (a : Act) (hd : d < a.tmps.size) (ha : ∀ i, a.tmps.getD i undef = ρ i) :
  ∃ v, (∀ w', (execOp a.eval ⟨some d, op, ty, pos, af, none⟩).run P w' = .ok (.value v) w') ∧ K v w := by
 have h1 := h.out a (fun a' w' => ∃ v, a' = a.put (some d) v ∧ K v w') (fun _ _ _ => False) ha fun v w' hk => ⟨v, rfl, hk⟩;rw [Sj (by simp [Region.wanted])] at h1
 rcases h1 with h1 | ⟨_, _, _, h1⟩
 ·unfold Oper.wp at h1
  rcases pure_run (P := P) hp (d := d) (ty := ty) (pos := pos) (af := af) a.eval w with ⟨v, hv⟩ | hn
  ·rw [hv w] at h1;obtain ⟨v', h2, hk⟩ : ∃ v', a.put (some d) v = a.put (some d) v' ∧ K v' w := h1;have h3 := Tm (fun a' : Act => a'.tmps.getD d undef) h2;simp only [ea hd, Sj] at h3;subst h3;exact ⟨v, hv, hk⟩
  ·exact (hn _ _ h1).elim
 ·exact h1.elim
structure PW (D : List Deferred) (fr : List Nat) (N : Nat) (ops : Array Oper) (m : Nat) (ρ : Rf) (J : World → Prop) (V : Nat → Value → World → Prop) (L : Array Bool) (a : Act) (w : World) : Prop where
 nd : a.defers = D
 sz : a.tmps.size = N
 j : J w
 ls : L.size = ops.size
 cl : qg ops L
 tl : ∀ k, m ≤ k → L.getD k false = false
 vs : ∀ i d, i < m → L.getD i false = true → (ops[i]?).bind (·.dst) = some d → V i (a.tmps.getD d undef) w
 IK : ∀ s, (∀ i, i < m → L.getD i false = true → (ops[i]?).bind (·.dst) ≠ some s) → a.tmps.getD s undef = ρ s
 fb : ∀ i ∈ fr, L.getD i false = true → ∀ d, (ops[i]?).bind (·.dst) = some d → ∃ b, a.tmps.getD d undef = .pointer (some ⟨b, 0, none⟩) ∧ b < w.heap.size
 fd : ∀ i ∈ fr, ∀ j ∈ fr, i ≠ j → L.getD i false = true → L.getD j false = true → ∀ d e, (ops[i]?).bind (·.dst) = some d → (ops[j]?).bind (·.dst) = some e → a.tmps.getD d undef ≠ a.tmps.getD e undef
theorem FY {id : Nat} {l : List Oper} (fr fl M : List Nat) (m : Nat) (src : List (List (Nat × Option Nat))) (ds : List (Nat × Nat)) (J : World → Prop) (V : Nat → Value → World → Prop) (hm : P.follows .mixedOrders = true) (hok : xr l m N src ds fl M = true) (hfr : wU P l fr) (hfm : fr.all (fun i => i < m) = true) (hQp : NP Q)
  (hJ : ∀ w w', J w → Below w.heap.size w w' → J w') (h0 : J w) (hops : DO P l.toArray J V ρ 0 (l.take m) src)
  (tail : ∀ f w', J w' → zj V f w' ds → (∀ i ∈ fr, ∀ j ∈ fr, i ≠ j → f i ≠ f j) → WL ⟨none, D, false⟩ P N l.toArray Q (l.drop m) (k5 ρ f ds) w') : WC ⟨none, D, false⟩ P N (.region id l.toArray true) Q ρ w := by
 refine WC.n9 fun a hf => wp_region_any hm ?_;simp only [xr, SE, SJ, T0, SU, S1] at hok;obtain ⟨⟨⟨⟨⟨⟨⟨⟨⟨⟨⟨⟨⟨hml, _⟩, hds⟩, hnd⟩, hdN⟩, hrd⟩, htail⟩, hready⟩, hend⟩, hdep⟩, hedge⟩, hns⟩, hflo⟩, hM⟩ := hok;have hfl := fun i hi => EO (hflo i hi);have hdo := (DD _ _ _ hops).2;have hpre : ∀ i d, i < m → ((l.toArray[i]?).bind (·.dst)) = some d → (i, d) ∈ ds := fun i d hi hd => by
  exact MI
 have hdsm : ∀ i d, (i, d) ∈ ds → i < m ∧ ((l.toArray[i]?).bind (·.dst)) = some d := fun i d hp => by
  exact Mh
 have hone : ∀ i j d, i < m → j < m → ((l.toArray[i]?).bind (·.dst)) = some d → ((l.toArray[j]?).bind (·.dst)) = some d → i = j := fun i j d hi hj h1 h2 => by
  exact Ng
 have hnn : l.toArray.size = l.length := by simp
 have hfm' : ∀ i ∈ fr, i < m := fun i hi => by simpa using SU.1 hfm i hi
 have full : ∀ (L : Array Bool) (a : Act) (w : World) (fuel : Nat), PW D fr N l.toArray m ρ J V L a w → (∀ i, i < m → L.getD i false = true) → l.length ≤ fuel + m → wpAny P .any l.toArray (fp N D Q) fuel L a w := by
  intro L a w fuel hI hall hfu;have hL : L = je l.length m := vJ (by rw [hI.ls, hnn]) hml hall hI.tl;rw [hL];refine n5 m (fun k h1 h2 => ?_) hend fuel m a w (So _) hml hfu ?_
  ·have := hready (k - m) Sd;rwa [show m + (k - m) = k by omega] at this
  ·have hfits : eG N D a (k5 ρ (fun i => match (l.toArray[i]?).bind (·.dst) with | some d => a.tmps.getD d undef | none => undef) ds) := by
    exact NO
   refine (tail _ w hI.j (ru ds fun p hp => ?_) fun i hi j hj hij => ?_).out a hfits
   rotate_left
   ·obtain ⟨d, t, ty, pos, af, n, ag, by', zc, hi1, _⟩ := hfr.at i hi;obtain ⟨e, t', ty', pos', af', n', ag', by'', zc', hj1, _⟩ := hfr.at j hj;have hi2 : (l.toArray[i]?).bind (·.dst) = some d := by rw [UA, hi1]; rfl
    have hj2 : (l.toArray[j]?).bind (·.dst) = some e := by rw [UA, hj1]; rfl
    rw [hi2, hj2];exact hI.fd i hi j hj hij (hall i (hfm' i hi)) (hall j (hfm' j hj)) d e hi2 hj2
   obtain ⟨h1, h2⟩ := hdsm p.1 p.2 hp;have := hI.vs p.1 p.2 h1 (hall _ h1) h2;rw [h2];exact this
 have key : ∀ (fuel : Nat) (L : Array Bool) (a : Act) (w : World), PW D fr N l.toArray m ρ J V L a w → fuel + L.toList.countP (fun b => b) = l.length → wpAny P .any l.toArray (fp N D Q) fuel L a w := by
  intro fuel
  induction fuel with
  | zero =>
   exact Oi
  | succ fuel ih =>
   intro L a w hI hc;by_cases hall : ∀ i, i < m → L.getD i false = true
   ·exact O4
   ·have hsome : ∃ i, i < m ∧ L.getD i false = false := by
     exact N0
    have hready_spec : ∀ i, i ∈ Region.ready .any l.toArray L ↔ i < l.length ∧ L.getD i true = false ∧ ∃ o, l.toArray[i]? = some o ∧ ∀ e ∈ o.after, Region.binds .any e = true → L.getD e.on false = true := fun i => by
     exact Nc
    have both : ∀ (i : Nat) (_ : i < m) (o : Oper) (_ : l.toArray[i]? = some o) (_ : L.getD i false = false) (_ : ∀ e ∈ o.after, Region.binds .any e = true → L.getD e.on false = true),
      OG P l.toArray o (fun t => a.tmps.getD t undef) w (fun v w2 => Below w.heap.size w w2 ∧ V i v w2) ∧
      ∀ v w2, (Below w.heap.size w w2 ∧ V i v w2) → (i ∈ fr → ∃ b, v = .pointer (some ⟨b, 0, none⟩) ∧ w.heap.size ≤ b ∧ b < w2.heap.size) → wpAny P .any l.toArray (fp N D Q) fuel (L.setIfInBounds i true) (a.put o.dst v) w2 := fun i him o ho hun' hed => by
     have hiL : i < L.size := by rw [hI.ls, hnn]; omega
     have hed' : ∀ o', l.toArray[i]? = some o' → ∀ e ∈ o'.after, Region.binds .any e = true → L.getD e.on false = true := fun o' ho' => by
      rw [ho] at ho'; injection ho' with ho'; subst ho'; exact hed
     have hok' : (l.take m)[i]? = some o := by
      rw [Ul, Sj him];simpa using ho
     obtain ⟨s, hs, hstab, hog⟩ := hdo i o hok';rw [SM] at hstab hog;have hrdi := hrd i him;rw [ho, hs] at hrdi;simp only [SE, SU] at hrdi;have hro : cS V ρ (fun t => a.tmps.getD t undef) w s := oP s fun p hp => by
      have hp2 := hrdi.2 p hp
      cases hp3 : p.2 with
      | some j =>
       rw [hp3] at hp2;simp only [SE, SJ, T0] at hp2;exact hI.vs j p.1 hp2.1.1 (jS hM hI.cl i j hed' hp2.2) hp2.1.2
      | none =>
       rw [hp3] at hp2;refine hI.IK p.1 fun j hj hjl hjd => ?_;have h6 := SU.1 hp2 j (by simpa using hj);rw [hjd] at h6;simp only [beq_self_eq_true, Bool.not_true, Tf, SE] at h6;have := jS hM hI.cl j i (fun o' ho' e he hb => hI.cl j o' ho' hjl e he hb) h6.2;rw [hun'] at this
       cases this
     have hnext : ∀ v w2, (Below w.heap.size w w2 ∧ V i v w2) → (i ∈ fr → ∃ b, v = .pointer (some ⟨b, 0, none⟩) ∧ w.heap.size ≤ b ∧ b < w2.heap.size) → wpAny P .any l.toArray (fp N D Q) fuel (L.setIfInBounds i true) (a.put o.dst v) w2 := fun v w2 hv hfv => by
      have hd1 : ∀ d', o.dst = some d' → d' < a.tmps.size := fun d' hd' => by
       rw [hI.sz];exact hdN (i, d') (hpre i d' him (by rw [ho]; exact hd'))
      have hput : ∀ j d, j < m → j ≠ i → (l.toArray[j]?).bind (·.dst) = some d → (a.put o.dst v).tmps.getD d undef = a.tmps.getD d undef := fun j d hj hji hjd => by
       cases hod : o.dst with
       | none => rfl
       | some d' => rw [ea (hd1 d' hod), Si fun e => hji (hone j i d hj him hjd (by rw [ho, e]; exact hod))]
      have hputi : ∀ d, (l.toArray[i]?).bind (·.dst) = some d → (a.put o.dst v).tmps.getD d undef = v := fun d hd => by
       rw [ho] at hd;simp only [Us] at hd;rw [hd, ea (hd1 d hd), Sj rfl]
      have hfd : ∀ j ∈ fr, j ≠ i → L.getD j false = true → i ∈ fr → ∀ e, (l.toArray[j]?).bind (·.dst) = some e → a.tmps.getD e undef ≠ v := fun j hj hji hjl hif e hje heq => by
       obtain ⟨b, hb1, hb2⟩ := hI.fb j hj hjl e hje;obtain ⟨b', hv1, hb3, _⟩ := hfv hif;rw [hb1, hv1] at heq;injection heq with heq
       injection heq with heq
       injection heq with heq
       omega
      refine ih _ _ _ ?_ ?_
      ·refine ⟨?_, ?_, hJ _ _ hI.j hv.1, by simpa using hI.ls, ?_, ?_, ?_, ?_, ?_, ?_⟩
       ·cases o.dst <;> exact hI.nd
       ·cases hod : o.dst with
        | none => exact hI.sz
        | some d => simpa [Act.put] using hI.sz
       ·intro k ok hk hkl e he hb;rw [dx hiL] at hkl ⊢;by_cases hki : k = i
        ·subst hki;simp [hed' ok hk e he hb]
        ·simp only [hki, decide_false, Tf] at hkl;simp [hI.cl k ok hk hkl e he hb]
       ·intro k hk;rw [dx hiL, hI.tl k hk];have : ¬ k = i := Sd;simp [this]
       ·intro j d hj hjl hjd;rw [dx hiL] at hjl;have hd1 : ∀ d', o.dst = some d' → d' < a.tmps.size := fun d' hd' => by
         rw [hI.sz];exact hdN (i, d') (hpre i d' him (by rw [ho]; exact hd'))
        by_cases hji : j = i
        ·subst hji;rw [ho] at hjd;simp only [Us] at hjd;rw [hjd, ea (hd1 d hjd), Sj rfl];exact hv.2
        ·simp only [hji, decide_false, Tf] at hjl;have hold := hI.vs j d hj hjl hjd;have hdj : (j, d) ∈ ds := hpre j d hj hjd;have hst := (hdo j (l.toArray[j]?.getD default) (by
          have : j < l.length := Sd;rw [Ul, Sj hj];simp [this])).choose_spec.2.1
         rw [SM] at hst;have hne : ∀ d', o.dst = some d' → d ≠ d' := fun d' hd' e => by
          subst e;exact hji (hone j i d hj him hjd (by rw [ho]; exact hd'))
         cases hod : o.dst with
         | none => exact hst _ _ _ hold hv.1
         | some d' =>
          rw [ea (hd1 d' hod), Si (hne d' hod)];exact hst _ _ _ hold hv.1
       ·intro s' hs';have hni : ((l.toArray[i]?).bind (·.dst)) ≠ some s' := hs' i him (by rw [dx hiL]; simp);have hold := hI.IK s' fun j hj hjl => hs' j hj (by rw [dx hiL]; simp [hjl]);rw [ho] at hni;simp only [Us] at hni
        cases hod : o.dst with
        | none => exact hold
        | some d' =>
         rw [ea (by rw [hI.sz]; exact hdN (i, d') (hpre i d' him (by rw [ho]; exact hod))), Si (fun e => hni (by rw [hod, e]))];exact hold
       ·intro j hj hjl d hjd;rw [dx hiL] at hjl;by_cases hji : j = i
        ·subst hji;obtain ⟨b, hb1, _, hb3⟩ := hfv hj;exact ⟨b, (hputi d hjd).trans hb1, hb3⟩
        ·simp only [hji, decide_false, Tf] at hjl;obtain ⟨b, hb1, hb2⟩ := hI.fb j hj hjl d hjd;exact ⟨b, (hput j d (hfm' j hj) hji hjd).trans hb1, Tg hb2 hv.1.size⟩
       ·intro j hj k hk hjk hjl hkl d e hjd hke;rw [dx hiL] at hjl hkl;by_cases hji : j = i
        ·subst hji;have hkj : k ≠ j := fun e => hjk e.symm;simp only [hkj, decide_false, Tf] at hkl;rw [hputi d hjd, hput k e (hfm' k hk) hkj hke];exact fun he => hfd k hk hkj hkl hj e hke he.symm
        ·simp only [hji, decide_false, Tf] at hjl;by_cases hki : k = i
         ·subst hki;rw [hputi e hke, hput j d (hfm' j hj) hji hjd];exact hfd j hj hji hjl hk d hjd
         ·simp only [hki, decide_false, Tf] at hkl;rw [hput j d (hfm' j hj) hji hjd, hput k e (hfm' k hk) hki hke];exact hI.fd j hj k hk hjk hjl hkl d e hjd hke
      ·have hLi : L.toList[i]? = some false := by
        have h3 : i < L.toList.length := by simpa using hiL
        rw [Ts h3];have : L.getD i false = L.toList[i] := by simp [hiL]
        rw [← this, hun']
       rw [Array.toList_setIfInBounds, List.countP_set (by simpa using hiL)];have h4 : L.toList[i]'(by simpa using hiL) = false := (SC.1 hLi).2;rw [h4];simp only [Vd, if_false, if_true];omega
     exact ⟨hog _ w hI.j hro, hnext⟩
    by_cases hnf : ∀ i, i < m → i ∉ fl → L.getD i false = true
    ·obtain ⟨i, him, hun'⟩ := hsome;have hif : i ∈ fl := T1 fun h => by
      have h2 := hnf i him h;rw [hun'] at h2
      cases h2
     obtain ⟨hfree, hedf, d, op, ty, pos, af, hlo, hpu⟩ := hfl i hif;have ho : l.toArray[i]? = some ⟨some d, op, ty, pos, af, none⟩ := by rw [UA]; exact hlo
     have hed : ∀ e ∈ af, Region.binds .any e = true → L.getD e.on false = true := fun e he hb => by
      obtain ⟨h1, h2⟩ := hedf _ hlo e he hb;exact hnf e.on h1 h2
     have hil : i < l.length := Sd;have hiL : i < L.size := by rw [hI.ls, hnn]; exact hil
     have hunt : L.getD i true = false := by
      rw [Tn] at hun' ⊢;rw [Ut hiL] at hun' ⊢;simpa using hun'
     obtain ⟨hog, hnext⟩ := both i him _ ho hun' hed;obtain ⟨v, hv, hk⟩ := xE hpu hog a (by rw [hI.sz]; exact hdN (i, d) (hpre i d him (by rw [ho]; rfl))) fun _ => rfl;refine wpAny_first (v := v) ho (Region.noSelect_spec hns) (fun c a w ⟨ρ', _, hq⟩ => (hQp c ρ' w hq).elim) fuel L a w (fun j oj hj hji hjl hno => ?_) ((hready_spec i).2 ⟨hil, hunt, _, ho, hed⟩) (.inl ⟨by simp [Region.wanted], hv⟩) (hnext v w hk fun hfr' => ?_)
     ·refine Region.free_spec ho hfree j oj hj hji ?_ hno;have hjlen : j < l.length := by have := (Vy.1 hj).1; omega
      rw [Hu hjlen];rw [Vv];rintro ⟨h1, h2⟩;have h3 := hnf j h1 h2;have hjL : j < L.size := by rw [hI.ls, hnn]; exact hjlen
      rw [Tn] at h3 hjl;rw [Ut hjL] at h3 hjl;simp only [TM] at h3 hjl;rw [h3] at hjl
      cases hjl
     ·obtain ⟨d', t, ty', pos', af', n, ag, by', zc, hi1, _⟩ := hfr.at i hfr';rw [hlo] at hi1;injection hi1 with hi1
      injection hi1 with _ hi1
      subst hi1
      cases hpu
    have hsome2 : ∃ i, i < m ∧ i ∉ fl ∧ L.getD i false = false := by
     refine T1 fun hn => hnf fun i hi hif => ?_
     cases hc2 : L.getD i false with
     | true => rfl
     | false => exact absurd ⟨i, hi, hif, hc2⟩ hn
    refine ⟨fun hnil => ?_, fun i hi => ?_⟩
    ·exact Pm
    ·obtain ⟨hil, hun, o, ho, hed⟩ := (hready_spec i).1 hi;have hiL : i < L.size := by rw [hI.ls, hnn]; exact hil
     have hun' : L.getD i false = false := by
      exact Nh
     have hed' : ∀ o', l.toArray[i]? = some o' → ∀ e ∈ o'.after, Region.binds .any e = true → L.getD e.on false = true := fun o' ho' => by
      exact Nq
     have him : i < m := by
      rcases S6 i m with h | h
      ·exact h
      ·exfalso
       rcases S6 m i with h2 | h2
       ·exact PM
       ·obtain rfl : i = m := Sd;have h4 : (l.length == i) = false := by simp; omega
        rw [h4, Tf] at htail;have h5 := SU.1 htail;obtain ⟨j, hj, hjf, hju⟩ := hsome2;have h6 := h5 j (by simpa using hj);have h7 : fl.contains j = false := by simpa using hjf
        rw [h7, Tf] at h6;have := jS hM hI.cl i j hed' h6;rw [hju] at this
        cases this
     obtain ⟨hog, hnext⟩ := both i him o ho hun' hed;have hgo : if Region.wanted o (yielded l.toArray a.tmps) then (o.wp P a w (wpAny P .any l.toArray (fp N D Q) fuel (L.setIfInBounds i true)) (fp N D Q)) ∨ ((o.asks P a w) ∧ LetsOut (fp N D Q)) else wpAny P .any l.toArray (fp N D Q) fuel (L.setIfInBounds i true) (a.put o.dst undef) w := by
      by_cases hif : i ∈ fr
      ·obtain ⟨d, t, ty, pos, af, n, ag, by', zc, hi1, ht⟩ := hfr.at i hif;have ho2 : o = ⟨some d, .alloc t, ty, pos, af, none⟩ := by
        have h7 := ho;rw [UA, hi1] at h7;injection h7 with h7
        exact h7.symm
       have hds : d < a.tmps.size := by
        rw [hI.sz];exact hdN (i, d) (hpre i d him (by rw [ho, ho2]; rfl))
       subst ho2;exact Ir ht hog a hds _ _ (fun _ => rfl) fun v w' hk hb => hnext v w' hk fun _ => hb
      ·exact hog.out a _ _ (fun _ => rfl) fun v w2 hv => hnext v w2 hv fun h => absurd h hif
     unfold wpOp;rw [ho];exact hgo
 exact Pz
end
theorem eM {Q : Kq} {id : Nat} {l : List Oper} (fr fl M : List Nat) (m : Nat) (src : List (List (Nat × Option Nat))) (ds : List (Nat × Nat)) {H : List HE} (hh : Hp w0 H w) (hm : P.follows .mixedOrders = true) (hok : xr l m N src ds fl M = true)
  (hfr : wU P l fr) (hfm : fr.all (fun i => i < m) = true) (hQp : NP Q)
  (h : DX P l.toArray (JJ w0 H w) ρ (fun V => ∀ f w', JJ w0 H w w' → zj V f w' ds → (∀ i ∈ fr, ∀ j ∈ fr, i ≠ j → f i ≠ f j) → WL ⟨none, D, false⟩ P N l.toArray Q (l.drop m) (k5 ρ f ds) w') 0 QC (l.take m) src) : WC ⟨none, D, false⟩ P N (.region id l.toArray true) Q ρ w := by
 obtain ⟨V, _, h1, h2⟩ := C2 _ _ _ _ (fun _ _ _ _ => trivial) h;exact FY fr fl M m src ds (JJ w0 H w) V hm hok hfr hfm hQp (fun _ _ h hb => h.ext hb) (JJ.start hh) h1 h2
end
section
variable {ro : Mode}
def ck (ρ : Rf) : List (Nat × Value) → Rf
 | [] => ρ
 | (d, v) :: r => cx (ck ρ r) d v
def PB (f : Nat → Value) : List (Nat × Nat) → List (Nat × Value) → Prop
 | [], [] => True
 | (i, d) :: r, (d', v) :: s => (d = d' ∧ f i = v) ∧ PB f r s
 | _, _ => False
theorem bp {ρ : Rf} {f : Nat → Value} : ∀ {ds : List (Nat × Nat)} {vs : List (Nat × Value)}, PB f ds vs → k5 ρ f ds = ck ρ vs
 | [], [], _ => rfl
 | [], _ :: _, h => h.elim
 | _ :: _, [], h => h.elim
 | (i, d) :: r, (d', v) :: s, h => by
  obtain ⟨⟨rfl, rfl⟩, h2⟩ := h;rw [k5, ck, bp h2]
theorem aW {f : Nat → Value} : PB f [] [] := trivial
theorem ae {f : Nat → Value} {i d : Nat} {v : Value} {r : List (Nat × Nat)} {s : List (Nat × Value)} (h : f i = v) (hr : PB f r s) : PB f ((i, d) :: r) ((d, v) :: s) := ⟨⟨rfl, h⟩, hr⟩
theorem aX {Q : Kq} {l : List Oper} {ρ' : Rf} (h : ρ = ρ') (k : WL ro P N ops Q l ρ' w) : WL ro P N ops Q l ρ w := h ▸ k
section
variable {P : Program} {ops : Array Oper} {J : World → Prop} {ρ : Rf} {T : (Nat → VP) → Prop} {i : Nat} {pv : Nat → VP} {os : List Oper} {s : List (Nat × Option Nat)} {ss : List (List (Nat × Option Nat))} {d : Option Nat} {ty : TypeId} {pos : String} {af : Array Edge}
theorem si {op : Op} {b : Bool} (hj : (ops[j]?).bind (·.dst) = some dj) (hv : ρ dj = undef) (h : K undef w) : OG P ops ⟨d, op, ty, pos, af, some (j, b)⟩ ρ w K :=
 ⟨fun a next Q ha hn => by
  have h1 : Region.wanted ⟨d, op, ty, pos, af, some (j, b)⟩ (yielded ops a.tmps) = false := by
   have h2 := ha dj;rw [hv, Tn] at h2
   cases h3 : a.tmps[dj]? with
   | none => simp [Region.wanted, yielded, hj, h3]
   | some x =>
    rw [h3] at h2;simp only [TM] at h2;subst h2;simp [Region.wanted, yielded, hj, h3, undef]
  rw [h1];exact hn _ _ h⟩
theorem yO {b : Bool} {op : Op} (hj : (ops[j]?).bind (·.dst) = some dj) (hv : ∀ ρ1 w1, J w1 → cS (pv) ρ ρ1 w1 s → ρ1 dj = undef)
  (k : DX P ops J ρ T (i + 1) (ep pv i (Is undef)) os ss) : DX P ops J ρ T i pv (⟨d, op, ty, pos, af, some (j, b)⟩ :: os) (s :: ss) :=
 a8 (Is undef) Is.ext (fun ρ1 w1 hj' h => si hj (hv ρ1 w1 hj' h) ⟨Below.refl _ _, rfl⟩) k
theorem dp {b : Bool} {t e : TypeId} {len sz : Nat} (hj : (ops[j]?).bind (·.dst) = some dj) (hg : ∀ ρ1 w1, J w1 → cS (pv) ρ ρ1 w1 s → ρ1 dj = .bool b)
  (ht : P.underlying t = some (.slice e)) (hte : dk P e = some (sz, ag, by', zc))
  (hp : ∀ ρ1 w1, J w1 → cS (pv) ρ ρ1 w1 s → yb ρ1 parts.toList = ps) (hzl : zc.length = sz) (hf : kz (fun i => some (i * sz, sz)) (gd len zc) ps = some cs) (h0 : ¬ len * sz = 0) (hsl : len * sz ≤ 16777216) (hl : cs.length = len * sz)
  (k : DX P ops J ρ T (i + 1) (ep pv i (Rows len sz cs)) os ss) : DX P ops J ρ T i pv (⟨d, .buildSlice t len parts, ty, pos, af, some (j, b)⟩ :: os) (s :: ss) :=
 a8 (Rows len sz cs) Rows.ext (fun ρ1 w1 hj' h => bV hj (hg ρ1 w1 hj' h) (kn ht hte (hp ρ1 w1 hj' h) hzl hf h0 hsl hl fun _ _ ⟨_, hv, hs⟩ hb => ⟨hb, _, _, hv, hs⟩)) k
end
theorem Hp.eL {f : α → List Value} {sz : Nat} {H : List HE} {i e g : Nat} {l : List α} {x : α} (hh : Hp w0 H w) (hi : H[i]? = some (.row (some ⟨g, 0, none⟩) n c e sz (aw f l))) (hf : ∀ x, (f x).length = sz) (h0 : 0 < sz) (hx : l[k]? = some x) : Rd w ⟨g, k * sz, none⟩ (f x) := by
 have hs := hh.aD hi;have hl := hs.bz hf h0;obtain ⟨ad, h1, h2⟩ := hs.2 (by have := (SC.1 hx).1; omega);injection h1 with h1
 subst h1;have h3 := h2.recAt hf hx;rwa [eC, SM] at h3
end
section
variable {ro : Mode}
section
variable {P : Program} {ρ : Rf} {w : World}
end
end
section
variable {ro : Mode}
section
variable {P : Program} {ρ : Rf} {w : World}
end
section
variable {P : Program} {N : Nat} {ops : Array Oper} {Q : Kq} {ρ : Rf} {w : World} {rest : List Oper} {d ty : Nat} {pos : String} {af : Array Edge}
end
end
section
variable {P : Program} {N : Nat} {Q : Kq} {ρ : Rf} {w : World}
structure WA (P : Program) (N : Nat) (ops : Array Oper) (Q : Kq) (fuel : Nat) (L : Array Bool) (ρ : Rf) (w : World) : Prop where
 out : ∀ a, Fits N a ρ → wpAny P .any ops (lift N Q) fuel L a w
theorem tq {a : Act} {K : Act → World → Prop} {r : Result Next} (h : o.upon P a K (lift N (dR next Q)) r) : o.upon P a K (lift N Q) r := by
 have hp : ∀ c a w, lift N (dR next Q) (.panic c) a w → lift N Q (.panic c) a w := fun _ _ _ h => h;have ho : LetsOut (lift N (dR next Q)) → LetsOut (lift N Q) := fun ⟨a, w, h⟩ => ⟨a, w, h⟩
 cases r with
 | ok n w' =>
  cases n <;> simp only [Oper.upon] at h ⊢ <;> first
   | exact h
   | exact Calls.mono h (fun e w'' he => by cases e <;> first | exact he | exact hp _ _ _ he | exact ho he)
 | halt x w' => cases x <;> simp only [Oper.upon] at h ⊢ <;> first | exact h | exact hp _ _ _ h | exact ho h
theorem C0 {L : Array Bool} {rs : List Nat} (hr : Region.ready .any ops L = rs) (hne : rs ≠ [])
  (h : ∀ i ∈ rs, ∃ o, ops[i]? = some o ∧ WL .plain P N ops (dR (fun ρ w => WA P N ops Q fuel (L.setIfInBounds i true) ρ w) Q) [o] ρ w) : WA P N ops Q (fuel + 1) L ρ w := by
 refine ⟨fun a hf => wpAny_all hr hne fun i hi => ?_⟩;obtain ⟨o, ho, hw⟩ := h i hi;have h1 := hw.out a hf;have hK : ∀ a w, wpList P ops (lift N (dR (fun ρ w => WA P N ops Q fuel (L.setIfInBounds i true) ρ w) Q)) [] a w → wpAny P .any ops (lift N Q) fuel (L.setIfInBounds i true) a w := fun a w ⟨ρ', hf', hq⟩ => by
  have hq' : WA P N ops Q fuel (L.setIfInBounds i true) ρ' w := hq;exact hq'.out a hf'
 unfold wpOp;rw [ho];simp only [];unfold wpList at h1;split at h1
 ·rename_i hwt;rw [Sj hwt];refine h1.imp (fun h2 => Oper.wp_mono hK ?_) (fun h2 => ⟨h2.1, ?_⟩)
  ·unfold Oper.wp at h2 ⊢;exact tq h2
  ·obtain ⟨a', w', h3⟩ := h2.2;exact ⟨a', w', h3⟩
 ·rename_i hwt;rw [Si hwt];exact hK _ _ h1
theorem fL {L : Array Bool} {i : Nat} (hr : Region.ready .any ops L = [i]) (ho : ops[i]? = some o)
  (h : WL .plain P N ops (dR (fun ρ w => WA P N ops Q fuel (L.setIfInBounds i true) ρ w) Q) [o] ρ w) : WA P N ops Q (fuel + 1) L ρ w :=
 C0 hr (by simp) fun j hj => by
  obtain rfl : j = i := by simpa using hj
  exact ⟨o, ho, h⟩
theorem s8 {L : Array Bool} {i i2 : Nat} {o2 : Oper} (hr : Region.ready .any ops L = [i, i2]) (ho : ops[i]? = some o) (ho2 : ops[i2]? = some o2)
  (h : WL .plain P N ops (dR (fun ρ w => WA P N ops Q fuel (L.setIfInBounds i true) ρ w) Q) [o] ρ w)
  (h2 : WL .plain P N ops (dR (fun ρ w => WA P N ops Q fuel (L.setIfInBounds i2 true) ρ w) Q) [o2] ρ w) : WA P N ops Q (fuel + 1) L ρ w :=
 C0 hr (by simp) fun j hj => by
  rcases SH.1 hj with rfl | hj
  ·exact ⟨o, ho, h⟩
  ·obtain rfl : j = i2 := by simpa using hj
   exact ⟨o2, ho2, h2⟩
theorem eN {L : Array Bool} (h : WA P N ops Q fuel L ρ w) : WL .plain P N ops (dR (fun ρ w => WA P N ops Q fuel L ρ w) Q) [] ρ w := aa h
theorem lL {l : List Oper} {L : Array Bool} (m : Nat) (hm : m ≤ l.length) (hL : L = je l.length m) (hf : l.length ≤ fuel + m)
  (hr : ((List.range (l.length - m)).all fun k => Region.ready .any l.toArray (je l.length (m + k)) == [m + k]) = true) (hend : Region.ready .any l.toArray (je l.length l.length) = [])
  (h : WL .plain P N l.toArray Q (l.drop m) ρ w) : WA P N l.toArray Q fuel L ρ w :=
 ⟨fun a hfits => by
  rw [hL];refine n5 m (fun k h1 h2 => ?_) hend fuel m a w (So _) hm hf (h.out a hfits);have h3 := SU.1 hr (k - m) (by simp; omega);rw [show m + (k - m) = k by omega] at h3;exact eq_of_beq h3⟩
theorem pw {id : Nat} {l : List Oper} {H : List HE} (hh : Hp w0 H w) (hm : P.follows .mixedOrders = true) (h : ∀ w', JJ w0 H w w' → WA P N l.toArray Q l.length (Array.replicate l.length false) ρ w') : WC .plain P N (.region id l.toArray true) Q ρ w := by
 refine WC.n9 fun a hf => wp_region_any hm ?_;have hb : Below w.heap.size w ({ w with drawn := w.drawn + 1 } : World) := ⟨rfl, rfl, rfl, So _, fun _ _ => rfl⟩;have := (h _ ((JJ.start hh).ext hb)).out a hf;simpa using this
end
section
variable {P : Program} {N : Nat} {Q : Kq} {ρ : Rf} {w : World}
def En : List Nat → List (List Nat)
 | [] => [[]]
 | x :: r => En r ++ (En r).map (x :: ·)
theorem qm (p : Nat → Bool) : ∀ l : List Nat, l.filter p ∈ En l
 | [] => by simp [En]
 | x :: r => by
  have ih := qm p r;rw [List.filter_cons, En];split
  ·exact TG _ (SB.2 ⟨_, ih, rfl⟩)
  ·exact Uh _ ih
def lD (n m : Nat) (fl D : List Nat) : Array Bool := ((List.range n).map fun i => decide (i < m ∧ (i ∉ fl ∨ i ∈ D))).toArray
def DH (l : List Oper) (fl D : List Nat) : Bool := D.all fun i => match l[i]? with
 | some o => o.after.all fun e => !Region.binds .any e || !fl.contains e.on || D.contains e.on
 | none => true
def NL (ds : List (Nat × Nat)) (fl D : List Nat) : List (Nat × Nat) := ds.filter fun p => !fl.contains p.1 || D.contains p.1
def CR (l : List Oper) (m : Nat) (fl : List Nat) (ds : List (Nat × Nat)) : List (List Nat × Nat × List (Nat × Nat)) :=
 ((En fl).filter (DH l fl)).map fun D => (D, l.length - (lD l.length m fl D).toList.countP (fun b => b) - 1, NL ds fl D)
def xd (l : List Oper) (m N : Nat) (src : List (List (Nat × Option Nat))) (ds : List (Nat × Nat)) (fl M : List Nat) : Bool :=
 let ops := l.toArray
 let pre := (List.range m).map fun i => ((ops[i]?).bind (·.dst))
 (m ≤ l.length) && (src.length == m) &&
 (ds == (pre.zipIdx.filterMap fun (d, i) => d.map fun d => (i, d)).reverse) && (decide (ds.map (·.2)).Nodup) && (ds.all fun p => p.2 < N) &&
 ((List.range m).all fun i => match ops[i]?, src[i]? with
  | some o, some s => ((o.looksAt ops).all fun t => s.any fun p => p.1 == t) &&
    s.all fun p => match p.2 with
     | some j => (j < m) && ((ops[j]?).bind (·.dst) == some p.1) && (M.getD i 0).testBit j
     | none => (List.range m).all fun j => !((ops[j]?).bind (·.dst) == some p.1) || (j != i && (M.getD j 0).testBit i)
  | _, _ => false) &&
 (l.length == m || ((List.range m).all fun i => fl.contains i || (M.getD m 0).testBit i)) &&
 ((List.range (l.length - m)).all fun k => k == 0 || (M.getD (m + k) 0).testBit m) &&
 ((List.range l.length).all fun i => match ops[i]? with | some o => o.after.all fun e => !Region.binds .any e || e.on < i | none => false) && (r7 l [] == M)
theorem HK {id : Nat} {l : List Oper} (fl M : List Nat) (m : Nat) (src : List (List (Nat × Option Nat))) (ds : List (Nat × Nat)) (Ds : List (List Nat × Nat × List (Nat × Nat))) (J : World → Prop) (V : Nat → Value → World → Prop) (hm : P.follows .mixedOrders = true) (hok : xd l m N src ds fl M = true) (hDs : CR l m fl ds = Ds) (hmn : m < l.length)
  (hJ : ∀ w w', J w → Below w.heap.size w w' → J w') (h0 : J w) (hops : DO P l.toArray J V ρ 0 (l.take m) src)
  (tail : ∀ p ∈ Ds, ∀ f w', J w' → zj V f w' p.2.2 → WL .plain P N l.toArray (dR (fun ρ w => WA P N l.toArray Q p.2.1 ((lD l.length m fl p.1).setIfInBounds m true) ρ w) Q) ((l.drop m).take 1) (k5 ρ f p.2.2) w') : WC .plain P N (.region id l.toArray true) Q ρ w := by
 refine WC.n9 fun a hf => wp_region_any hm ?_;simp only [xd, SE, SJ, T0, SU, S1] at hok;obtain ⟨⟨⟨⟨⟨⟨⟨⟨⟨hml, _⟩, hds⟩, hnd⟩, hdN⟩, hrd⟩, htail⟩, hdep⟩, hedge⟩, hM⟩ := hok;have hdo := (DD _ _ _ hops).2;have hpre : ∀ i d, i < m → ((l.toArray[i]?).bind (·.dst)) = some d → (i, d) ∈ ds := fun i d hi hd => by
  exact MI
 have hdsm : ∀ i d, (i, d) ∈ ds → i < m ∧ ((l.toArray[i]?).bind (·.dst)) = some d := fun i d hp => by
  exact Mh
 have hone : ∀ i j d, i < m → j < m → ((l.toArray[i]?).bind (·.dst)) = some d → ((l.toArray[j]?).bind (·.dst)) = some d → i = j := fun i j d hi hj h1 h2 => by
  exact Ng
 have hnn : l.toArray.size = l.length := by simp
 have part : ∀ (L : Array Bool) (a : Act) (w : World) (fuel : Nat), PW [] [] N l.toArray m ρ J V L a w → (∀ i, i < m → i ∉ fl → L.getD i false = true) → fuel + 1 + L.toList.countP (fun b => b) = l.length → ∀ o, l.toArray[m]? = some o →
   wpOp P l.toArray (lift N Q) m (wpAny P .any l.toArray (lift N Q) fuel (L.setIfInBounds m true)) a w := by
  intro L a w fuel hI hall hfu o ho;have hflt : ∀ i, i ∈ fl.filter (fun i => L.getD i false) ↔ i ∈ fl ∧ L.getD i false = true := fun i => by rw [TD]
  have hL : L = lD l.length m fl (fl.filter fun i => L.getD i false) := by
   apply Array.ext (by simp [lD, hI.ls]);intro i h1 h2;have e1 : L.getD i false = L[i] := by simp [h1]
   rw [← e1];simp only [lD, List.getElem_toArray, List.getElem_map, List.getElem_range]
   rcases S6 i m with h | h
   ·by_cases hif : i ∈ fl
    ·cases hc : L.getD i false with
     | true => exact (SF ⟨h, .inr ((hflt i).2 ⟨hif, hc⟩)⟩).symm
     | false => exact (SQ fun hh => hh.2.elim (fun hn => hn hif) fun hd => by rw [((hflt i).1 hd).2] at hc; cases hc).symm
    ·rw [hall i h hif];exact (SF ⟨h, .inl hif⟩).symm
   ·rw [hI.tl i h];exact (SQ fun hh => by omega).symm
  have hcl : DH l fl (fl.filter fun i => L.getD i false) = true := SU.2 fun i hi => by
   obtain ⟨h1, h2⟩ := (hflt i).1 hi
   cases hli : l[i]? with
   | none => rfl
   | some oi =>
    refine Vt.2 fun e he => ?_
    cases hb : Region.binds .any e with
    | false => rfl
    | true =>
     have h3 := hI.cl i oi (by rw [UA]; exact hli) h2 e he hb;by_cases hef : e.on ∈ fl
     ·rw [Uu];exact .inr (List.contains_iff_mem.2 ((hflt _).2 ⟨hef, h3⟩))
     ·simp [hef]
  have hmem : (fl.filter (fun i => L.getD i false), l.length - (lD l.length m fl (fl.filter fun i => L.getD i false)).toList.countP (fun b => b) - 1, NL ds fl (fl.filter fun i => L.getD i false)) ∈ Ds := by
   rw [← hDs];exact SB.2 ⟨_, TD.2 ⟨qm _ _, hcl⟩, rfl⟩
  have hfu' : l.length - L.toList.countP (fun b => b) - 1 = fuel := Sd;have htl := tail _ hmem;simp only [← hL, hfu'] at htl;have hsub : ∀ p ∈ NL ds fl (fl.filter fun i => L.getD i false), p ∈ ds ∧ L.getD p.1 false = true := fun p hp => by
   obtain ⟨h1, h2⟩ := TD.1 hp;refine ⟨h1, ?_⟩;simp only [Uu, Vr, List.contains_eq_mem, Vv, SJ] at h2
   rcases h2 with h2 | h2
   ·exact hall _ (hdsm _ _ h1).1 h2
   ·exact ((hflt _).1 h2).2
  have hnd' : ((NL ds fl (fl.filter fun i => L.getD i false)).map (·.2)).Nodup := (List.filter_sublist.map _).nodup hnd;have hfits : Fits N a (k5 ρ (fun i => match (l.toArray[i]?).bind (·.dst) with | some d => a.tmps.getD d undef | none => undef) (NL ds fl (fl.filter fun i => L.getD i false))) := by
   refine ⟨hI.nd, hI.sz, fun s => ?_⟩;by_cases hs : ∃ i, (i, s) ∈ NL ds fl (fl.filter fun i => L.getD i false)
   ·obtain ⟨i, hi⟩ := hs;rw [(lM _ _ s hnd').1 i hi, (hdsm i s (hsub _ hi).1).2]
   ·rw [(lM _ _ s hnd').2 fun i hi => hs ⟨i, hi⟩];refine hI.IK s fun i hi hil hd => hs ⟨i, TD.2 ⟨hpre i s hi hd, ?_⟩⟩;by_cases hif : i ∈ fl
    ·rw [Uu];exact .inr (List.contains_iff_mem.2 ((hflt i).2 ⟨hif, hil⟩))
    ·simp [hif]
  have h1 := (htl (fun i => match (l.toArray[i]?).bind (·.dst) with | some d => a.tmps.getD d undef | none => undef) w hI.j (ru _ fun p hp => by
   obtain ⟨h1, h2⟩ := hsub p hp;obtain ⟨h3, h4⟩ := hdsm p.1 p.2 h1;have := hI.vs p.1 p.2 h3 h2 h4;rw [h4];exact this)).out a hfits
  have hone' : (l.drop m).take 1 = [o] := by
   rw [UA] at ho;obtain ⟨h2, h3⟩ := SC.1 ho;rw [T4 h2, h3]
   rfl
  rw [hone'] at h1;have hK : ∀ a w, wpList P l.toArray (lift N (dR (fun ρ w => WA P N l.toArray Q fuel (L.setIfInBounds m true) ρ w) Q)) [] a w → wpAny P .any l.toArray (lift N Q) fuel (L.setIfInBounds m true) a w := fun a w ⟨ρ', hf', hq⟩ => by
   have hq' : WA P N l.toArray Q fuel (L.setIfInBounds m true) ρ' w := hq;exact hq'.out a hf'
  unfold wpOp;rw [ho];simp only [];unfold wpList at h1;split at h1
  ·rename_i hwt;rw [Sj hwt];refine h1.imp (fun h2 => Oper.wp_mono hK ?_) (fun h2 => ⟨h2.1, ?_⟩)
   ·unfold Oper.wp at h2 ⊢;exact tq h2
   ·obtain ⟨a', w', h3⟩ := h2.2;exact ⟨a', w', h3⟩
  ·rename_i hwt;rw [Si hwt];exact hK _ _ h1
 have key : ∀ (fuel : Nat) (L : Array Bool) (a : Act) (w : World), PW [] [] N l.toArray m ρ J V L a w → fuel + L.toList.countP (fun b => b) = l.length → wpAny P .any l.toArray (lift N Q) fuel L a w := by
  intro fuel
  induction fuel with
  | zero =>
   intro L a w hI hc;have hall : ∀ i, i < l.length → L.getD i false = true := fun i hi => by
    exact Lj
   have h1 := hall m hmn;rw [hI.tl m (So _)] at h1
   cases h1
  | succ fuel ih =>
   intro L a w hI hc
   ·have hready_spec : ∀ i, i ∈ Region.ready .any l.toArray L ↔ i < l.length ∧ L.getD i true = false ∧ ∃ o, l.toArray[i]? = some o ∧ ∀ e ∈ o.after, Region.binds .any e = true → L.getD e.on false = true := fun i => by
     exact Nc
    have both : ∀ (i : Nat) (_ : i < m) (o : Oper) (_ : l.toArray[i]? = some o) (_ : L.getD i false = false) (_ : ∀ e ∈ o.after, Region.binds .any e = true → L.getD e.on false = true),
      OG P l.toArray o (fun t => a.tmps.getD t undef) w (fun v w2 => Below w.heap.size w w2 ∧ V i v w2) ∧
      ∀ v w2, (Below w.heap.size w w2 ∧ V i v w2) → (i ∈ ([] : List Nat) → ∃ b, v = .pointer (some ⟨b, 0, none⟩) ∧ w.heap.size ≤ b ∧ b < w2.heap.size) → wpAny P .any l.toArray (lift N Q) fuel (L.setIfInBounds i true) (a.put o.dst v) w2 := fun i him o ho hun' hed => by
     have hiL : i < L.size := by rw [hI.ls, hnn]; omega
     have hed' : ∀ o', l.toArray[i]? = some o' → ∀ e ∈ o'.after, Region.binds .any e = true → L.getD e.on false = true := fun o' ho' => by
      rw [ho] at ho'; injection ho' with ho'; subst ho'; exact hed
     have hok' : (l.take m)[i]? = some o := by
      rw [Ul, Sj him];simpa using ho
     obtain ⟨s, hs, hstab, hog⟩ := hdo i o hok';rw [SM] at hstab hog;have hrdi := hrd i him;rw [ho, hs] at hrdi;simp only [SE, SU] at hrdi;have hro : cS V ρ (fun t => a.tmps.getD t undef) w s := oP s fun p hp => by
      have hp2 := hrdi.2 p hp
      cases hp3 : p.2 with
      | some j =>
       rw [hp3] at hp2;simp only [SE, SJ, T0] at hp2;exact hI.vs j p.1 hp2.1.1 (jS hM hI.cl i j hed' hp2.2) hp2.1.2
      | none =>
       rw [hp3] at hp2;refine hI.IK p.1 fun j hj hjl hjd => ?_;have h6 := SU.1 hp2 j (by simpa using hj);rw [hjd] at h6;simp only [beq_self_eq_true, Bool.not_true, Tf, SE] at h6;have := jS hM hI.cl j i (fun o' ho' e he hb => hI.cl j o' ho' hjl e he hb) h6.2;rw [hun'] at this
       cases this
     have hnext : ∀ v w2, (Below w.heap.size w w2 ∧ V i v w2) → (i ∈ ([] : List Nat) → ∃ b, v = .pointer (some ⟨b, 0, none⟩) ∧ w.heap.size ≤ b ∧ b < w2.heap.size) → wpAny P .any l.toArray (lift N Q) fuel (L.setIfInBounds i true) (a.put o.dst v) w2 := fun v w2 hv hfv => by
      have hd1 : ∀ d', o.dst = some d' → d' < a.tmps.size := fun d' hd' => by
       rw [hI.sz];exact hdN (i, d') (hpre i d' him (by rw [ho]; exact hd'))
      have hput : ∀ j d, j < m → j ≠ i → (l.toArray[j]?).bind (·.dst) = some d → (a.put o.dst v).tmps.getD d undef = a.tmps.getD d undef := fun j d hj hji hjd => by
       cases hod : o.dst with
       | none => rfl
       | some d' => rw [ea (hd1 d' hod), Si fun e => hji (hone j i d hj him hjd (by rw [ho, e]; exact hod))]
      have hputi : ∀ d, (l.toArray[i]?).bind (·.dst) = some d → (a.put o.dst v).tmps.getD d undef = v := fun d hd => by
       rw [ho] at hd;simp only [Us] at hd;rw [hd, ea (hd1 d hd), Sj rfl]
      refine ih _ _ _ ?_ ?_
      ·refine ⟨?_, ?_, hJ _ _ hI.j hv.1, by simpa using hI.ls, ?_, ?_, ?_, ?_, ?_, ?_⟩
       ·cases o.dst <;> exact hI.nd
       ·cases hod : o.dst with
        | none => exact hI.sz
        | some d => simpa [Act.put] using hI.sz
       ·intro k ok hk hkl e he hb;rw [dx hiL] at hkl ⊢;by_cases hki : k = i
        ·subst hki;simp [hed' ok hk e he hb]
        ·simp only [hki, decide_false, Tf] at hkl;simp [hI.cl k ok hk hkl e he hb]
       ·intro k hk;rw [dx hiL, hI.tl k hk];have : ¬ k = i := Sd;simp [this]
       ·intro j d hj hjl hjd;rw [dx hiL] at hjl;have hd1 : ∀ d', o.dst = some d' → d' < a.tmps.size := fun d' hd' => by
         rw [hI.sz];exact hdN (i, d') (hpre i d' him (by rw [ho]; exact hd'))
        by_cases hji : j = i
        ·subst hji;rw [ho] at hjd;simp only [Us] at hjd;rw [hjd, ea (hd1 d hjd), Sj rfl];exact hv.2
        ·simp only [hji, decide_false, Tf] at hjl;have hold := hI.vs j d hj hjl hjd;have hdj : (j, d) ∈ ds := hpre j d hj hjd;have hst := (hdo j (l.toArray[j]?.getD default) (by
          have : j < l.length := Sd;rw [Ul, Sj hj];simp [this])).choose_spec.2.1
         rw [SM] at hst;have hne : ∀ d', o.dst = some d' → d ≠ d' := fun d' hd' e => by
          subst e;exact hji (hone j i d hj him hjd (by rw [ho]; exact hd'))
         cases hod : o.dst with
         | none => exact hst _ _ _ hold hv.1
         | some d' =>
          rw [ea (hd1 d' hod), Si (hne d' hod)];exact hst _ _ _ hold hv.1
       ·intro s' hs';have hni : ((l.toArray[i]?).bind (·.dst)) ≠ some s' := hs' i him (by rw [dx hiL]; simp);have hold := hI.IK s' fun j hj hjl => hs' j hj (by rw [dx hiL]; simp [hjl]);rw [ho] at hni;simp only [Us] at hni
        cases hod : o.dst with
        | none => exact hold
        | some d' =>
         rw [ea (by rw [hI.sz]; exact hdN (i, d') (hpre i d' him (by rw [ho]; exact hod))), Si (fun e => hni (by rw [hod, e]))];exact hold
       ·intro j hj
        cases hj
       ·intro j hj
        cases hj
      ·have hLi : L.toList[i]? = some false := by
        have h3 : i < L.toList.length := by simpa using hiL
        rw [Ts h3];have : L.getD i false = L.toList[i] := by simp [hiL]
        rw [← this, hun']
       rw [Array.toList_setIfInBounds, List.countP_set (by simpa using hiL)];have h4 : L.toList[i]'(by simpa using hiL) = false := (SC.1 hLi).2;rw [h4];simp only [Vd, if_false, if_true];omega
     exact ⟨hog _ w hI.j hro, hnext⟩
    refine ⟨fun hnil => ?_, fun i hi => ?_⟩
    ·exfalso;have hmin : ∀ k, (∃ i, i < k ∧ i < m + 1 ∧ L.getD i false = false) → ∃ i, i < m + 1 ∧ L.getD i false = false ∧ ∀ j, j < i → L.getD j false = true := by
      intro k
      induction k with
      | zero => rintro ⟨i, h, _⟩; omega
      | succ k ihk =>
       rintro ⟨i, h1, h2, h3⟩;by_cases hex : ∃ i, i < k ∧ i < m + 1 ∧ L.getD i false = false
       ·exact ihk hex
       ·exact K1
     obtain ⟨i, hi, hu, hlow⟩ := hmin (m + 1) ⟨m, Sd, Sd, hI.tl m (So _)⟩;exact Lf
    ·obtain ⟨hil, hun, o, ho, hed⟩ := (hready_spec i).1 hi;have hiL : i < L.size := by rw [hI.ls, hnn]; exact hil
     have hun' : L.getD i false = false := by
      exact Nh
     have hed' : ∀ o', l.toArray[i]? = some o' → ∀ e ∈ o'.after, Region.binds .any e = true → L.getD e.on false = true := fun o' ho' => by
      exact Nq
     rcases S6 i m with him | him
     ·obtain ⟨hog, hnext⟩ := both i him o ho hun' hed;have hgo := hog.out a (wpAny P .any l.toArray (lift N Q) fuel (L.setIfInBounds i true)) (lift N Q) (fun _ => rfl) fun v w2 hv => hnext v w2 hv fun h => nomatch h;unfold wpOp;rw [ho];exact hgo
     ·rcases S6 m i with h2 | h2
      ·exfalso;exact PM
      ·obtain rfl : i = m := Sd;refine part L a w fuel hI (fun j hj hjf => ?_) hc o ho;have h4 : (l.length == i) = false := by simp; omega
       rw [h4, Tf] at htail;have h6 := SU.1 htail j (by simpa using hj);have h7 : fl.contains j = false := by simpa using hjf
       rw [h7, Tf] at h6;exact jS hM hI.cl i j hed' h6
 exact Pz
end
theorem mR {Q : Kq} {id : Nat} {l : List Oper} (fl M : List Nat) (m : Nat) (src : List (List (Nat × Option Nat))) (ds : List (Nat × Nat)) (Ds : List (List Nat × Nat × List (Nat × Nat))) {H : List HE} (hh : Hp w0 H w) (hm : P.follows .mixedOrders = true) (hok : xd l m N src ds fl M = true) (hDs : CR l m fl ds = Ds) (hmn : m < l.length)
  (h : DX P l.toArray (JJ w0 H w) ρ (fun V => ∀ p ∈ Ds, ∀ f w', JJ w0 H w w' → zj V f w' p.2.2 → WL .plain P N l.toArray (dR (fun ρ w => WA P N l.toArray Q p.2.1 ((lD l.length m fl p.1).setIfInBounds m true) ρ w) Q) ((l.drop m).take 1) (k5 ρ f p.2.2) w') 0 QC (l.take m) src) : WC .plain P N (.region id l.toArray true) Q ρ w := by
 obtain ⟨V, _, h1, h2⟩ := C2 _ _ _ _ (fun _ _ _ _ => trivial) h;exact HK fl M m src ds Ds (JJ w0 H w) V hm hok hDs hmn (fun _ _ h hb => h.ext hb) (JJ.start hh) h1 h2
theorem ik {d : Option Nat} {ty : TypeId} {af : Array Edge} {g : Option (Nat × Bool)} {t e : TypeId} {x lo : Operand} {A : Option Addr} {l sz : Nat} {k : IntKind} {m : Int} (ht : P.underlying t = some (.slice e)) (hsz : (P.info? e).map (·.size) = some sz) (hx : ev ρ x = .slice A n c) (hlo : ev ρ lo = .int k m)
  (hm : m = (l : Int)) (h1 : l ≤ n) (h2 : n ≤ c) : (execOp (ev ρ) ⟨d, .slice t x (some lo) none none, ty, pos, af, g⟩).run P w = .ok (.value (.slice (if c = l then A else A.map (·.add (l * sz))) (n - l) (c - l))) w :=
 iB (lo := some lo) (hi := none) (l := l) (h := n) ht hsz hx ⟨k, m, hlo, hm⟩ rfl h1 h2
theorem Sl.front {A : Option Addr} {xs : List Value} (h : Sl w A n k xs) (hm : m ≤ n) : Sl w A m k (xs.take (m * k)) := by
 have hle : m * k ≤ n * k := S9 _ hm;refine ⟨by rw [SP, h.1]; omega, fun h0 => ?_⟩;obtain ⟨ad, h1, h2⟩ := h.2 Sd;exact ⟨ad, h1, h2.take _⟩
theorem Sl.back {A : Option Addr} {l : Nat} {xs : List Value} (h : Sl w A n k xs) (hl : l ≤ n) (hc : n ≤ c) : Sl w (if c = l then A else A.map (·.add (l * k))) (n - l) k (xs.drop (l * k)) := by
 have h1 := h.cut hl (So n) hc;have h2 : ((xs.drop (l * k)).take ((n - l) * k)) = xs.drop (l * k) := Su (by rw [TT, h.1, Nat.sub_mul]; exact So _);rwa [h2] at h1
def Rg (base : Nat) (t : TypeId) (sz : Nat) : VP := fun v W => ∃ g, v = .slice (some ⟨g, 0, none⟩) 0 0 ∧ W.ownsRow base t sz (.slice (some ⟨g, 0, none⟩) 0 0) 0 []
def we (base : Nat) (t : TypeId) (n sz : Nat) (cs : List Value) : VP := fun v W => ∃ A c, v = .slice A n c ∧ W.ownsRow base t sz (.slice A n c) n cs
theorem kY {t : TypeId} {sz : Nat} {A : Option Addr} {xs : List Value} (h : w.ownsRow base t sz (.slice A n c) n xs) (hb : Below w.heap.size w w') : w'.ownsRow base t sz (.slice A n c) n xs := by
 refine ⟨h.1, h.2.imp id ?_⟩;rintro ⟨g, cap, cur, h1, h2, h3, h4⟩;have hlt : g < w.heap.size := by
  rcases S6 g w.heap.size with h | h
  ·exact h
  ·rw [U5 h] at h3; cases h3
 exact ⟨g, cap, cur, h1, h2, (hb.block g hlt).trans h3, h4⟩
theorem we.ext {t : TypeId} {sz : Nat} (v : Value) (w w' : World) (h : we base t n sz cs v w) (hb : Below w.heap.size w w') : we base t n sz cs v w' := let ⟨A, c, h1, h2⟩ := h; ⟨A, c, h1, kY h2 hb⟩
theorem JJ.Ig {H : List HE} {t : TypeId} {sz : Nat} {A : Option Addr} (hs : Hp w0 H w) (h : Hp w0 H W) (ho : W.ownsRow w.heap.size t sz (.slice A n c) n cs) : Hp w0 (.row A n c t sz cs :: H) W := by
 refine ⟨h.below, fun x hx => ?_, ?_⟩
 ·rcases SH.1 hx with rfl | hx
  ·refine ⟨ho.1, ho.2.imp id ?_⟩;rintro ⟨g, cap, cur, h1, h2, h3⟩;exact ⟨g, cap, cur, h1, SK hs.size h2, h3⟩
  ·exact h.own x hx
 ·rw [Ux]
  rcases ho.2 with ⟨h1, _⟩ | ⟨g, cap, cur, h1, h2, _⟩
  ·injection h1 with e1
   subst e1;exact h.nd
  ·injection h1 with e1
   subst e1;show (g :: H.filterMap HE.id).Nodup;refine Uk.2 ⟨fun hm => ?_, h.nd⟩;obtain ⟨y, hy, hyb⟩ := Tq.1 hm;have := (dX (hs.own y hy) hyb).2;omega
section
variable {P : Program} {ops : Array Oper} {J : World → Prop} {ρ : Rf} {T : (Nat → VP) → Prop} {i : Nat} {pv : Nat → VP} {os : List Oper} {s : List (Nat × Option Nat)} {ss : List (List (Nat × Option Nat))} {d : Option Nat} {ty : TypeId} {pos : String} {af : Array Edge}
end
section
variable {D : List Deferred}
section
variable {P : Program} {N : Nat} {Q : Kq} {ρ : Rf} {w : World}
structure R2 (D : List Deferred) (N : Nat) (ops : Array Oper) (m μ : Nat) (ρ : Rf) (J : Bool → World → Prop) (V : Nat → Value → World → Prop) (L : Array Bool) (a : Act) (w : World) : Prop where
 nd : a.defers = D
 sz : a.tmps.size = N
 j : J (L.getD μ false) w
 ls : L.size = ops.size
 cl : qg ops L
 tl : ∀ k, m ≤ k → L.getD k false = false
 vs : ∀ i d, i < m → L.getD i false = true → (ops[i]?).bind (·.dst) = some d → V i (a.tmps.getD d undef) w
 IK : ∀ s, (∀ i, i < m → L.getD i false = true → (ops[i]?).bind (·.dst) ≠ some s) → a.tmps.getD s undef = ρ s
end
def Ro (V : Nat → VP) : List Nat → Prop
 | [] => True
 | i :: r => (∀ v w w', V i v w → V i v w') ∧ Ro V r
structure JC (w0 : World) (H : List HE) (W : World) : Prop where
 hp : Hp w0 H W
end
variable {args : Array Operand} {fz : Nat × Nat} {off : Nat} {r : Bool} {t' : TypeId} {vs : List Value}
section
variable {P : Program} {ops : Array Oper} {J : World → Prop} {ρ : Rf} {T : (Nat → VP) → Prop} {i : Nat} {pv : Nat → VP} {os : List Oper} {s : List (Nat × Option Nat)} {ss : List (List (Nat × Option Nat))} {d : Option Nat} {ty : TypeId} {pos : String} {af : Array Edge} {x y : Operand} {t u : TypeId}
theorem eH {k : IntKind} {a : Int} (kk : DX P ops J ρ T (i + 1) (ep pv i (Is (.int k a))) os ss) (hx : ∀ ρ1 w1, J w1 → cS pv ρ ρ1 w1 s → ev ρ1 x = .int k a := by intro ρ1 w1 hj hR; first | exact hR.1 | exact hR.2.1 | exact hR.2.2.1 | exact rfl) : DX P ops J ρ T i pv (⟨d, .move x, ty, pos, af, none⟩ :: os) (s :: ss) := bB (fun ρ1 w1 hj h => eJ (hx ρ1 w1 hj h)) kk
theorem pK {a : Bool} (kk : DX P ops J ρ T (i + 1) (ep pv i (Is (.bool a))) os ss) (hx : ∀ ρ1 w1, J w1 → cS pv ρ ρ1 w1 s → ev ρ1 x = .bool a := by intro ρ1 w1 hj hR; first | exact hR.1 | exact hR.2.1 | exact hR.2.2.1 | exact rfl) : DX P ops J ρ T i pv (⟨d, .move x, ty, pos, af, none⟩ :: os) (s :: ss) := bB (fun ρ1 w1 hj h => eJ (hx ρ1 w1 hj h)) kk
theorem Rh {a : ByteArray} (kk : DX P ops J ρ T (i + 1) (ep pv i (Is (.string a))) os ss) (hx : ∀ ρ1 w1, J w1 → cS pv ρ ρ1 w1 s → ev ρ1 x = .string a := by intro ρ1 w1 hj hR; first | exact hR.1 | exact hR.2.1 | exact hR.2.2.1 | exact rfl) : DX P ops J ρ T i pv (⟨d, .move x, ty, pos, af, none⟩ :: os) (s :: ss) := bB (fun ρ1 w1 hj h => eJ (hx ρ1 w1 hj h)) kk
theorem iw {A : Option Addr} (kk : DX P ops J ρ T (i + 1) (ep pv i (Is (.slice A n c))) os ss) (hx : ∀ ρ1 w1, J w1 → cS pv ρ ρ1 w1 s → ev ρ1 x = .slice A n c := by intro ρ1 w1 hj hR; first | exact hR.1 | exact hR.2.1 | exact hR.2.2.1 | exact rfl) : DX P ops J ρ T i pv (⟨d, .move x, ty, pos, af, none⟩ :: os) (s :: ss) := bB (fun ρ1 w1 hj h => eJ (hx ρ1 w1 hj h)) kk
theorem Rx {l : List Value} (kk : DX P ops J ρ T (i + 1) (ep pv i (Is (.tuple l.toArray))) os ss) (hx : ∀ ρ1 w1, J w1 → cS pv ρ ρ1 w1 s → ev ρ1 x = .tuple l.toArray := by intro ρ1 w1 hj hR; first | exact hR.1 | exact hR.2.1 | exact hR.2.2.1 | exact rfl) : DX P ops J ρ T i pv (⟨d, .move x, ty, pos, af, none⟩ :: os) (s :: ss) := bB (fun ρ1 w1 hj h => eJ (hx ρ1 w1 hj h)) kk
theorem KQ {f : Fn} {l r : List Value} (kk : DX P ops J ρ T (i + 1) (ep pv i (Is (.func f l.toArray r.toArray))) os ss) (hx : ∀ ρ1 w1, J w1 → cS pv ρ ρ1 w1 s → ev ρ1 x = .func f l.toArray r.toArray := by intro ρ1 w1 hj hR; first | exact hR.1 | exact hR.2.1 | exact hR.2.2.1 | exact rfl) : DX P ops J ρ T i pv (⟨d, .move x, ty, pos, af, none⟩ :: os) (s :: ss) := bB (fun ρ1 w1 hj h => eJ (hx ρ1 w1 hj h)) kk
theorem ek {c : TypeId} {f b o : Nat} {ft : TypeId} [hf : eO P c f off ft] (kk : DX P ops J ρ T (i + 1) (ep pv i (Is (.pointer (some ⟨b, o + off, none⟩)))) os ss) (hx : ∀ ρ1 w1, J w1 → cS pv ρ ρ1 w1 s → ev ρ1 x = .pointer (some ⟨b, o, none⟩) := by intro ρ1 w1 hj hR; first | exact hR.1 | exact hR.2.1 | exact hR.2.2.1 | exact rfl) : DX P ops J ρ T i pv (⟨d, .fieldAddr c x f, ty, pos, af, none⟩ :: os) (s :: ss) := bB (fun ρ1 w1 hj h => qy hf.out (hx ρ1 w1 hj h)) kk
theorem NM {c : TypeId} {f : Nat} {ft : TypeId} [hf : eO P c f off ft] (kk : DX P ops J ρ T (i + 1) (ep pv i (Is (.pointer (some (ad.add off))))) os ss) (hx : ∀ ρ1 w1, J w1 → cS pv ρ ρ1 w1 s → ev ρ1 x = .pointer (some ad) := by intro ρ1 w1 hj hR; first | exact hR.1 | exact hR.2.1 | exact hR.2.2.1 | exact rfl) : DX P ops J ρ T i pv (⟨d, .fieldAddr c x f, ty, pos, af, none⟩ :: os) (s :: ss) := bB (fun ρ1 w1 hj h => oC hf.out (hx ρ1 w1 hj h)) kk
theorem wJ {v : Value} (hc : ∀ w1, J w1 → w1.cell? ad = some v) [ht : aP P t n false by' zc] (kk : DX P ops J ρ T (i + 1) (ep pv i (Is (v))) os ss) (hx : ∀ ρ1 w1, J w1 → cS pv ρ ρ1 w1 s → ev ρ1 x = .pointer (some ad) := by intro ρ1 w1 hj hR; first | exact hR.1 | exact hR.2.1 | exact hR.2.2.1 | exact rfl) : DX P ops J ρ T i pv (⟨d, .load t x, ty, pos, af, none⟩ :: os) (s :: ss) := bB (fun ρ1 w1 hj h => ju ht.out (hx ρ1 w1 hj h) (hc w1 hj)) kk
theorem xx (vs : List Value) (hc : ∀ w1, J w1 → Rd w1 ad vs) [ht : aP P t n true by' zc] (kk : DX P ops J ρ T (i + 1) (ep pv i (Is (.agg vs.toArray))) os ss) (hx : ∀ ρ1 w1, J w1 → cS pv ρ ρ1 w1 s → ev ρ1 x = .pointer (some ad) := by intro ρ1 w1 hj hR; first | exact hR.1 | exact hR.2.1 | exact hR.2.2.1 | exact rfl) (hl : vs.length = n := by exact rfl) : DX P ops J ρ T i pv (⟨d, .load t x, ty, pos, af, none⟩ :: os) (s :: ss) := bB (fun ρ1 w1 hj h => BE ht.out (hx ρ1 w1 hj h) (hc w1 hj) hl) kk
theorem gH {H : List HE} {b o : Nat} {v : Value} (j : Nat) [ht : aP P t n false by' zc] (kk : DX P ops (JJ w0 H w) ρ T (i + 1) (ep pv i (Is (v))) os ss) (hx : ∀ ρ1 w1, JJ w0 H w w1 → cS pv ρ ρ1 w1 s → ev ρ1 x = .pointer (some ⟨b, o, none⟩) := by intro ρ1 w1 hj hR; first | exact hR.1 | exact hR.2.1 | exact hR.2.2.1 | exact rfl) (hi : H[j]? = some (.blk b t' cs fz) := by exact rfl) (hv : cs[o]? = some v := by exact rfl) : DX P ops (JJ w0 H w) ρ T i pv (⟨d, .load t x, ty, pos, af, none⟩ :: os) (s :: ss) := bB (fun ρ1 w1 hj h => ju ht.out (hx ρ1 w1 hj h) (hj.hp.dW hi hv)) kk
theorem eX {H : List HE} {b o : Nat} (j : Nat) (vs : List Value) [ht : aP P t n true by' zc] (kk : DX P ops (JJ w0 H w) ρ T (i + 1) (ep pv i (Is (.agg vs.toArray))) os ss) (hx : ∀ ρ1 w1, JJ w0 H w w1 → cS pv ρ ρ1 w1 s → ev ρ1 x = .pointer (some ⟨b, o, none⟩) := by intro ρ1 w1 hj hR; first | exact hR.1 | exact hR.2.1 | exact hR.2.2.1 | exact rfl) (hi : H[j]? = some (.blk b t' cs fz) := by exact rfl) (hv : (cs.drop o).take n = vs := by exact rfl) (hl : vs.length = n := by exact rfl) : DX P ops (JJ w0 H w) ρ T i pv (⟨d, .load t x, ty, pos, af, none⟩ :: os) (s :: ss) := bB (fun ρ1 w1 hj h => BE ht.out (hx ρ1 w1 hj h) (hj.hp.bH hi hv) hl) kk
theorem GN {e : TypeId} {B : Option Addr} [ht : bq P t (.slice e)] (kk : DX P ops J ρ T (i + 1) (ep pv i (Is (.int .i64 n))) os ss) (hx : ∀ ρ1 w1, J w1 → cS pv ρ ρ1 w1 s → ev ρ1 x = .slice B n c := by intro ρ1 w1 hj hR; first | exact hR.1 | exact hR.2.1 | exact hR.2.2.1 | exact rfl) : DX P ops J ρ T i pv (⟨d, .call ⟨.builtin .len, #[x], #[t]⟩, ty, pos, af, none⟩ :: os) (s :: ss) := bB (fun ρ1 w1 hj h => yh ht.out (hx ρ1 w1 hj h)) kk
theorem MU {k : IntKind} {a b : Int} (kk : DX P ops J ρ T (i + 1) (ep pv i (Is (.bool r))) os ss) (hx : ∀ ρ1 w1, J w1 → cS pv ρ ρ1 w1 s → ev ρ1 x = .int k a := by intro ρ1 w1 hj hR; first | exact hR.1 | exact hR.2.1 | exact hR.2.2.1 | exact rfl) (hy : ∀ ρ1 w1, J w1 → cS pv ρ ρ1 w1 s → ev ρ1 y = .int k b := by intro ρ1 w1 hj hR; first | exact hR.1 | exact hR.2.1 | exact hR.2.2.1 | exact rfl) (hr : decide (b < a) = r := by first | exact SF Sd | exact SQ Sd | exact rfl) : DX P ops J ρ T i pv (⟨d, .binOp .gtr t x y u, ty, pos, af, none⟩ :: os) (s :: ss) := bB (fun ρ1 w1 hj h => by rw [← hr]; exact BV (hx ρ1 w1 hj h) (hy ρ1 w1 hj h)) kk
theorem zu {k : IntKind} {a b : Int} (kk : DX P ops J ρ T (i + 1) (ep pv i (Is (.bool r))) os ss) (hx : ∀ ρ1 w1, J w1 → cS pv ρ ρ1 w1 s → ev ρ1 x = .int k a := by intro ρ1 w1 hj hR; first | exact hR.1 | exact hR.2.1 | exact hR.2.2.1 | exact rfl) (hy : ∀ ρ1 w1, J w1 → cS pv ρ ρ1 w1 s → ev ρ1 y = .int k b := by intro ρ1 w1 hj hR; first | exact hR.1 | exact hR.2.1 | exact hR.2.2.1 | exact rfl) (hr : decide (a = b) = r := by first | exact SF Sd | exact SQ Sd | exact rfl) : DX P ops J ρ T i pv (⟨d, .binOp .eql t x y u, ty, pos, af, none⟩ :: os) (s :: ss) := bB (fun ρ1 w1 hj h => by rw [← hr]; exact BR (hx ρ1 w1 hj h) (hy ρ1 w1 hj h)) kk
theorem uh {a b : Int} (kk : DX P ops J ρ T (i + 1) (ep pv i (Is (.int .i64 (a + b)))) os ss) (hx : ∀ ρ1 w1, J w1 → cS pv ρ ρ1 w1 s → ev ρ1 x = .int .i64 a := by intro ρ1 w1 hj hR; first | exact hR.1 | exact hR.2.1 | exact hR.2.2.1 | exact rfl) (hy : ∀ ρ1 w1, J w1 → cS pv ρ ρ1 w1 s → ev ρ1 y = .int .i64 b := by intro ρ1 w1 hj hR; first | exact hR.1 | exact hR.2.1 | exact hR.2.2.1 | exact rfl) (h1 : -9223372036854775808 ≤ a + b := by omega) (h2 : a + b ≤ 9223372036854775807 := by omega) : DX P ops J ρ T i pv (⟨d, .binOp .add t x y u, ty, pos, af, none⟩ :: os) (s :: ss) := bB (fun ρ1 w1 hj h => Iv (hx ρ1 w1 hj h) (hy ρ1 w1 hj h) h1 h2) kk
theorem Be {a b : Int} (kk : DX P ops J ρ T (i + 1) (ep pv i (Is (.int .i64 (a - b)))) os ss) (hx : ∀ ρ1 w1, J w1 → cS pv ρ ρ1 w1 s → ev ρ1 x = .int .i64 a := by intro ρ1 w1 hj hR; first | exact hR.1 | exact hR.2.1 | exact hR.2.2.1 | exact rfl) (hy : ∀ ρ1 w1, J w1 → cS pv ρ ρ1 w1 s → ev ρ1 y = .int .i64 b := by intro ρ1 w1 hj hR; first | exact hR.1 | exact hR.2.1 | exact hR.2.2.1 | exact rfl) (h1 : -9223372036854775808 ≤ a - b := by omega) (h2 : a - b ≤ 9223372036854775807 := by omega) : DX P ops J ρ T i pv (⟨d, .binOp .sub t x y u, ty, pos, af, none⟩ :: os) (s :: ss) := bB (fun ρ1 w1 hj h => HQ (hx ρ1 w1 hj h) (hy ρ1 w1 hj h) h1 h2) kk
theorem OC {a b : Int} (kk : DX P ops J ρ T (i + 1) (ep pv i (Is (.int .i64 (a * b)))) os ss) (hx : ∀ ρ1 w1, J w1 → cS pv ρ ρ1 w1 s → ev ρ1 x = .int .i64 a := by intro ρ1 w1 hj hR; first | exact hR.1 | exact hR.2.1 | exact hR.2.2.1 | exact rfl) (hy : ∀ ρ1 w1, J w1 → cS pv ρ ρ1 w1 s → ev ρ1 y = .int .i64 b := by intro ρ1 w1 hj hR; first | exact hR.1 | exact hR.2.1 | exact hR.2.2.1 | exact rfl) (h1 : -9223372036854775808 ≤ a * b := by omega) (h2 : a * b ≤ 9223372036854775807 := by omega) : DX P ops J ρ T i pv (⟨d, .binOp .mul t x y u, ty, pos, af, none⟩ :: os) (s :: ss) := bB (fun ρ1 w1 hj h => GH (hx ρ1 w1 hj h) (hy ρ1 w1 hj h) h1 h2) kk
theorem D0 {b : Bool} (kk : DX P ops J ρ T (i + 1) (ep pv i (Is (.bool !b))) os ss) (hx : ∀ ρ1 w1, J w1 → cS pv ρ ρ1 w1 s → ev ρ1 x = .bool b := by intro ρ1 w1 hj hR; first | exact hR.1 | exact hR.2.1 | exact hR.2.2.1 | exact rfl) : DX P ops J ρ T i pv (⟨d, .unOp .not t x, ty, pos, af, none⟩ :: os) (s :: ss) := bB (fun ρ1 w1 hj h => LS (hx ρ1 w1 hj h)) kk
theorem QE {v : Value} (kk : DX P ops J ρ T (i + 1) (ep pv i (Is (v))) os ss) (hx : ∀ ρ1 w1, J w1 → cS pv ρ ρ1 w1 s → ev ρ1 x = .tuple vs.toArray := by intro ρ1 w1 hj hR; first | exact hR.1 | exact hR.2.1 | exact hR.2.2.1 | exact rfl) (hv : vs[j]? = some v := by exact rfl) : DX P ops J ρ T i pv (⟨d, .extract x j, ty, pos, af, none⟩ :: os) (s :: ss) := bB (fun ρ1 w1 hj h => de (hx ρ1 w1 hj h) hv) kk
theorem IM {c a b : Operand} {v : Bool} (kk : DX P ops J ρ T (i + 1) (ep pv i (Is (.bool v))) os ss) (hc : ∀ ρ1 w1, J w1 → cS pv ρ ρ1 w1 s → ev ρ1 c = .bool true := by intro ρ1 w1 hj hR; first | exact hR.1 | exact hR.2.1 | exact hR.2.2.1 | exact rfl) (hx : ∀ ρ1 w1, J w1 → cS pv ρ ρ1 w1 s → ev ρ1 a = .bool v := by intro ρ1 w1 hj hR; first | exact hR.1 | exact hR.2.1 | exact hR.2.2.1 | exact rfl) : DX P ops J ρ T i pv (⟨d, .pick c a b, ty, pos, af, none⟩ :: os) (s :: ss) := bB (fun ρ1 w1 hj h => zG (hc ρ1 w1 hj h) (hx ρ1 w1 hj h)) kk
theorem KK {c a b : Operand} {v : Bool} (kk : DX P ops J ρ T (i + 1) (ep pv i (Is (.bool v))) os ss) (hc : ∀ ρ1 w1, J w1 → cS pv ρ ρ1 w1 s → ev ρ1 c = .bool false := by intro ρ1 w1 hj hR; first | exact hR.1 | exact hR.2.1 | exact hR.2.2.1 | exact rfl) (hx : ∀ ρ1 w1, J w1 → cS pv ρ ρ1 w1 s → ev ρ1 b = .bool v := by intro ρ1 w1 hj hR; first | exact hR.1 | exact hR.2.1 | exact hR.2.2.1 | exact rfl) : DX P ops J ρ T i pv (⟨d, .pick c a b, ty, pos, af, none⟩ :: os) (s :: ss) := bB (fun ρ1 w1 hj h => xH (hc ρ1 w1 hj h) (hx ρ1 w1 hj h)) kk
theorem Df {e : TypeId} {b sz : Nat} {q : IntKind} {m : Int} (k : Nat) [ht : bq P t (.slice e)] [hs : TS P e sz] (kk : DX P ops J ρ T (i + 1) (ep pv i (Is (.pointer (some ⟨b, k * sz, none⟩)))) os ss) (hx : ∀ ρ1 w1, J w1 → cS pv ρ ρ1 w1 s → ev ρ1 x = .slice (some ⟨b, 0, none⟩) n c := by intro ρ1 w1 hj hR; first | exact hR.1 | exact hR.2.1 | exact hR.2.2.1 | exact rfl) (hy : ∀ ρ1 w1, J w1 → cS pv ρ ρ1 w1 s → ev ρ1 y = .int q m := by intro ρ1 w1 hj hR; first | exact hR.1 | exact hR.2.1 | exact hR.2.2.1 | exact rfl) (hm : m = (k : Int) := by omega) (h1 : k < n := by omega) : DX P ops J ρ T i pv (⟨d, .indexAddr t x y, ty, pos, af, none⟩ :: os) (s :: ss) := bB (fun ρ1 w1 hj h => tw ht.out hs.out (hx ρ1 w1 hj h) (hy ρ1 w1 hj h) hm h1) kk
theorem qe {e : TypeId} {sz : Nat} {q : IntKind} {m : Int} (k : Nat) [ht : bq P t (.slice e)] [hs : TS P e sz] (kk : DX P ops J ρ T (i + 1) (ep pv i (Is (.pointer (some (ad.add (k * sz)))))) os ss) (hx : ∀ ρ1 w1, J w1 → cS pv ρ ρ1 w1 s → ev ρ1 x = .slice (some ad) n c := by intro ρ1 w1 hj hR; first | exact hR.1 | exact hR.2.1 | exact hR.2.2.1 | exact rfl) (hy : ∀ ρ1 w1, J w1 → cS pv ρ ρ1 w1 s → ev ρ1 y = .int q m := by intro ρ1 w1 hj hR; first | exact hR.1 | exact hR.2.1 | exact hR.2.2.1 | exact rfl) (hm : m = (k : Int) := by omega) (h1 : k < n := by omega) : DX P ops J ρ T i pv (⟨d, .indexAddr t x y, ty, pos, af, none⟩ :: os) (s :: ss) := bB (fun ρ1 w1 hj h => jK ht.out hs.out (hx ρ1 w1 hj h) (hy ρ1 w1 hj h) hm h1) kk
theorem dC {f : FuncId} {ts : Array TypeId} {v : Value} (hc : ∀ w1, J w1 → Calls P f vs.toArray w1 fun e w' => e = .returned v ∧ Below w1.heap.size w1 w') [hf : ak P f] (kk : DX P ops J ρ T (i + 1) (ep pv i (Is (v))) os ss) (ha : ∀ ρ1 w1, J w1 → cS pv ρ ρ1 w1 s → uM ρ1 args.toList = vs := by intro ρ1 w1 hj hR; repeat (first | exact a7 | (apply aA; first | exact hR.1 | exact hR.2.1 | exact hR.2.2.1 | exact hR.2.2.2.1 | exact rfl))) : DX P ops J ρ T i pv (⟨d, .call ⟨.value (.func f), args, ts⟩, ty, pos, af, none⟩ :: os) (s :: ss) := Jv (fun ρ1 w1 hj h => aZ hf.out (ha ρ1 w1 hj h)) hc kk
theorem dB {pl : List (Nat × Nat)} (cs : List Value) [hte : aP P t n true by' zc] [hpl : kr P t pl] (kk : DX P ops J ρ T (i + 1) (ep pv i (Is (.agg cs.toArray))) os ss) (hp : ∀ ρ1 w1, J w1 → cS pv ρ ρ1 w1 s → yb ρ1 parts.toList = ps := by intro ρ1 w1 hj hR; repeat (first | exact dF | (apply bC; first | exact hR.1 | exact hR.2.1 | exact hR.2.2.1 | exact hR.2.2.2.1 | exact rfl))) (hf : kz (pl[·]?) zc ps = some cs := by exact rfl) : DX P ops J ρ T i pv (⟨d, .build t parts, ty, pos, af, none⟩ :: os) (s :: ss) := bB (fun ρ1 w1 hj h => q9 hte.out hpl.out (hp ρ1 w1 hj h) hf) kk
theorem z7 {e : TypeId} {len sz : Nat} (cs : List Value) [ht : bq P t (.slice e)] [hte : aP P e sz ag by' zc] (kk : DX P ops J ρ T (i + 1) (ep pv i (Rows len sz cs)) os ss) (hp : ∀ ρ1 w1, J w1 → cS pv ρ ρ1 w1 s → yb ρ1 parts.toList = ps := by intro ρ1 w1 hj hR; repeat (first | exact dF | (apply bC; first | exact hR.1 | exact hR.2.1 | exact hR.2.2.1 | exact hR.2.2.2.1 | exact rfl))) (hzl : zc.length = sz := by exact rfl) (hf : kz (fun i => some (i * sz, sz)) (gd len zc) ps = some cs := by exact rfl) (h0 : ¬ len * sz = 0 := by decide) (hsl : len * sz ≤ 16777216 := by decide) (hl : cs.length = len * sz := by exact rfl) : DX P ops J ρ T i pv (⟨d, .buildSlice t len parts, ty, pos, af, none⟩ :: os) (s :: ss) := tX ht.out hte.out hp hzl hf h0 hsl hl kk
theorem dS {b c : Bool} {op : Op} (kk : DX P ops J ρ T (i + 1) (ep pv i (Is (undef))) os ss) (hj : (ops[j]?).bind (·.dst) = some dj := by exact rfl) (hv : ∀ ρ1 w1, J w1 → cS pv ρ ρ1 w1 s → ρ1 dj = .bool c := by intro ρ1 w1 hj hR; first | exact hR.1 | exact hR.2.1 | exact hR.2.2.1 | exact hR.2.2.2.1) (hb : c ≠ b := by decide) : DX P ops J ρ T i pv (⟨d, op, ty, pos, af, some (j, b)⟩ :: os) (s :: ss) := wZ hj hv hb kk
theorem dU {b : Bool} {op : Op} (kk : DX P ops J ρ T (i + 1) (ep pv i (Is (undef))) os ss) (hj : (ops[j]?).bind (·.dst) = some dj := by exact rfl) (hv : ∀ ρ1 w1, J w1 → cS pv ρ ρ1 w1 s → ρ1 dj = undef := by intro ρ1 w1 hj hR; first | exact hR.1 | exact hR.2.1 | exact hR.2.2.1 | exact hR.2.2.2.1) : DX P ops J ρ T i pv (⟨d, op, ty, pos, af, some (j, b)⟩ :: os) (s :: ss) := yO hj hv kk
theorem dG {b : Bool} {op : Op} (kk : DX P ops J ρ T i pv (⟨d, op, ty, pos, af, none⟩ :: os) (s :: ss)) (hj : (ops[j]?).bind (·.dst) = some dj := by exact rfl) (hv : ∀ ρ1 w1, J w1 → cS pv ρ ρ1 w1 s → ρ1 dj = .bool b := by intro ρ1 w1 hj hR; first | exact hR.1 | exact hR.2.1 | exact hR.2.2.1 | exact hR.2.2.2.1) : DX P ops J ρ T i pv (⟨d, op, ty, pos, af, some (j, b)⟩ :: os) (s :: ss) := let ⟨V, h1, h2, h3⟩ := kk; ⟨V, h1, fun ρ1 w1 hj1 h => bV hj (hv ρ1 w1 hj1 h) (h2 ρ1 w1 hj1 h), h3⟩
end
variable {cy : Nat}
section
variable {ro : Mode}
section
variable {P : Program} {N : Nat} {ops : Array Oper} {Q : Kq} {ρ : Rf} {w w0 : World} {rest : List Oper} {H : List HE} {d : Nat} {ty : TypeId} {pos : String} {af : Array Edge}
theorem C7 (hh : Hp w0 H w) {t s e : TypeId} {x y : Operand} {i b o dl dc sz : Nat} {B : Option Addr} {xs news : List Value} (hi : H[i]? = some (.row (some ⟨b, 0, none⟩) m c e sz xs)) (hx : ev ρ x = .slice (some ⟨b, o, none⟩) dl dc) (hy : ev ρ y = .slice B n cy)
  (hsl : Sl w B n sz news) (ht : P.underlying t = some (.slice e)) (hte : dk P e = some (sz, ag, by', zc)) (ho : o + min n dl * sz ≤ xs.length) (h1 : (news.all Value.oneCell') = true) (hN : d < N)
  (kk : ∀ w', Hp w0 (H.set i (.row (some ⟨b, 0, none⟩) m c e sz (bM xs o (news.take (min n dl * sz))))) w' → WL ro P N ops Q rest (cx ρ d (.int .i64 ((min n dl : Nat) : Int))) w') :
  WL ro P N ops Q (⟨some d, .call ⟨.builtin .copy, #[x, y], #[t, s]⟩, ty, pos, af, none⟩ :: rest) ρ w := by
 obtain ⟨inf, z, dd, hti, hd, hz, hsz, hby, hzc, _⟩ := eW hte;have hrow := hh.at_ hi;obtain ⟨hlen, h2⟩ := hrow;have hnl := hsl.1;have hmin : min n dl * sz ≤ n * sz := S9 _ (Nat.min_le_left _ _);have hvl : (news.take (min n dl * sz)).length = min n dl * sz := by rw [SP]; omega
 have h1' : ∀ v ∈ news.take (min n dl * sz), v.oneCell' = true := fun v hv => SU.1 h1 v (Uc hv);have hcells : (Builtin.firstCells sz (min n dl) (.slice B n cy)).run P w = .ok (news.take (min n dl * sz)).toArray w := by
  cases B with
  | none =>
   have h0 : n = 0 := by
    rcases T8 n with h0 | h0
    ·exact h0
    ·obtain ⟨ad, h1, _⟩ := hsl.2 h0; cases h1
   subst h0;simp [Builtin.firstCells]
  | some ad =>
   have hrd : ∀ j u, (news.take (min n dl * sz))[j]? = some u → w.cell? (ad.add j) = some u := by
    intro j u hj;rw [Ul] at hj;split at hj
    ·rcases T8 n with h0 | h0
     ·subst h0;have : news = [] := TW (by simpa using hnl);simp [this] at hj
     ·obtain ⟨ad', he, hr'⟩ := hsl.2 h0;injection he with he
      subst he;exact hr' j u hj
    ·cases hj
   have := run_loadCells_list (P := P) w ad _ hrd;rw [hvl] at this;simpa [Builtin.firstCells] using this
 generalize news.take (min n dl * sz) = vs at hvl h1' hcells kk;rw [← hvl] at ho
 rcases h2 with ⟨h2, _⟩ | ⟨g, cap, cur, hv, hg, hheap, hmc, hcm, hcur, htake⟩
 ·injection h2 with h2; cases h2
 ·injection hv with hA hn hcap
  injection hA with hA
  injection hA with hA
  subst hA; subst hcap;have hcl : cur.size = cur.toList.length := by simp
  have hle : m * sz ≤ c * sz := S9 _ hmc;obtain ⟨w', hr, hb', hgr, hs⟩ := gB (P := P) (b := b) (t := e) (fz := (0, 0)) o vs 0 cur.toList w (by simpa using hheap) (.inr (So _)) (by rw [← hcl]; omega) h1';refine aM rfl rfl hN (w' := w') (v := .int .i64 ((min n dl : Nat) : Int)) ?_ (kk w' (hh.grown hi hgr (.inl rfl) ⟨by rw [fB Sd]; exact hlen, .inr ⟨b, c, (bM cur.toList o vs).toArray, rfl, hg, by simpa using hb', hmc, hcm, ?_, ?_⟩⟩))
  ·have hmm : Nat.min n dl = min n dl := rfl;simp only [execOp, resolve, invoke, hx, hy, List.map_toArray, SW, Tx];simp [builtin, Builtin.copy_, run_underlying ht, Builtin.lenOf, sizeOf, typeInfo, hti, hsz, hmm, hcells, hr, goInt]
  ·simp only [US];rw [fB (by rw [← hcl]; omega), ← hcl, hcur]
  ·exact N3
end
end
def bk (B : Nat) : List Nat → Nat
 | [] => 0
 | d :: l => d + B * bk B l
def bI (B : Nat) : Nat → Nat → List Nat
 | 0, _ => []
 | k + 1, n => n % B :: bI B k (n / B)
def dH : List Nat → List Nat
 | [] => []
 | d :: l => match dH l with
  | [] => if d = 0 then [] else [d]
  | e :: m => d :: e :: m
def aQ (B n : Nat) : List Nat := dH (bI B (n.log2 + 1) n)
def Dg (B : Nat) (l : List Nat) : Prop := ∀ d ∈ l, d < B
section
variable {B : Nat}
theorem Dg.nil : Dg B [] := fun _ h => (nomatch h)
theorem Dg.cons {d : Nat} {l : List Nat} (h : d < B) (hl : Dg B l) : Dg B (d :: l) := fun x hx => by
 rcases SH.1 hx with rfl | hx
 ·exact h
 ·exact hl x hx
theorem Dg.head {d : Nat} {l : List Nat} (h : Dg B (d :: l)) : d < B := h d Sq
theorem Dg.tail {d : Nat} {l : List Nat} (h : Dg B (d :: l)) : Dg B l := fun x hx => h x (SA _ hx)
theorem Dg.append {l m : List Nat} (h : Dg B l) (h' : Dg B m) : Dg B (l ++ m) := fun x hx => by
 rcases S2.1 hx with hx | hx
 ·exact h x hx
 ·exact h' x hx
theorem Dg.sub {l m : List Nat} (h : Dg B l) (h' : m.Sublist l) : Dg B m := fun x hx => h x (h'.subset hx)
theorem Dg.take {l : List Nat} (h : Dg B l) (n : Nat) : Dg B (l.take n) := h.sub (List.take_sublist n l)
theorem Dg.drop {l : List Nat} (h : Dg B l) (n : Nat) : Dg B (l.drop n) := h.sub (List.drop_sublist n l)
theorem Dg.at_ {l : List Nat} (h : Dg B l) {i d : Nat} (hi : l[i]? = some d) : d < B := h d (Sp hi)
theorem Dg.KE {l : List Nat} (h : Dg B l) (i : Nat) {d : Nat} (hd : d < B) : Dg B (l.set i d) := fun x hx => by
 rcases VE hx with hx | rfl
 ·exact h x hx
 ·exact hd
theorem Dg.uC (hB : 0 < B) (n : Nat) : Dg B (List.replicate n 0) := fun x hx => by rw [List.eq_of_mem_replicate hx]; exact hB
theorem eF (l m : List Nat) : bk B (l ++ m) = bk B l + B ^ l.length * bk B m := by
 induction l with
 | nil => simp [bk]
 | cons d l ih => simp only [Sv, bk, ih, SG, Ta]; rw [Te, U7]; congr 2; rw [← Ti, SS B]
theorem ij {l : List Nat} (h : Dg B l) : bk B l < B ^ l.length := by
 induction l with
 | nil => simp [bk]
 | cons d l ih =>
  have h1 := ih h.tail;have h2 := h.head;simp only [bk, SG, Ta]
  calc d + B * bk B l < B + B * bk B l := by omega
   _ = B * (bk B l + 1) := by rw [Te, SI, Uj]
   _ ≤ B * B ^ l.length := SX _ h1
   _ = B ^ l.length * B := SS _ _
theorem qb (n : Nat) : bk B (List.replicate n 0) = 0 := by
 induction n with
 | zero => rfl
 | succ n ih => simp [UC, bk, ih]
theorem aJ (k n : Nat) : (bI B k n).length = k := by
 induction k generalizing n with
 | zero => rfl
 | succ k ih => simp [bI, ih]
theorem fT (hB : 0 < B) (k n : Nat) : Dg B (bI B k n) := by
 induction k generalizing n with
 | zero => exact Dg.nil
 | succ k ih => exact Dg.cons (SO _ hB) (ih _)
theorem Gl (k n : Nat) : bk B (bI B k n) = n % B ^ k := by
 induction k generalizing n with
 | zero => simp [bI, bk, Nat.mod_one]
 | succ k ih => rw [bI, bk, ih, Ta, SS (B ^ k), Nat.mod_mul]
theorem cU (h : n < B ^ k) : bk B (bI B k n) = n := by rw [Gl, SY h]
theorem tp {l : List Nat} (h : Dg B l) : bI B l.length (bk B l) = l := by
 induction l with
 | nil => rfl
 | cons d l ih =>
  have hd := h.head;simp only [SG, bI, bk];rw [T9, SY hd, TE _ _ Sd, Tj hd, SM, ih h.tail]
theorem xe {l m : List Nat} (hl : Dg B l) (hm : Dg B m) (hlen : l.length = m.length) (h : bk B l = bk B m) : l = m := by
 rw [← tp hl, ← tp hm, hlen, h]
theorem ic (k n i : Nat) (h : i < k) : (bI B k n)[i]? = some (n / B ^ i % B) := by
 induction k generalizing n i with
 | zero => omega
 | succ k ih =>
  cases i with
  | zero => simp [bI]
  | succ i => simp only [bI, UR]; rw [ih _ _ Sd, T2, Ta, SS B]
theorem rF {l : List Nat} (h : Dg B l) {i d : Nat} (hi : l[i]? = some d) : bk B l / B ^ i % B = d := by
 have h1 := ic (B := B) l.length (bk B l) i (SC.1 hi).1;rw [tp h, hi] at h1;injection h1 with h1
 exact h1.symm
theorem tI {l : List Nat} (h : Dg B l) {i : Nat} (hi : l.length ≤ i) (hB : 0 < B) : bk B l / B ^ i = 0 :=
 Tj (Tg (ij h) (S4 hB hi))
theorem iU (l : List Nat) (i : Nat) (h : i ≤ l.length) : bk B l = bk B (l.take i) + B ^ i * bk B (l.drop i) := by
 have := eF (B := B) (l.take i) (l.drop i);rw [To, List.length_take_of_le h] at this;exact this
theorem kN (l : List Nat) : bk B (dH l) = bk B l := by
 induction l with
 | nil => rfl
 | cons d l ih =>
  simp only [dH, bk];split
  ·rename_i h;rw [h] at ih;simp only [bk] at ih;split
   ·rename_i h0; rw [h0, ← ih]; simp [bk]
   ·rw [← ih]; simp [bk]
  ·rename_i e m h;rw [h] at ih;rw [← ih]; rfl
theorem jA (l : List Nat) : dH l = l.take (dH l).length := by
 induction l with
 | nil => rfl
 | cons d l ih =>
  simp only [dH];split
  ·split
   ·rfl
   ·simp
  ·rename_i e m h;rw [h] at ih;simp only [SG, List.take_succ_cons] at ih ⊢;rw [← ih]
theorem fk (l : List Nat) : (dH l).length ≤ l.length := by
 have := Tm List.length (jA l);rw [SP] at this;omega
theorem ux (l : List Nat) : (dH l).getLast? ≠ some 0 := by
 induction l with
 | nil => simp [dH]
 | cons d l ih =>
  simp only [dH];split
  ·split
   ·simp
   ·simpa
  ·rename_i e m h;rw [h] at ih;rwa [List.getLast?_cons_cons]
theorem Dg.cut {l : List Nat} (h : Dg B l) : Dg B (dH l) := by rw [jA]; exact h.take _
theorem Fo {l : List Nat} (h : l.getLast? ≠ some 0) : dH l = l := by
 induction l with
 | nil => rfl
 | cons d l ih =>
  cases l with
  | nil => simp only [dH]; rw [Si]; intro h0; subst h0; simp at h
  | cons e m =>
   rw [List.getLast?_cons_cons] at h;rw [dH, ih h]
theorem tS (l : List Nat) : dH (l ++ [0]) = dH l := by
 induction l with
 | nil => simp [dH]
 | cons d l ih => simp only [Sv, dH, ih]
theorem vz {l : List Nat} {d : Nat} (h : d ≠ 0) : dH (l ++ [d]) = l ++ [d] := Fo (by simpa using h)
def Can (B : Nat) (l : List Nat) : Prop := Dg B l ∧ l.getLast? ≠ some 0
theorem Can.cut {l : List Nat} (h : Dg B l) : Can B (dH l) := ⟨h.cut, ux l⟩
theorem Iy {l : List Nat} (h : l.getLast? ≠ some 0) (hn : l ≠ []) : B ^ (l.length - 1) ≤ bk B l := by
 have h1 := List.dropLast_concat_getLast hn;have h2 : l.getLast hn ≠ 0 := by
  intro h0;apply h;rw [List.getLast?_eq_some_getLast hn, h0]
 rw [← h1, eF];simp only [Sr, List.length_dropLast, SG, U3];have : l.length - 1 + (0 + 1) - 1 = l.length - 1 := Sd;rw [this];simp only [bk, Nat.mul_zero, TB];exact SK (Vx _ (Nat.pos_of_ne_zero h2)) (Nat.le_add_left _ _)
theorem Can.tT {l m : List Nat} (hl : Can B l) (hm : Can B m) (hB : 1 < B) (h : bk B l ≤ bk B m) : l.length ≤ m.length := by
 rcases S6 m.length l.length with hlt | hge
 ·exfalso;have hn : l ≠ [] := by intro h0; simp [h0] at hlt
  have h1 := Iy (B := B) hl.2 hn;have h2 := ij hm.1;have h3 : B ^ m.length ≤ B ^ (l.length - 1) := S4 Sd Sd;exact Nat.lt_irrefl _ (Tg h2 (SK h3 (SK h1 h)))
 ·exact hge
theorem Can.inj {l m : List Nat} (hl : Can B l) (hm : Can B m) (hB : 1 < B) (h : bk B l = bk B m) : l = m :=
 xe hl.1 hm.1 (Nat.le_antisymm (hl.tT hm hB (Nat.le_of_eq h)) (hm.tT hl hB (Nat.le_of_eq h.symm))) h
theorem dI (hB : 0 < B) (n : Nat) : Can B (aQ B n) := Can.cut (fT hB _ _)
theorem yQ (hB : 1 < B) (n : Nat) : n < B ^ (n.log2 + 1) := by
 have h1 : n < 2 ^ (n.log2 + 1) := Nat.lt_log2_self;exact Tg h1 (Nat.pow_le_pow_left hB _)
theorem dJ (hB : 1 < B) (n : Nat) : bk B (aQ B n) = n := by
 rw [aQ, kN, cU (yQ hB n)]
theorem y5 (hB : 1 < B) {l : List Nat} (h : Can B l) : aQ B (bk B l) = l :=
 (dI Sd _).inj h hB (dJ hB _)
theorem gZ (hB : 1 < B) {l : List Nat} (h : Dg B l) : dH l = aQ B (bk B l) := by
 rw [← kN, y5 hB (Can.cut h)]
theorem fQ (hB : 1 < B) : aQ B 0 = [] := (dI Sd 0).inj ⟨Dg.nil, by simp⟩ hB (by rw [dJ hB]; rfl)
theorem tJ (hB : 1 < B) : aQ B n = [] ↔ n = 0 := by
 constructor
 ·intro h; have := dJ hB n; rw [h] at this; exact this.symm
 ·intro h; rw [h, fQ hB]
theorem gO (hB : 1 < B) (h : n < B ^ k) : (aQ B n).length ≤ k := by
 have h1 : dH (bI B k n) = aQ B n := by rw [gZ hB (fT Sd _ _), cU h]
 have := fk (bI B k n);rw [h1, aJ] at this;exact this
theorem pz (hB : 1 < B) (n : Nat) : n < B ^ (aQ B n).length := by
 have := ij (dI (B := B) Sd n).1;rwa [dJ hB] at this
theorem nu (hB : 1 < B) {a b : Nat} (h : a ≤ b) : (aQ B a).length ≤ (aQ B b).length :=
 (dI Sd a).tT (dI Sd b) hB (by rw [dJ hB, dJ hB]; exact h)
theorem yc (hB : 1 < B) {i : Nat} (h : i < (aQ B n).length) : (aQ B n)[i]? = some (n / B ^ i % B) := by
 have h1 := Ts h;rw [h1];have h2 := rF (dI (B := B) Sd n).1 h1;rw [dJ hB] at h2;rw [h2]
theorem Fi (hB : 1 < B) (h : n ≠ 0) : aQ B n = n % B :: aQ B (n / B) := by
 refine (dI Sd n).inj ⟨Dg.cons (SO _ Sd) (dI Sd _).1, ?_⟩ hB ?_
 ·cases hd : aQ B (n / B) with
  | nil =>
   rw [tJ hB] at hd;have : n = n % B := by have := TY n B; rw [hd] at this; simpa using this.symm
   simp only [List.getLast?_singleton];intro h0; injection h0 with h0; omega
  | cons e m =>
   rw [List.getLast?_cons_cons, ← hd];exact (dI Sd _).2
 ·rw [dJ hB, bk, dJ hB]; have := TY n B; omega
theorem Ib (hB : 1 < B) (h : n < B ^ k) : bI B k n = aQ B n ++ List.replicate (k - (aQ B n).length) 0 := by
 have hl := gO hB h;refine xe (B := B) (fT Sd _ _) ((dI Sd _).1.append (Dg.uC Sd _)) ?_ ?_
 ·rw [aJ, Sr, TP]; omega
 ·rw [cU h, eF, dJ hB, qb]; simp
end
section
variable {B : Nat}
def xy : List Nat → Nat
 | [] => 0
 | d :: _ => d
theorem Gx (ys : List Nat) : bk B ys = xy ys + B * bk B ys.tail := by cases ys <;> simp [bk, xy]
theorem Ny {ys : List Nat} (h : Dg B ys) (hB : 0 < B) : xy ys < B := by
 cases ys with
 | nil => exact hB
 | cons d l => exact h.head
theorem Dg.tl {ys : List Nat} (h : Dg B ys) : Dg B ys.tail := by
 cases ys with
 | nil => exact h
 | cons d l => exact h.tail
theorem sL (ys : List Nat) (i : Nat) : xy (ys.drop i) = (ys[i]?).getD 0 := by
 induction ys generalizing i with
 | nil => simp [xy]
 | cons d l ih => cases i with
  | zero => rfl
  | succ i => simpa using ih i
theorem tail_drop (ys : List Nat) (i : Nat) : (ys.drop i).tail = ys.drop (i + 1) := by
 induction ys generalizing i with
 | nil => simp
 | cons d l ih => cases i with
  | zero => rfl
  | succ i => simp
theorem yd {B a b : Nat} (hB : 0 < B) (h : a + B * b < B * n) : b + a / B < n := by
 have h1 : (a + B * b) / B < n := by rw [TO hB, SS n]; exact h
 rw [TE _ _ hB] at h1;omega
def gU (B : Nat) : List Nat → List Nat → Nat → Nat → List Nat
 | [], _, _, _ => []
 | x :: xs, ys, m, c => (x + xy ys * m + c) % B :: gU B xs ys.tail m ((x + xy ys * m + c) / B)
theorem oE (xs ys : List Nat) (m c : Nat) : (gU B xs ys m c).length = xs.length := by
 induction xs generalizing ys c with
 | nil => rfl
 | cons x xs ih => simp [gU, ih]
theorem yu (hB : 0 < B) (xs ys : List Nat) (m c : Nat) : Dg B (gU B xs ys m c) := by
 exact PO
theorem vr (hB : 0 < B) (xs ys : List Nat) (m c : Nat) (h : bk B xs + bk B ys * m + c < B ^ xs.length) : bk B (gU B xs ys m c) = bk B xs + bk B ys * m + c := by
 induction xs generalizing ys c with
 | nil => simp only [U3, UP, bk] at h; simp only [gU, bk]; omega
 | cons x xs ih =>
  have e : bk B (x :: xs) + bk B ys * m + c = (x + xy ys * m + c) + B * (bk B xs + bk B ys.tail * m) := by
   rw [bk, Gx ys, Up, Te, Ti]; omega
  rw [SG, Ta, SS _ B, e] at h;have h1 := yd hB h;simp only [gU, bk];rw [ih _ _ h1, ← bk, e, Te];have := UD (x + xy ys * m + c) B;omega
def q5 (B : Nat) : List Nat → List Nat → Nat → List Nat
 | [], _, _ => []
 | x :: xs, ys, b => (x + B - xy ys - b) % B :: q5 B xs ys.tail (if x < xy ys + b then 1 else 0)
def yw (B : Nat) : List Nat → List Nat → Nat → Nat
 | [], _, b => b
 | x :: xs, ys, b => yw B xs ys.tail (if x < xy ys + b then 1 else 0)
theorem Jn (hB : 0 < B) (xs ys : List Nat) (c : Nat) : Dg B (q5 B xs ys c) := by
 exact PO
theorem F1 (hB : 0 < B) (xs ys : List Nat) (b : Nat) (hx : Dg B xs) (hy : Dg B ys) (hb : b ≤ 1) (h : bk B ys + b ≤ bk B xs) : bk B (q5 B xs ys b) + bk B ys + b = bk B xs ∧ yw B xs ys b = 0 := by
 induction xs generalizing ys b with
 | nil => simp only [bk] at h; simp only [q5, yw, bk]; omega
 | cons x xs ih =>
  have hx0 := hx.head;have hy0 := Ny hy hB;have e := Gx (B := B) ys;simp only [bk, q5, yw] at h ⊢;by_cases hlt : x < xy ys + b
  ·rw [Sj hlt];have h1 : bk B ys.tail + 1 ≤ bk B xs := by
    refine U6 fun hle => ?_;have := SX B hle;omega
   obtain ⟨i1, i2⟩ := ih ys.tail 1 hx.tail hy.tl Sd h1;refine ⟨?_, i2⟩;have h2 := Tm (B * ·) i1;simp only [Te] at h2;rw [SY Sd];omega
  ·rw [Si hlt];have h1 : bk B ys.tail + 0 ≤ bk B xs := by
    refine Nat.le_of_not_lt fun hle => ?_;have := SX B (Nat.succ_le_of_lt hle);simp only [TZ, TB] at this;omega
   obtain ⟨i1, i2⟩ := ih ys.tail 0 hx.tail hy.tl Sd h1;refine ⟨?_, i2⟩;have h2 := Tm (B * ·) i1;simp only [Te, TB] at h2;have h3 : x + B - xy ys - b = (x - xy ys - b) + B := Sd;rw [h3, Nat.add_mod_right, SY Sd];omega
theorem Ja (xs : List Nat) (i d : Nat) {o : Nat} (hi : xs[i]? = some o) : bk B (xs.set i d) + B ^ i * o = bk B xs + B ^ i * d := by
 induction xs generalizing i with
 | nil => simp at hi
 | cons x xs ih =>
  cases i with
  | zero => simp only [UX, T3] at hi; subst hi; simp only [Sy, bk, UP, T6]; omega
  | succ i =>
   have := Tm (B * ·) (ih i hi);simp only [Te, ← Ti] at this;simp only [Tb, bk, Ta, SS _ B];omega
theorem Bb {l m : List Nat} {x y : Nat} (hl : Dg B l) (hlen : l.length = m.length) (h : x < y) : bk B (l ++ [x]) < bk B (m ++ [y]) := by
 rw [eF, eF, hlen];have h1 := ij hl;rw [hlen] at h1;have h2 : B ^ m.length * (x + 1) ≤ B ^ m.length * y := SX _ h;simp only [bk, Nat.mul_zero, TB, TZ] at h2 ⊢;omega
def kF (a b : Nat) : Int := if a < b then -1 else if b < a then 1 else 0
theorem k8 {a b : Nat} (h : a < b) : kF a b = -1 := by simp [kF, h]
theorem wM {a b : Nat} (h : b < a) : kF a b = 1 := by simp only [kF]; rw [Si Sd, Sj h]
theorem CO {a b : Nat} (h : a = b) : kF a b = 0 := by simp only [kF]; rw [Si Sd, Si Sd]
theorem vu {xs ys : List Nat} {x y : Nat} (hx : Dg B xs) (hxk : xs[k]? = some x) (hyk : ys[k]? = some y) (hd : xs.drop (k + 1) = ys.drop (k + 1)) (hlt : x < y) : bk B xs < bk B ys := by
 have lx := (SC.1 hxk).1;have ly := (SC.1 hyk).1;rw [iU xs (k + 1) lx, iU ys (k + 1) ly, hd];have e1 : xs.take (k + 1) = xs.take k ++ [x] := by rw [List.take_add_one, hxk]; rfl
 have e2 : ys.take (k + 1) = ys.take k ++ [y] := by rw [List.take_add_one, hyk]; rfl
 have := Bb (B := B) (m := ys.take k) (hx.take k) (by rw [SP, SP]; omega) hlt;rw [e1, e2];omega
theorem xn {xs ys : List Nat} {x y : Nat} (hxk : xs[k]? = some x) (hyk : ys[k]? = some y) (hd : xs.drop (k + 1) = ys.drop (k + 1)) (h : x = y) : xs.drop k = ys.drop k := by
 obtain ⟨lx, ex⟩ := SC.1 hxk;obtain ⟨ly, ey⟩ := SC.1 hyk;rw [T4 lx, T4 ly, hd, ex, ey, h]
end
section
variable {B : Nat}
theorem om {v : Nat} (hB : 0 < B) (hj : j < k) (hn : n + B ^ j * v < B ^ k) (hv : n / B ^ j % B + v < B) : (bI B k n).set j (n / B ^ j % B + v) = bI B k (n + B ^ j * v) := by
 refine xe (B := B) ((fT hB _ _).KE _ hv) (fT hB _ _) (by rw [TL, aJ, aJ]) ?_;have h1 := Ja (B := B) (bI B k n) j (n / B ^ j % B + v) (ic k n j hj);rw [cU Sd] at h1;rw [cU hn];rw [Te] at h1;omega
theorem qk (k : Nat) : bI B k 0 = List.replicate k 0 := by
 induction k with
 | zero => rfl
 | succ k ih => simp [bI, ih, UC]
def yp (s : List UInt8) : List Nat := (s.map UInt8.toNat).reverse
def bn (s : List UInt8) : Nat := bk 256 (yp s)
def sb (n : Nat) : List UInt8 := ((aQ 256 n).map UInt8.ofNat).reverse
theorem nH (s : List UInt8) : (yp s).length = s.length := by simp [yp]
theorem wj (s : List UInt8) : Dg 256 (yp s) := fun d hd => by
 obtain ⟨c, _, rfl⟩ := SB.1 (Ui.1 hd);exact c.toNat_lt
theorem La (s : List UInt8) : bn s < 256 ^ s.length := by have := ij (wj s); rwa [nH] at this
theorem HS {s : List UInt8} {i : Nat} {c : UInt8} (hi : i < s.length) (h : s[s.length - 1 - i]? = some c) : (yp s)[i]? = some c.toNat := by
 unfold yp;rw [TI (by simpa using hi), Sx, St, h]; rfl
theorem It (n : Nat) : yp (sb n) = aQ 256 n := by
 unfold yp sb;rw [List.map_reverse, U0, Ty];have : ∀ l : List Nat, Dg 256 l → l.map (UInt8.toNat ∘ UInt8.ofNat) = l := by
  intro l
  induction l with
  | nil => intro _; rfl
  | cons d l ih =>
   intro h;have hd := h.head;simp only [SW, ih h.tail, Function.comp];congr 1;simp only [UInt8.toNat_ofNat'];omega
 exact this _ (dI Sd n).1
theorem PC (n : Nat) : bn (sb n) = n := by rw [bn, It, dJ Sd]
theorem Em (n : Nat) : (sb n).length = (aQ 256 n).length := by simp [sb]
theorem Kx {s t : List UInt8} (h : yp s = yp t) : s = t := by
 have h1 := List.reverse_inj.1 h;exact (List.map_inj_right fun a b h => U2.1 h).1 h1
theorem O1 {s : List UInt8} (h : yp s = aQ 256 n) : s = sb n := Kx (by rw [h, It])
theorem J0 : sb 0 = [] := by rw [sb, fQ Sd]; rfl
theorem HX (s : List UInt8) : bn (0 :: s) = bn s := by
 unfold bn yp;rw [SW, Ue, eF]; simp [bk]
theorem O5 {s : List UInt8} (h : s.head? ≠ some 0) : sb (bn s) = s := by
 refine (O1 ?_).symm;rw [bn, y5 Sd ⟨wj s, ?_⟩];unfold yp;rw [List.getLast?_reverse, List.head?_map]
 cases s with
 | nil => simp
 | cons c s =>
  simp only [List.head?_cons, T5];intro h0;injection h0 with h0
  apply h;simp only [List.head?_cons];congr 1;exact U2.1 (by simpa using h0)
end
def bu (n : Nat) : Nat := (aQ 2 n).length
theorem ku : bu 0 = 0 := by rw [bu, fQ Sd]; rfl
theorem cW (n : Nat) : n < 2 ^ bu n := pz Sd n
theorem dt (h : n < 2 ^ k) : bu n ≤ k := gO Sd h
theorem Cf (h : n ≠ 0) : 2 ^ (bu n - 1) ≤ n := by
 have h1 := Iy (B := 2) (dI (B := 2) Sd n).2 (fun h0 => h ((tJ Sd).1 h0));rwa [dJ Sd] at h1
theorem od (h : n ≠ 0) : 0 < bu n := by
 rw [bu];have : aQ 2 n ≠ [] := fun h0 => h ((tJ Sd).1 h0);exact List.length_pos_iff.2 this
theorem C6 (h1 : n < 2 ^ k) (h2 : 2 ^ (k - 1) ≤ n) : bu n = k := by
 have h3 := dt h1
 rcases S6 (bu n) k with h | h
 ·have h4 := cW n;have h5 : 2 ^ bu n ≤ 2 ^ (k - 1) := S4 Sd Sd;omega
 ·omega
theorem G2 {B b : Nat} (hB : B = 2 ^ b) {l : List Nat} {d : Nat} (hl : Dg B l) (hlen : l.length = m) (hd : d ≠ 0) : bu (bk B (l ++ [d])) = b * m + bu d := by
 have hlt := ij hl;rw [hlen] at hlt;have hp : B ^ m = 2 ^ (b * m) := by rw [hB, ← S7]
 rw [eF, hlen];simp only [bk, Nat.mul_zero, TB];rw [hp] at hlt ⊢;apply C6
 ·have h1 := cW d;have h2 : 2 ^ (b * m) * (d + 1) ≤ 2 ^ (b * m) * 2 ^ bu d := SX _ h1;rw [SL];rw [TZ] at h2;omega
 ·have h1 := Cf hd;have h2 := od hd;have e : b * m + bu d - 1 = b * m + (bu d - 1) := Sd;rw [e, SL];have h3 : 2 ^ (b * m) * 2 ^ (bu d - 1) ≤ 2 ^ (b * m) * d := SX _ h1;omega
theorem Bn {a s : Nat} (h : a < 2 ^ s) : a ||| (c * 2 ^ s) = a + c * 2 ^ s := by
 have h1 := Nat.shiftLeft_add_eq_or_of_lt h c;rw [Nat.shiftLeft_eq] at h1;rw [Nat.or_comm, ← h1, Uj]
theorem KG {i : Nat} (n : Nat) (hn : n < 256 ^ i) (hc : c < 256) (hi : i / 8 < k) :
  n / 18446744073709551616 ^ (i / 8) % 18446744073709551616 < 2 ^ (i % 8 * 8) ∧ c * 2 ^ (i % 8 * 8) < 18446744073709551616 ∧
  (bI 18446744073709551616 k n).set (i / 8) (n / 18446744073709551616 ^ (i / 8) % 18446744073709551616 + c * 2 ^ (i % 8 * 8)) = bI 18446744073709551616 k (n + 256 ^ i * c) := by
 have hW : (18446744073709551616 : Nat) = 2 ^ 64 := by decide
 have h256 : (256 : Nat) = 2 ^ 8 := by decide
 have hp : 256 ^ i = 18446744073709551616 ^ (i / 8) * 2 ^ (i % 8 * 8) := by
  rw [hW, h256, ← S7, ← S7, ← SL]; congr 1; omega
 have h1 : n / 18446744073709551616 ^ (i / 8) < 2 ^ (i % 8 * 8) := by
  rw [TO (SV Se), SS, ← hp]; exact hn
 have hs : 2 ^ (i % 8 * 8) * 256 ≤ 18446744073709551616 := by
  rw [h256, hW, ← SL]; exact S4 Sd Sd
 have h2 : n / 18446744073709551616 ^ (i / 8) % 18446744073709551616 < 2 ^ (i % 8 * 8) := Tk (Nat.mod_le _ _) h1;have h3 : (c + 1) * 2 ^ (i % 8 * 8) ≤ 256 * 2 ^ (i % 8 * 8) := S9 _ hc;rw [Tl] at h3;have hpos : 0 < 2 ^ (i % 8 * 8) := SV Sd;refine ⟨h2, Sd, ?_⟩;have h4 : 256 ^ i * c = 18446744073709551616 ^ (i / 8) * (c * 2 ^ (i % 8 * 8)) := by rw [hp, Ti, SS c]
 rw [h4];refine om Se hi ?_ Sd;rw [← h4];have h5 : 256 ^ i * (c + 1) ≤ 256 ^ i * 256 := SX _ hc;have h6 : 256 ^ i * 256 ≤ 18446744073709551616 ^ k := by
  have : 256 ^ i * 256 = 2 ^ (8 * (i + 1)) := by rw [h256, ← S7, ← SL]; congr 1
  rw [this, hW, ← S7];exact S4 Sd Sd
 rw [TZ] at h5;omega
theorem D3 (n i : Nat) : n / 18446744073709551616 ^ (i / 8) % 18446744073709551616 / 2 ^ (i % 8 * 8) % 256 = n / 256 ^ i % 256 := by
 have hW : (18446744073709551616 : Nat) = 2 ^ 64 := by decide
 have h256 : (256 : Nat) = 2 ^ 8 := by decide
 have hp : 256 ^ i = 18446744073709551616 ^ (i / 8) * 2 ^ (i % 8 * 8) := by
  rw [hW, h256, ← S7, ← S7, ← SL]; congr 1; omega
 rw [hp, ← T2];generalize n / 18446744073709551616 ^ (i / 8) = m;have e : (18446744073709551616 : Nat) = 2 ^ (i % 8 * 8) * 2 ^ (64 - i % 8 * 8) := by rw [← SL, hW]; congr 1; omega
 rw [e, Nat.mod_mul_right_div_self];have e2 : 2 ^ (64 - i % 8 * 8) = 256 * 2 ^ (56 - i % 8 * 8) := by rw [h256, ← SL]; congr 1; omega
 rw [e2, Nat.mod_mul_right_mod]
theorem vi (n j s : Nat) (hs : s < 64) (h0 : 0 < s) :
  (n / 18446744073709551616 ^ j % 18446744073709551616 / 2 ^ s) < 2 ^ (64 - s) ∧
  n / 18446744073709551616 ^ j % 18446744073709551616 / 2 ^ s + n / 18446744073709551616 ^ (j + 1) % 2 ^ s * 2 ^ (64 - s) = n / 2 ^ (64 * j + s) % 18446744073709551616 := by
 have hW : (18446744073709551616 : Nat) = 2 ^ 64 := by decide
 have e : (18446744073709551616 : Nat) = 2 ^ s * 2 ^ (64 - s) := by rw [← SL, hW]; congr 1; omega
 have hp : (18446744073709551616 : Nat) ^ (j + 1) = 18446744073709551616 ^ j * 18446744073709551616 := Ta ..;rw [hp, ← T2, SL, S7, ← hW, ← T2];generalize n / 18446744073709551616 ^ j = m;have e1 : m % 18446744073709551616 / 2 ^ s = m / 2 ^ s % 2 ^ (64 - s) := by rw [e, Nat.mod_mul_right_div_self]
 rw [e1];refine ⟨SO _ (SV Sd), ?_⟩;have e2 : m / 18446744073709551616 = m / 2 ^ s / 2 ^ (64 - s) := by rw [e, ← T2]
 rw [e2];generalize m / 2 ^ s = q;have e3 : (18446744073709551616 : Nat) = 2 ^ (64 - s) * 2 ^ s := by rw [SS]; exact e
 rw [e3, Nat.mod_mul, SS (2 ^ (64 - s))]
theorem MX {d s : Nat} (hd : d < 18446744073709551616) (hs : s ≤ 64) : d * 2 ^ s % 18446744073709551616 + d / 2 ^ (64 - s) * 18446744073709551616 = d * 2 ^ s ∧ d / 2 ^ (64 - s) < 2 ^ s := by
 have hW : (18446744073709551616 : Nat) = 2 ^ 64 := by decide
 have e : (18446744073709551616 : Nat) = 2 ^ (64 - s) * 2 ^ s := by rw [← SL, hW]; congr 1; omega
 have h1 : d * 2 ^ s / 18446744073709551616 = d / 2 ^ (64 - s) := by rw [e, Nat.mul_div_mul_right _ _ (SV Sd)]
 rw [← h1];constructor
 ·have := UD (d * 2 ^ s) 18446744073709551616;omega
 ·rw [h1, TO (SV Sd), SS, ← e]; exact hd
def str (l : List UInt8) : ByteArray := ⟨l.toArray⟩
theorem eE (l : List UInt8) : (str l).data.toList = l := by simp [str]
theorem ti {a b : ByteArray} (h : a.data.toList = b.data.toList) : a = b := by
 cases a; cases b; congr 1; exact Array.ext' h
theorem ME (s : ByteArray) : str s.data.toList = s := ti (eE _)
theorem l7 (l : List UInt8) : (str l).size = l.length := by simp [str, ByteArray.size]
theorem dE (s : ByteArray) : s.size = s.data.toList.length := (Array.length_toList).symm
def bm (l : List Int) : List Value := l.map (Value.int .i64)
theorem cL (l : List Int) : (bm l).length = l.length := by simp [bm]
theorem cO {l : List Int} {x : Int} (h : l[k]? = some x) : (bm l)[k]? = some (.int .i64 x) := by simp [bm, h]
theorem Bf (a b : List UInt8) : nQ (a ++ b) = nQ a ++ nQ b := by simp [nQ]
theorem bU (l : List Int) : ((bm l).all Value.oneCell') = true := by simp [bm, Value.oneCell']
def yn (l : List ByteArray) : List Value := l.map Value.string
theorem qB (l : List ByteArray) : (yn l).length = l.length := by simp [yn]
theorem CY {l : List ByteArray} {x : ByteArray} (h : l[k]? = some x) : (yn l)[k]? = some (.string x) := by simp [yn, h]
theorem ay {l : List α} {x : α} (h : l[k]? = some x) : l.take (k + 1) = l.take k ++ [x] := by rw [List.take_add_one, h]; rfl
theorem av {l : List α} (h : k < l.length) : ∃ x, l[k]? = some x := ⟨_, Ts h⟩
def eI (l : List UInt8) : Bool := l.all fun c => decide (c.toNat < 128)
theorem EG (l : List UInt8) (c : UInt8) : eI (l ++ [c]) = (eI l && decide (c.toNat < 128)) := by simp [eI]
theorem Gr {l : List UInt8} {c : UInt8} (h : l[k]? = some c) (hc : ¬ c.toNat < 128) : eI l = false := by
 rw [← To (k + 1) l, ay h];simp only [eI, List.all_append];simp; omega
theorem rb {l : List UInt8} (h : eI l = true) {c : UInt8} (hc : l[k]? = some c) : c.toNat < 128 := by
 have := SU.1 h c (Sp hc);simpa using this
def cM (x : Int) : Bool := decide (0 ≤ x) && decide (x ≤ 127)
def z4 (x : Int) : UInt8 := UInt8.ofNat x.toNat
def IH (xs : List Int) : List UInt8 := if xs.all cM then xs.map z4 else []
def Je (xs : List Int) : Int := if xs.all cM then 0 else 3
theorem Nr {xs : List Int} {x : Int} (hx : xs[k]? = some x) (h : cM x = false) : IH xs = [] ∧ Je xs = 3 := by
 have : xs.all cM = false := by
  cases hc : xs.all cM with
  | false => rfl
  | true => rw [SU.1 hc x (Sp hx)] at h; cases h
 simp [IH, Je, this]
theorem rE {xs : List Int} (h : xs.all cM = true) : IH xs = xs.map z4 ∧ Je xs = 0 := by simp [IH, Je, h]
theorem Gz {p : α → Bool} {l : List α} {x : α} (h : l[k]? = some x) (h1 : (l.take k).all p = true) (h2 : p x = true) : (l.take (k + 1)).all p = true := by
 rw [ay h, List.all_append, h1]; simp [h2]
theorem JD {x : Int} (h : 0 ≤ x) (h2 : x ≤ 255) : IntKind.u8.wrap x = x := by
 have : IntKind.u8.wrap x = x % 256 := rfl;rw [this]; omega
theorem ra {x : Int} (h : cM x = true) : Value.int .u8 x = .int .u8 (z4 x).toNat := by
 simp only [cM, SE, SJ] at h;congr 1;simp only [z4, UInt8.toNat_ofNat'];omega
theorem GC {xs : List Int} {x : Int} (hx : xs[k]? = some x) (h : cM x = true) : nQ ((xs.take k).map z4) ++ [.int .u8 x] = nQ ((xs.take (k + 1)).map z4) := by
 rw [ay hx, Tt, Bf, ra h]; rfl
def ints (l : List UInt8) : List Int := l.map fun c => (c.toNat : Int)
def jh (l : List UInt8) : List Int := if eI l then ints l else []
def Rr (l : List UInt8) : Int := (jh l).sum
theorem cK (l : List UInt8) : (ints l).length = l.length := by simp [ints]
theorem tR {l : List UInt8} {c : UInt8} (h : l[k]? = some c) : bm (ints (l.take k)) ++ [.int .i64 c.toNat] = bm (ints (l.take (k + 1))) := by
 rw [ay h]; simp [bm, ints]
def lenOf : Value → Nat | .slice _ n _ => n | _ => 0
theorem kB {l : List UInt8} (h : eI l = true) : jh l = ints l := by simp [jh, h]
theorem GI {l : List UInt8} (h : eI l = false) : jh l = [] := by simp [jh, h]
theorem Kt {l : List UInt8} {c : UInt8} (h : l[k]? = some c) : (ints l)[k]? = some (c.toNat : Int) := by simp [ints, h]
theorem BK {l : List UInt8} {x : Int} (h : (jh l)[k]? = some x) : 0 ≤ x ∧ x ≤ 127 := by
 unfold jh at h;split at h
 ·rename_i hm;simp only [ints, St, TH] at h;obtain ⟨c, hc, rfl⟩ := h;have := rb hm hc;omega
 ·simp at h
def jc (f : Int → Int → Int) (a b : List UInt8) : Option (List Int) :=
 if eI a && (eI b && decide ((b.length : Int) = a.length)) then some (List.zipWith f (ints a) (ints b)) else none
def mulL (a b : List UInt8) : List UInt8 × Int :=
 match jc (· + ·) a b with | some l => (IH l, Je l) | none => ([], 1)
def RA (a b : List UInt8) : List UInt8 × Bool :=
 match jc (· - ·) a b with | some l => (IH l, decide (Je l = 0)) | none => ([], false)
theorem H6 {f : Int → Int → Int} {a b : List Int} {x y : Int} (hx : a[k]? = some x) (hy : b[k]? = some y) : (List.zipWith f a b)[k]? = some (f x y) := by
 simp [List.getElem?_zipWith, hx, hy]
def lX (f : Int → Int → Int) (a b : List Int) (k : Nat) : List Int := (List.zipWith f a b).take k ++ b.drop k
theorem G9 (f : Int → Int → Int) (a b : List Int) : lX f a b 0 = b := by simp [lX]
theorem Kn {f : Int → Int → Int} {a b : List Int} (h : a.length = b.length) (hk : k ≤ b.length) : (lX f a b k).length = b.length := by
 simp [lX, h]; omega
theorem Nm {f : Int → Int → Int} {a b : List Int} (h : a.length = b.length) {y : Int} (hy : b[k]? = some y) : (lX f a b k)[k]? = some y := by
 have hk : k < b.length := (SC.1 hy).1;unfold lX;rw [Tu (by simp [h]; omega)];simp [h, Tp (Nat.le_of_lt hk), hy]
theorem KB {f : Int → Int → Int} {a b : List Int} (h : a.length = b.length) {x y : Int} (hx : a[k]? = some x) (hy : b[k]? = some y) :
  bM (bm (lX f a b k)) k [.int .i64 (f x y)] = bm (lX f a b (k + 1)) := by
 have hk : k < b.length := (SC.1 hy).1;have hl : ((List.zipWith f a b).take k).length = k := by simp [h]; omega
 have e1 : (lX f a b k).take k = (List.zipWith f a b).take k := by
  unfold lX; rw [List.take_append_of_le_length Sd, Su Sd]
 have e2 : (lX f a b k).drop (k + 1) = b.drop (k + 1) := by
  unfold lX;rw [List.drop_append, hl, Uf Sd, show k + 1 - k = 1 by omega, U9];simp
 simp only [bM, bm, ← List.map_take, ← UN, SG, U3, SM, e1, e2];unfold lX;rw [ay (H6 hx hy)];simp
theorem Hz {f : Int → Int → Int} {a b : List Int} (h : a.length = b.length) : lX f a b b.length = List.zipWith f a b := by
 unfold lX;rw [Su (by simp [h]), List.drop_length, S3]
theorem x6 {l : List Int} (y : Int) (h : k < l.length) : bM (bm l) (k * 1) [.int .i64 y] = bm (l.set k y) := by
 rw [SI, cB (by rw [cL]; exact h)];unfold bm;rw [Ua]
section
variable {P : Program} {N : Nat} {ops : Array Oper} {Q : Kq} {ρ : Rf} {w : World} {rest : List Oper} {d : Nat} {ty : TypeId} {pos : String} {af : Array Edge}
theorem j3 {f : FuncId} {ts : Array TypeId} {v : Value} (hc : (callFunc f vs.toArray).run P w = .ok (.value v) w) (ha : uM ρ args.toList = vs) (hN : d < N) (kk : WL .plain P N ops Q rest (cx ρ d v) w) :
  WL .plain P N ops Q (⟨some d, .call ⟨.value (.func f), args, ts⟩, ty, pos, af, none⟩ :: rest) ρ w := by
 have hr : (execOp (ev ρ) ⟨some d, .call ⟨.value (.func f), args, ts⟩, ty, pos, af, none⟩).run P w = .ok (.value v) w := by
  have hx : ev ρ (.func f) = .func (.func f) #[] #[] := rfl;simp only [execOp, resolve, Deferred.ofValue, hx, invoke, mW args ha];simpa using hc
 exact aM rfl rfl hN hr kk
end
theorem jB (x y c : Nat) (hc : c ≤ 1) (w : World) :
  (callFunc 261 #[.int .u64 x, .int .u64 y, .int .u64 c]).run Tryz.prog w =
   .ok (.value (.tuple #[.int .u64 (((x + y + c) % 18446744073709551616 : Nat) : Int), .int .u64 (((x + y + c) / 18446744073709551616 : Nat) : Int)])) w := by
 rw [run_callFunc_extern Tryz.func261 Sf Sf Sf (e := add64Entry) Sf, run_add64 x y c Sd Sd Sd Sd];simp only [Result.andThen];congr 5 <;> omega
def GY : Array Value → Sem Value := fun args => do
 let (x, y, b) ← Extern.MathBitsCarry.three "Sub64" args
 pure (Extern.MathBitsCarry.pair ((x + Extern.MathBitsCarry.m64 - y - b) % Extern.MathBitsCarry.m64) (if x < y + b then 1 else 0))
theorem Br (x y b : Nat) (hb : b ≤ 1) (w : World) :
  (GY #[.int .u64 x, .int .u64 y, .int .u64 b]).run P w =
   .ok (.tuple #[.int .u64 (((x + 18446744073709551616 - y - b) % 18446744073709551616 : Nat) : Int), .int .u64 ((if x < y + b then 1 else 0 : Nat) : Int)]) w := by
 have : b = 0 ∨ b = 1 := Sd
 rcases this with rfl | rfl <;> rfl
theorem uz (x y b : Nat) (hb : b ≤ 1) (w : World) :
  (callFunc 262 #[.int .u64 x, .int .u64 y, .int .u64 b]).run Tryz.prog w =
   .ok (.value (.tuple #[.int .u64 (((x + 18446744073709551616 - y - b) % 18446744073709551616 : Nat) : Int), .int .u64 ((if x < y + b then 1 else 0 : Nat) : Int)])) w := by
 rw [run_callFunc_extern Tryz.func262 Sf Sf Sf (e := GY) Sf, Br x y b hb]
 rfl
theorem qQ (x y : Nat) (w : World) (hx : x < 18446744073709551616) (hy : y < 18446744073709551616) :
  Calls Tryz.prog 267 #[.int .u64 (x : Int), .int .u64 (y : Int)] w fun e w' => e = .returned (.tuple #[.int .u64 ((x * y / 18446744073709551616 : Nat) : Int), .int .u64 ((x * y % 18446744073709551616 : Nat) : Int)]) ∧ Below w.heap.size w w' := by
 refine aj (N := 51) (l := [.int .u64 (x : Int), .int .u64 (y : Int)]) Tryz.func267 rfl rfl (by simp) ?_;refine sr (aI (aI (aa (sr (mI ?_)))));refine G8 ?_;refine aI (aa (sr (mI ?_)));refine u1 ?_;refine aI (aa (sr (mI ?_)));refine G8 ?_;refine aI (aa (sr (mI ?_)));refine u1 ?_;refine aI (aa (sr (mI (mI ?_))));refine p5 rfl rfl Se ?_;refine aI (aa (sr (mI (mI ?_))));refine p5 rfl rfl Se ?_;refine mI ?_;refine u1 ?_;refine il rfl rfl Se ?_;refine aI (aa (sr (mI ?_)));refine G8 ?_;refine aI (aa (sr (mI ?_)));refine u1 ?_;refine aI (aa (sr (mI (mI (mI ?_)))));refine p5 rfl rfl Se ?_;refine il rfl rfl Se ?_;refine aI (aa (sr (mI (mI ?_))));refine p5 rfl rfl Se ?_;refine mI ?_;refine il rfl rfl Se ?_;refine mI ?_;refine u1 ?_;refine il rfl rfl Se ?_;refine aI (aa (sr (mI (mI ?_))));refine p5 rfl rfl Se ?_;refine aI (aa (au ?_));refine Fx ?_;obtain ⟨bd, bt, bw, hhi⟩ := Lib.mul64_hi x y hx hy;have ba := Lib.half_mul_le (a := x / 4294967296) (b := y / 4294967296) Sd Sd;have bb := Lib.half_mul_le (a := x / 4294967296) (b := y % 4294967296) Sd Sd;have bc := Lib.half_mul_le (a := x % 4294967296) (b := y / 4294967296) Sd Sd
 have em : ∀ z : Nat, z &&& 4294967295 = z % 4294967296 := fun z => Nat.and_two_pow_sub_one_eq_mod z 32;simp only [em];have hb : x * y / 18446744073709551616 < 18446744073709551616 := by
  rw [TO Sd];exact Nat.mul_lt_mul'' hx hy
 refine ⟨?_, Below.refl _ _⟩;congr 5;rw [SY bd, SY (show x / 4294967296 * (y % 4294967296) < 18446744073709551616 by omega), SY bt, SY (show x % 4294967296 * (y / 4294967296) < 18446744073709551616 by omega), SY bw, SY (show x / 4294967296 * (y / 4294967296) < 18446744073709551616 by omega)];have key : ∀ A T V : Nat, A + T + V < 18446744073709551616 → ((A + T) % 18446744073709551616 + V) % 18446744073709551616 = A + T + V := by intro A T V h; omega
 rw [← hhi] at hb ⊢;exact Tm Nat.cast (key _ _ _ hb)
theorem gL {x : Nat} (hm : 2 ^ k = m) (h : m ≤ x) : bu x = k + bu (x / m) := by
 subst hm;have h0 : x / 2 ^ k ≠ 0 := by
  have := (Nat.div_pos_iff (a := x) (b := 2 ^ k)).2 ⟨SV Sd, h⟩;omega
 have h1 := cW (x / 2 ^ k);have h2 := Cf h0;have h3 := od h0;have h4 := TY x (2 ^ k);have h5 := SO x (SV (n := k) (show 0 < 2 by omega));apply C6
 ·rw [SL];have : 2 ^ k * (x / 2 ^ k + 1) ≤ 2 ^ k * 2 ^ bu (x / 2 ^ k) := SX _ h1;rw [TZ] at this;omega
 ·have e : k + bu (x / 2 ^ k) - 1 = k + (bu (x / 2 ^ k) - 1) := Sd;rw [e, SL];have : 2 ^ k * 2 ^ (bu (x / 2 ^ k) - 1) ≤ 2 ^ k * (x / 2 ^ k) := SX _ h2;omega
theorem kf {T : ByteArray} (hT : T.data.toList = (List.range 256).map fun n => UInt8.ofNat (bu n)) (h : n < 256) : ∃ c : UInt8, T.data.toList[n]? = some c ∧ c.toNat = bu n ∧ bu n ≤ 8 := by
 have hb : bu n ≤ 8 := dt Sd;refine ⟨UInt8.ofNat (bu n), ?_, ?_, hb⟩
 ·rw [hT, St, S8 h]; rfl
 ·rw [UInt8.toNat_ofNat']; omega
theorem yx (x : Nat) (w : World) (hx : x < 18446744073709551616) :
  Calls Tryz.prog 271 #[.int .u64 (x : Int)] w fun e w' => e = .returned (.int .i64 (bu x)) ∧ Below w.heap.size w w' := by
 refine aj (N := 25) (l := [.int .u64 (x : Int)]) Tryz.func271 rfl rfl (by simp) ?_;by_cases h32 : 4294967296 ≤ x
 ·have := gL (x := x) (k := 32) (m := 4294967296) rfl h32;refine sr (aI (aa (ah (sr (mI ?_)))));refine ee (aa (cT (sr (mI ?_))));refine u1 ?_;refine aI (aa (al (aI (aa (ah (sr (mI ?_)))))));by_cases h16 : 65536 ≤ (x / 4294967296)
  ·have := gL (x := (x / 4294967296)) (k := 16) (m := 65536) rfl h16;refine ee (aa (cT (sr (mI ?_))));refine lg (s := 16) (m := 65536) rfl rfl Se Se Se ?_;refine aI (aa (al (mI ?_)));refine a9 (aI (aa (ah (sr (mI ?_)))));by_cases h8 : 256 ≤ ((x / 4294967296) / 65536)
   ·have := gL (x := ((x / 4294967296) / 65536)) (k := 8) (m := 256) rfl h8;refine ee (aa (cT (sr (mI ?_))));refine Cc ?_;refine aI (aa (al (mI ?_)));refine a9 (aI (aa (sr (mI (mI ?_)))));refine lR ?_;obtain ⟨cc, hcc, hcv, hcb⟩ := kf (T := _) Sf (n := (((x / 4294967296) / 65536) / 256)) Sd;exact Lx
   ·refine CH ?_;refine lR ?_;obtain ⟨cc, hcc, hcv, hcb⟩ := kf (T := _) Sf (n := (((x / 4294967296) / 65536))) Sd;exact Lx
  ·refine ee (aa (cF (aq (ai (ah (sr (mI ?_)))))));by_cases h8 : 256 ≤ ((x / 4294967296))
   ·have := gL (x := ((x / 4294967296))) (k := 8) (m := 256) rfl h8;refine ee (aa (cT (sr (mI ?_))));refine Cc ?_;refine aI (aa (al (mI ?_)));refine a9 (aI (aa (sr (mI (mI ?_)))));refine lR ?_;obtain ⟨cc, hcc, hcv, hcb⟩ := kf (T := _) Sf (n := (((x / 4294967296)) / 256)) Sd;exact Lx
   ·refine CH ?_;refine lR ?_;obtain ⟨cc, hcc, hcv, hcb⟩ := kf (T := _) Sf (n := (((x / 4294967296)))) Sd;exact Lx
 ·refine sr (aI (aa (ah (sr (mI ?_)))));refine ee (aa (cF (aq (ai (ah (sr (mI ?_)))))));by_cases h16 : 65536 ≤ (x)
  ·have := gL (x := (x)) (k := 16) (m := 65536) rfl h16;refine ee (aa (cT (sr (mI ?_))));refine lg (s := 16) (m := 65536) rfl rfl Se Se Se ?_;refine aI (aa (al (mI ?_)));refine a9 (aI (aa (ah (sr (mI ?_)))));by_cases h8 : 256 ≤ ((x) / 65536)
   ·have := gL (x := ((x) / 65536)) (k := 8) (m := 256) rfl h8;refine ee (aa (cT (sr (mI ?_))));refine Cc ?_;refine aI (aa (al (mI ?_)));refine a9 (aI (aa (sr (mI (mI ?_)))));refine lR ?_;obtain ⟨cc, hcc, hcv, hcb⟩ := kf (T := _) Sf (n := (((x) / 65536) / 256)) Sd;exact Lx
   ·refine CH ?_;refine lR ?_;obtain ⟨cc, hcc, hcv, hcb⟩ := kf (T := _) Sf (n := (((x) / 65536))) Sd;exact Lx
  ·refine ee (aa (cF (aq (ai (ah (sr (mI ?_)))))));by_cases h8 : 256 ≤ ((x))
   ·have := gL (x := ((x))) (k := 8) (m := 256) rfl h8;refine ee (aa (cT (sr (mI ?_))));refine Cc ?_;refine aI (aa (al (mI ?_)));refine a9 (aI (aa (sr (mI (mI ?_)))));refine lR ?_;obtain ⟨cc, hcc, hcv, hcb⟩ := kf (T := _) Sf (n := (((x)) / 256)) Sd;exact Lx
   ·refine CH ?_;refine lR ?_;obtain ⟨cc, hcc, hcv, hcb⟩ := kf (T := _) Sf (n := (((x)))) Sd;exact Lx
theorem Am (x : Nat) (w : World) (hx : x < 18446744073709551616) :
  Calls Tryz.prog 260 #[.int .u64 (x : Int)] w fun e w' => e = .returned (.int .i64 (64 - (bu x : Int))) ∧ Below w.heap.size w w' := by
 have hh := Hp.start w;have hb : bu x ≤ 64 := dt (by simpa using hx);refine aj (N := 6) (l := [.int .u64 (x : Int)]) Tryz.func260 rfl rfl (by simp) ?_;refine sr (aI (aa (sr (mI ?_))));refine br hh (yx _ _ hx) rfl ?_;intro w4 hh;refine eu (aI (aa (au ?_)));refine da ?_;exact ⟨rfl, hh.below⟩
def tz (n : Nat) : Nat := Int.trailingZeros (n : Int)
theorem Dx (k m : Nat) : tz (2 ^ k * (2 * m + 1)) = k := by
 have h := Int.trailingZeros_shiftLeft (x := 2 * (m : Int) + 1) Sd k;rw [Int.trailingZeros_two_mul_add_one, Int.shiftLeft_eq] at h;unfold tz;have e : ((2 ^ k * (2 * m + 1) : Nat) : Int) = (2 * (m : Int) + 1) * 2 ^ k := by
  rw [Tv, Int.natCast_pow, Int.mul_comm]; rfl
 rw [e];have e2 : (((2 ^ k : Nat)) : Int) = 2 ^ k := by simp
 rw [← e2] at h ⊢;simpa using h
theorem rD (h : n ≠ 0) : ∃ m, n = 2 ^ tz n * (2 * m + 1) := by
 have : ∀ b n : Nat, n ≤ b → n ≠ 0 → ∃ k m, n = 2 ^ k * (2 * m + 1) := by
  intro b
  induction b with
  | zero => intro n h1 h2; omega
  | succ b ih =>
   intro n h1 h2
   rcases Nat.mod_two_eq_zero_or_one n with h | h
   ·obtain ⟨k, m, hk⟩ := ih (n / 2) Sd Sd;exact ⟨k + 1, m, by rw [Ta, SS (2 ^ k), Ti, ← hk]; omega⟩
   ·exact ⟨0, n / 2, Sd⟩
 obtain ⟨k, m, hk⟩ := this n n (So _) h;exact ⟨m, by rw [hk, Dx]⟩
theorem vE (h : n ≠ 0) (hn : n < 2 ^ k) : tz n < k := by
 obtain ⟨m, hm⟩ := rD h
 rcases S6 (tz n) k with h1 | h1
 ·exact h1
 ·have h2 : 2 ^ k ≤ 2 ^ tz n := S4 Sd h1;have h3 : 2 ^ tz n * 1 ≤ 2 ^ tz n * (2 * m + 1) := SX _ Sd;omega
theorem yL (m m' j : Nat) (h : m + m' + 1 = 2 ^ j) : (2 * m + 1) &&& (2 * m' + 1) = 1 := by
 apply Nat.eq_of_testBit_eq;intro i;rw [Nat.testBit_and]
 cases i with
 | zero => simp
 | succ i =>
  rw [Nat.testBit_succ, Nat.testBit_succ, Nat.testBit_succ];have e1 : (2 * m + 1) / 2 = m := Sd;have e2 : (2 * m' + 1) / 2 = m' := Sd;have e3 : m' = 2 ^ j - (m + 1) := Sd;rw [e1, e2, e3, Nat.testBit_two_pow_sub_succ Sd]
  cases hi : m.testBit i <;> simp
theorem J6 {x : Nat} (hx : x = 2 ^ k * (2 * m + 1)) (hlt : x < 18446744073709551616) : x &&& (18446744073709551616 - x) % 18446744073709551616 = 2 ^ k := by
 have hW : (18446744073709551616 : Nat) = 2 ^ 64 := by decide
 have hk : k < 64 := by
  have := vE (n := x) (k := 64) (by rw [hx]; exact Nat.mul_ne_zero (Nat.pos_iff_ne_zero.1 (SV Sd)) Sd) (by rw [← hW]; exact hlt);rwa [hx, Dx] at this
 have hp : (18446744073709551616 : Nat) = 2 ^ k * (2 * 2 ^ (63 - k)) := by rw [hW, ← Nat.pow_succ', ← SL]; congr 1; omega
 have hm : m < 2 ^ (63 - k) := by
  rw [hx, hp] at hlt;have := Nat.lt_of_mul_lt_mul_left hlt;omega
 have e : (18446744073709551616 - x) % 18446744073709551616 = 2 ^ k * (2 * (2 ^ (63 - k) - (m + 1)) + 1) := by
  have h1 : 2 * (2 ^ (63 - k) - (m + 1)) + 1 = 2 * 2 ^ (63 - k) - (2 * m + 1) := Sd;rw [h1, Nat.mul_sub, ← hp, ← hx, SY];have : 0 < 2 ^ k * (2 * m + 1) := Nat.mul_pos (SV Sd) Sd;omega
 rw [e, hx];have h2 := yL m (2 ^ (63 - k) - (m + 1)) (63 - k) Sd;have h3 := Tm (· <<< k) h2;rw [Nat.shiftLeft_and_distrib] at h3;simp only [Nat.shiftLeft_eq, T6] at h3;rw [SS (2 ^ k), SS (2 ^ k)];exact h3
def AV : List Nat := [0, 1, 56, 2, 57, 49, 28, 3, 61, 58, 42, 50, 38, 29, 17, 4, 62, 47, 59, 36, 45, 43, 51, 22, 53, 39, 33, 30, 24, 18, 12, 5, 63, 55, 48, 27, 60, 41, 37, 16, 46, 35, 44, 21, 52, 32, 23, 11, 54, 26, 40, 15, 34, 20, 31, 10, 25, 14, 19, 9, 13, 8, 7, 6]
def dD (w : World) : Prop := Rd w ⟨0, 0, none⟩ (gl AV)
theorem dD.ext (h : dD w) (hb : Below w.heap.size w w') : dD w' := Rd.ext h hb
theorem dD.hp {H : List HE} (h : dD w) (hh : Hp w H w') : dD w' := Rd.ext h hh.below
theorem Nd : ∀ k : Fin 64, AV[2 ^ k.val * 285870213051353865 % 18446744073709551616 / 288230376151711744]? = some k.val ∧ 2 ^ k.val * 285870213051353865 % 18446744073709551616 / 288230376151711744 < 64 := by decide +kernel
theorem BH (x : Nat) (w : World) (hx : x < 18446744073709551616) (h0 : x ≠ 0) (hT : dD w) :
  Calls Tryz.prog 225 #[.int .u64 (x : Int)] w fun e w' => e = .returned (.int .i64 (tz x)) ∧ Below w.heap.size w w' := by
 have hh := Hp.start w;obtain ⟨m, hm⟩ := rD h0;have hk : tz x < 64 := vE h0 (by simpa using hx);have ha := J6 hm hx;obtain ⟨t1, t2⟩ := Nd ⟨tz x, hk⟩;simp only at t1 t2;have hc := (show Rd w _ _ from hT).DB (qd t1);refine aj (N := 14) (l := [.int .u64 (x : Int)]) Tryz.func225 rfl rfl (by simp) ?_;refine sr (aI (aa (ah (sr (mI ?_)))));refine cH (aa (cF (aq (ai (sr (mI (mI ?_)))))));refine Hy rfl (by first | assumption | omega) Se ?_;refine Ba rfl rfl hx (SO _ Se) Se ?_;rw [ha];skip;refine p5 (b := 285870213051353865) rfl rfl Se ?_;refine lg (s := 58) (m := 288230376151711744) rfl rfl Se Se Se ?_;refine AB bq.out aP.size rfl rfl rfl Sd Se ?_;refine cv aP.out rfl (hc) Se ?_;refine yG ?_;exact zh
end Go.Proofs.YteeckcbbnegmcaaGreatDoor
