/- Lemmas for calcEvals, part 6. -/
import Derived.Test.YtaapkaefelhfcaaGreatDoorZ5
/- The walks through ogeeref08.Degs and Own. -/
namespace Go.Proofs.YtaapkaefelhfcaaGreatDoor
open Go.RowKit
theorem rX (g : PX) (w : World) (hg : g.at_ w) (hn : g.n ≤ 1000000) :
  Calls Tryz.prog 19 #[.agg #[.int .i64 g.v, .slice g.A g.n g.c]] w fun r w' => ∃ h : PX, (h.v = g.v ∧ h.ts = g.ts ∧ h.n = g.n) ∧ r = .returned (.agg #[.int .i64 h.v, .slice h.A h.n h.c]) ∧ Hp w [h.row] w' := by
 have hh := Hp.start w
 have hgl := hg.ln
 have og := bf TR.one g.ts
 refine aj (N := 10) (l := [.agg #[.int .i64 g.v, .slice g.A g.n g.c]]) Tryz.func19 rfl rfl (by simp) ?_
 refine sr ?_
 refine cz hh [_,_] ?_
 intro b1 w1 hh
 refine cj hh ?_
 intro b2 w2 hh
 refine ae (ah ?_)
 refine mf [] [0, 1, 0, 0, 8, 28, 63, 127] 6 [[(1, none)], [(3, some 0)], [], [(1, none)], [(6, some 3)], [(5, some 2), (7, some 4)]] [(5, 8), (4, 7), (3, 6), (2, 5), (1, 4), (0, 3)] [([], 1, [(5, 8), (4, 7), (3, 6), (2, 5), (1, 4), (0, 3)])] hh mixed (by kernel_rfl) (by kernel_rfl) (by decide) ?_
 refine cw ?_
 refine dI 1 ?_
 refine wx (i := 2) aF.out aA.out (fun w1 hj => hj.bl.size) ?_
 refine cw ?_
 refine dI 1 ?_
 refine tF (i := 5) (fun ρ1 w1 hj hR => hR.1) (fun ρ1 w1 hj hR => ⟨_, _, (show ρ1 7 = Value.slice _ _ _ from hR.2.1), hg.ext hj.hp.below⟩) aF.out aA.out rfl (by decide) (by first | rfl | assumption) (by unfold maxLen; omega) (by omega) (fun w1 hj => hj.bl.size) ?_
 refine a6 ?_
 intro p_ hp_
 simp only [List.mem_cons, List.not_mem_nil, or_false] at hp_
 rcases hp_ with rfl
 intro f W hJ hV
 have hb_1 := hJ.bl
 obtain ⟨v8, v7, v6, v5, v4, v3, _⟩ := hV
 simp only [iB]
 have e3 : f 0 = _ := v3
 rw [e3]
 have e4 : f 1 = _ := v4
 rw [e4]
 obtain ⟨g5, e5, _⟩ : sI _ _ _ (f 2) W := v5
 rw [e5]
 have e6 : f 3 = _ := v6
 rw [e6]
 have e7 : f 4 = _ := v7
 rw [e7]
 obtain ⟨A8, c8, e8, o8⟩ : pD _ _ _ _ _ (f 5) W := v8
 rw [e8]
 replace hh := JJ.xI hh hJ.hp o8
 clear o8
 clear e3 e4 e5 e6 e7 e8 hJ
 refine eH [_,_] ?_
 refine cN ?_
 refine dY 7 (by decide) (by kernel_rfl) (by decide) (by kernel_rfl) (by kernel_rfl) ?_
 refine bD hh 1 [_,_] ?_
 intro ws hh
 replace hh : Hp _ (_ :: .blk _ _ [_, _] _ :: _) _ := hh
 refine ae (al ?_)
 refine gr (aH rfl (aG (vs := [_, _]) aA.out (hh.av (i := 1) (n := 2) rfl rfl) rfl) a9) ?_
 exact ⟨⟨g.v, A8, g.n, c8, g.ts⟩, ⟨rfl, rfl, rfl⟩, rfl, hh.sub (List.Sublist.cons_cons _ (List.nil_sublist _))⟩
end Go.Proofs.YtaapkaefelhfcaaGreatDoor
/- The walks through ogeeref08.Terms and Same. -/
namespace Go.Proofs.YtaapkaefelhfcaaGreatDoor
open Go.RowKit
theorem zq (n : Nat) (m m' : ByteArray) (s s' : Bool) (a a' : ByteArray) (e e' : Int) (w : World) : (Op.equalIn (n + 4) 55 (.agg #[.string m, .bool s, .string a, .int .i64 e]) (.agg #[.string m', .bool s', .string a', .int .i64 e'])).run Tryz.prog w = .ok (m == m' && ((s == s' && a == a') && e == e')) w := by
 have h1 := fun (u : ByteArray) (x : Bool) (y : ByteArray) (z : Int) => vv (P := Tryz.prog) (cs := #[.string u, .bool x, .string y, .int .i64 z]) (off := 0) (aA.out (P := Tryz.prog) (t := 9)) rfl
 have h2 := fun (u : ByteArray) (x : Bool) (y : ByteArray) (z : Int) => Al (P := Tryz.prog) (cs := #[.string u, .bool x, .string y, .int .i64 z]) (vs := #[.bool x, .string y, .int .i64 z]) (off := 1) (aA.out (P := Tryz.prog) (t := 29)) rfl
 rw [Op.equalIn]
 simp [run_underlying Tryz.underlying55, h1, h2, BR, uK]
 cases h : m == m' <;> cases h' : ((s == s' && a == a') && e == e') <;> simp_all
theorem tv {x y : TR} : (x.m == y.m && ((x.c.neg == y.c.neg && x.c.bu == y.c.bu) && x.c.e == y.c.e)) = true ↔ x = y := by
 obtain ⟨m, s, a, e⟩ := x
 obtain ⟨m', s', a', e'⟩ := y
 rw [Bool.and_eq_true, lP, xZ, TR.mk.injEq]
section
variable {ρ : Rf} {w : World} {d : Option Nat} {ty u : TypeId} {pos : String} {af : Array Edge} {g : Option (Nat × Bool)} {x y : Operand} {s t : TR}
theorem AD {r : Bool} (hx : ev ρ x = .agg s.cells.toArray) (hy : ev ρ y = .agg t.cells.toArray) (hr : (s.m == t.m && ((s.c.neg == t.c.neg && s.c.bu == t.c.bu) && s.c.e == t.c.e)) = r) :
  (execOp (ev ρ) ⟨d, .binOp .neq 55 x y u, ty, pos, af, g⟩).run Tryz.prog w = .ok (.value (.bool !r)) w := by
 have h1 : (Op.equal 55 (.agg s.cells.toArray) (.agg t.cells.toArray)).run Tryz.prog w = .ok r w := by rw [← hr]; exact zq 9996 s.m t.m s.c.neg t.c.neg s.c.bu t.c.bu s.c.e t.c.e w
 simp only [execOp, hx, hy]
 simp [eqGuard, binOp, h1]
theorem ze (hx : ev ρ x = .agg s.cells.toArray) (hy : ev ρ y = .agg t.cells.toArray) (h : s = t) :
  (execOp (ev ρ) ⟨d, .binOp .neq 55 x y u, ty, pos, af, g⟩).run Tryz.prog w = .ok (.value (.bool false)) w := AD hx hy (tv.2 h)
theorem Af (hx : ev ρ x = .agg s.cells.toArray) (hy : ev ρ y = .agg t.cells.toArray) (h : ¬ s = t) :
  (execOp (ev ρ) ⟨d, .binOp .neq 55 x y u, ty, pos, af, g⟩).run Tryz.prog w = .ok (.value (.bool true)) w := AD hx hy (r := false) (Bool.eq_false_iff.2 fun h1 => h (tv.1 h1))
end
theorem zH {α : Type} {a b : List α} {i : Nat} (ha : a.length ≤ i) (hb : b.length ≤ i) (h : a.take i = b.take i) : a = b := by
 rwa [List.take_of_length_le ha, List.take_of_length_le hb] at h
theorem rp (A : Option Addr) (n c : Nat) (a : List TR) (B : Option Addr) (m d : Nat) (b : List TR) (w : World) (hS : Sl w A n 4 (aP TR.cells a)) (hS2 : Sl w B m 4 (aP TR.cells b)) (hn : n ≤ 1000000) (hm : m ≤ 1000000) :
  Calls Tryz.prog 96 #[.slice A n c, .slice B m d] w fun r w' => ∃ v, r = .returned (.bool v) ∧ (v = true ↔ a = b) ∧ Below w.heap.size w w' := by
 have hh := Hp.start w
 have hla := hS.cx TR.len (by decide)
 have hlb := hS2.cx TR.len (by decide)
 by_cases hnm : n = m
 ·subst hnm
  refine aj (N := 26) (l := [.slice A n c, .slice B n d]) Tryz.func96 rfl rfl (by simp) ?_
  refine sr (aB (ae (ah (sr (mL (a0 (mL (a0 ?_))))))))
  refine cQ (ae (cF (ak (ai (ah (sr (aI (ae (ao ?_)))))))))
  refine bs [4, 5, 11, 12, 13, 14, 15, 16, 17, 18, 19, 20, 21, 22, 23, 24, 25] 5
   (fun v w' => ∃ i : Nat, i ≤ n ∧ v = .int .i64 i ∧ a.take i = b.take i ∧ Hp w [] w')
   (fun v _ => n - (intOf v).toNat) ?_ ?_
  ·exact ⟨0, Nat.zero_le _, rfl, rfl, hh⟩
  ·clear hh
   rintro ρ' v w' ⟨i, hi, rfl, he, hh⟩
   by_cases hlt : i < n
   ·obtain ⟨s, hs⟩ := aE (l := a) (k := i) (by omega)
    obtain ⟨t, ht⟩ := aE (l := b) (k := i) (by omega)
    obtain ⟨ad, rfl, hr⟩ := hS.at_ (by omega)
    obtain ⟨ad2, rfl, hr2⟩ := hS2.at_ (by omega)
    by_cases hst : s = t
    ·refine ah (sr (mI (mL (a0 ?_))))
     refine aW (ae (cT (ak (ai (ah (ao (ah ?_)))))))
     refine aU 8 [[(0, none)], [(5, none)], [(17, some 0), (18, some 1)], [(19, some 2)], [(1, none)], [(5, none)], [(21, some 4), (22, some 5)], [(23, some 6)]] [(7, 24), (6, 23), (5, 22), (4, 21), (3, 20), (2, 19), (1, 18), (0, 17)] hh mixed (by kernel_rfl) ?_
     refine fX ?_
     refine ej ?_
     refine jN (i) ?_
     refine qQ [_,_,_,_] (fun _ hj => (hr.ext hj.hp.below).recAt TR.len hs) ?_
     refine fX ?_
     refine ej ?_
     refine jN (i) ?_
     refine qQ [_,_,_,_] (fun _ hj => (hr2.ext hj.hp.below).recAt TR.len ht) ?_
     refine a6 ?_
     intro f W hJ hV
     have hb_6 := hJ.bl
     obtain ⟨v24, v23, v22, v21, v20, v19, v18, v17, _⟩ := hV
     replace hh := hJ.hp
     refine aK (a4 (aa v24 (aa v23 (aa v22 (aa v21 (aa v20 (aa v19 (aa v18 (aa v17 aM))))))))) ?_
     dsimp only [bX]
     clear hJ
     refine a5 rfl rfl (by decide) (ze (s := s) (t := t) rfl rfl hst) ?_
     skip
     refine ae (cF (ak (aT (ai (aq (mI ?_))))))
     refine bL (aI (aC (ai ?_)))
     refine ⟨⟨i + 1, by omega, rfl, by rw [aN hs, aN ht, he, hst], hh⟩, by show n - (i + 1) < n - i; omega, ?_⟩
     (repeat (first | exact aw _ _ _ | refine ax rfl ?_ | refine au rfl ?_))
    ·refine ah (sr (mI (mL (a0 ?_))))
     refine aW (ae (cT (ak (ai (ah (ao (ah ?_)))))))
     refine aU 8 [[(0, none)], [(5, none)], [(17, some 0), (18, some 1)], [(19, some 2)], [(1, none)], [(5, none)], [(21, some 4), (22, some 5)], [(23, some 6)]] [(7, 24), (6, 23), (5, 22), (4, 21), (3, 20), (2, 19), (1, 18), (0, 17)] hh mixed (by kernel_rfl) ?_
     refine fX ?_
     refine ej ?_
     refine jN (i) ?_
     refine qQ [_,_,_,_] (fun _ hj => (hr.ext hj.hp.below).recAt TR.len hs) ?_
     refine fX ?_
     refine ej ?_
     refine jN (i) ?_
     refine qQ [_,_,_,_] (fun _ hj => (hr2.ext hj.hp.below).recAt TR.len ht) ?_
     refine a6 ?_
     intro f W hJ hV
     have hb_6 := hJ.bl
     obtain ⟨v24, v23, v22, v21, v20, v19, v18, v17, _⟩ := hV
     replace hh := hJ.hp
     refine aK (a4 (aa v24 (aa v23 (aa v22 (aa v21 (aa v20 (aa v19 (aa v18 (aa v17 aM))))))))) ?_
     dsimp only [bX]
     clear hJ
     refine a5 rfl rfl (by decide) (Af (s := s) (t := t) rfl rfl hst) ?_
     skip
     refine ae (cT (sr (aB (ae (al (bP (aD (aD (bP (aD ?_))))))))))
     refine cn ?_
     refine ⟨_, rfl, ⟨fun h => (nomatch h), fun h => absurd ?_ hst⟩, hh.below⟩
     rw [h, ht] at hs
     exact (Option.some.inj hs).symm
   ·refine ah (sr (mI (mL (a0 ?_))))
    refine aW (ae (cF ?_))
    refine aO ?_
    refine ay (ay (a8 (ai (sr (aB (ae (al ?_)))))))
    refine cn ?_
    exact ⟨_, rfl, ⟨fun _ => zH (by omega) (by omega) he, fun _ => rfl⟩, hh.below⟩
 ·refine aj (N := 26) (l := [.slice A n c, .slice B m d]) Tryz.func96 rfl rfl (by simp) ?_
  refine sr (aB (ae (ah (sr (mL (a0 (mL (a0 ?_))))))))
  refine cQ (ae (cT (sr (aB (ae (al (aD ?_)))))))
  refine cn ?_
  exact ⟨_, rfl, ⟨fun h => (nomatch h), fun h => absurd (by rw [← hla, ← hlb, h]) hnm⟩, hh.below⟩
theorem mZ (p q : PX) (w : World) (hp : p.at_ w) (hq : q.at_ w) (hn : p.n ≤ 1000000) (hm : q.n ≤ 1000000) :
  Calls Tryz.prog 26 #[.agg #[.int .i64 p.v, .slice p.A p.n p.c], .agg #[.int .i64 q.v, .slice q.A q.n q.c]] w fun r w' => ∃ v, r = .returned (.bool v) ∧ (v = true ↔ p.v = q.v ∧ p.ts = q.ts) ∧ Below w.heap.size w w' := by
 have hh := Hp.start w
 have ht := fun w1 hb => rp p.A p.n p.c p.ts q.A q.n q.c q.ts w1 (hp.ext hb) (hq.ext hb) hn hm
 by_cases hv : p.v = q.v
 ·refine aj (N := 17) (l := [.agg #[.int .i64 p.v, .slice p.A p.n p.c], .agg #[.int .i64 q.v, .slice q.A q.n q.c]]) Tryz.func26 rfl rfl (by simp) ?_
  refine sr ?_
  refine cz hh [_,_] ?_
  intro b2 w2 hh
  refine cz hh [_,_] ?_
  intro b3 w3 hh
  refine aB (ae (sr (bB ?_)))
  refine bE hh 1 ?_
  refine bB ?_
  refine bE hh 0 ?_
  refine cu (mB ?_)
  first | refine gS ?_ | (refine gT ?_; refine bB ?_) | refine gV ?_
  first | refine gS ?_ | (refine gT ?_; refine bE hh 1 ?_) | refine gV ?_
  first | refine gS ?_ | (refine gT ?_; refine bB ?_) | refine gV ?_
  first | refine gS ?_ | (refine gT ?_; refine bE hh 0 ?_) | refine gV ?_
  refine bq rfl rfl ?_
  refine aR (ht _ hh.below) ar.out rfl (by decide) ?_
  rintro e_ w15 ⟨v_, rfl, hv_, hb_⟩
  refine ⟨_, rfl, ?_⟩
  replace hh := hh.ext hb_
  first | refine cS ?_ | refine cU ?_
  refine aB (ae (al ?_))
  refine cn ?_
  exact ⟨v_, rfl, hv_.trans ⟨fun h => ⟨hv, h⟩, fun h => h.2⟩, hh.below⟩
 ·refine aj (N := 17) (l := [.agg #[.int .i64 p.v, .slice p.A p.n p.c], .agg #[.int .i64 q.v, .slice q.A q.n q.c]]) Tryz.func26 rfl rfl (by simp) ?_
  refine sr ?_
  refine cz hh [_,_] ?_
  intro b2 w2 hh
  refine cz hh [_,_] ?_
  intro b3 w3 hh
  refine aB (ae (sr (bB ?_)))
  refine bE hh 1 ?_
  refine bB ?_
  refine bE hh 0 ?_
  refine cu (mB ?_)
  first | refine gS ?_ | (refine gT ?_; refine bB ?_) | refine gV ?_
  first | refine gS ?_ | (refine gT ?_; refine bE hh 1 ?_) | refine gV ?_
  first | refine gS ?_ | (refine gT ?_; refine bB ?_) | refine gV ?_
  first | refine gS ?_ | (refine gT ?_; refine bE hh 0 ?_) | refine gV ?_
  refine cd (by decide) rfl rfl (by decide) ?_
  first | refine cS ?_ | refine cU ?_
  refine aB (ae (al ?_))
  refine cn ?_
  exact ⟨_, rfl, ⟨fun h => (nomatch h), fun h => absurd h.1 hv⟩, hh.below⟩
end Go.Proofs.YtaapkaefelhfcaaGreatDoor
/- The walks through ogeelaw08's own helpers. -/
namespace Go.Proofs.YtaapkaefelhfcaaGreatDoor
open Go.RowKit
def CK (a : NR) : Bool := decide ((24 : Int) < a.bu.size ∨ a.e < -300 ∨ 300 < a.e)
structure CY (ts : List TR) : Prop where
 n : ts.length ≤ 12
 ok : fT 492 ts
 sz : ∀ t ∈ ts, t.m.size ≤ 50
end Go.Proofs.YtaapkaefelhfcaaGreatDoor
/- Plain: what polynomials come to hangs on their variables and terms alone; how long it is. -/
namespace Go.Proofs.YtaapkaefelhfcaaGreatDoor
open Go.RowKit
def PX.norm (g : PX) : PX := ⟨g.v, none, 0, 0, g.ts⟩
structure CS (ps os : List PX) (R : List HE) : Prop where
 eq : ∀ (j : Nat) (g o : PX), ps[j]? = some g → os[j]? = some o → o.v = g.v ∧ o.ts = g.ts ∧ o.n = g.n
 my : ∀ o ∈ os, o.row ∈ R ∧ o.n ≤ o.c
end Go.Proofs.YtaapkaefelhfcaaGreatDoor
/- The walk through poly.Scale. -/
namespace Go.Proofs.YtaapkaefelhfcaaGreatDoor
open Go.RowKit
def CG (p : PX) (c : Dyadic) : Int := if p.e = 0 then fe (p.ts.map (Ck c)) else p.e
end Go.Proofs.YtaapkaefelhfcaaGreatDoor
/- Plain: polynomials with whole numbers, given byte by byte; what they come to can be reckoned. No program in sight. -/
namespace Go.Proofs.YtaapkaefelhfcaaGreatDoor
open Go.RowKit
abbrev ZT := List (List UInt8 × Int)
def zT (L : ZT) : List TR := L.map fun x => ⟨str x.1, nR ((x.2 : Int) : Dyadic)⟩
def zS (L : ZT) (b : List UInt8) : Int := match L with | [] => 0 | x :: L => (if x.1 = b then x.2 else 0) + zS L b
theorem Ah {a : Int} (h : (a : Dyadic) = 0) : a = 0 := gN (p := 0) h
def zC : ZT → Bool
 | [] => true
 | [x] => !decide (x.2 = 0)
 | x :: y :: L => !decide (x.2 = 0) && (Op.bytesLess x.1 y.1 && zC (y :: L))
theorem nZ : ∀ {L : ZT}, zC L = true → Canon (zT L) := fun {L} h => by
 have h1 : ∀ {L : ZT}, zC L = true → kQ (zT L) = true ∧ ∀ x ∈ L, x.2 ≠ 0 := fun {L} => by
  induction L with
  | nil => exact fun _ => ⟨rfl, fun x hx => nomatch hx⟩
  | cons x L ih =>
   intro h
   cases L with
   | nil => exact ⟨rfl, fun y hy => by rw [List.mem_singleton.1 hy]; simpa [zC] using h⟩
   | cons y L =>
    simp only [zC, Bool.and_eq_true, Bool.not_eq_true', decide_eq_false_iff_not] at h
    obtain ⟨i1, i2⟩ := ih h.2.2
    refine ⟨?_, fun z hz => ?_⟩
    ·show (fC (str x.1) (str y.1) && kQ (zT (y :: L))) = true
     rw [i1, show fC (str x.1) (str y.1) = true by unfold fC; rw [db, db]; exact h.2.1]
     rfl
    ·rcases List.mem_cons.1 hz with rfl | hz
     ·exact h.1
     ·exact i2 z hz
 obtain ⟨i1, i2⟩ := h1 h
 refine ⟨lF.1 i1, fun t ht => ?_, fun t ht => ?_⟩
 ·obtain ⟨x, hx, rfl⟩ := List.mem_map.1 ht
  show (nR _).d ≠ 0
  rw [dy]
  exact fun e => i2 x hx (Ah e)
 ·obtain ⟨x, hx, rfl⟩ := List.mem_map.1 ht
  show nR _ = nR (nR _).d
  rw [dy]
def zE (L K : ZT) : Bool := (L ++ K).all fun x => decide (zS L x.1 = zS K x.1)
def zP (P Q : ZT) : ZT := P.flatMap fun x => Q.map fun y => ((mulL x.1 y.1).1, x.2 * y.2)
def CV (P Q : ZT) : List Int := P.flatMap fun x => Q.map fun y => (mulL x.1 y.1).2
theorem yE (L : ZT) : (zT L).length = L.length := List.length_map _
def zM (v : Int) (L : ZT) : Bool := L.all fun x => ef x.1 && decide ((x.1.length : Int) = v)
theorem AO {v : Int} {L : ZT} (h : zM v L = true) : ∀ t ∈ zT L, ew v t = true := fun t ht => by
 obtain ⟨x, hx, rfl⟩ := List.mem_map.1 ht
 have := List.all_eq_true.1 h x hx
 unfold ew
 show (ef (str x.1).data.toList && decide (((str x.1).size : Int) = v)) = true
 rw [db, dT]
 exact this
theorem rm {v : Int} {L : ZT} (hf : gl v = true) (h : (zC L && zM v L) = true) (hn : L.length ≤ 4096) : fy v (zT L) = 0 := by
 rw [Bool.and_eq_true] at h
 exact qB hf (by rw [yE]; exact hn) (AO h.2) (nZ h.1)
def zB (L : ZT) : Bool := L.all fun x => decide (x.2.natAbs < 256) && decide (x.1.length ≤ 50)
theorem Ar {L : ZT} (h : zB L = true) : fT 24 (zT L) ∧ ∀ t ∈ zT L, t.m.size ≤ 50 := by
 refine ⟨fun t ht => ?_, fun t ht => ?_⟩
 ·obtain ⟨x, hx, rfl⟩ := List.mem_map.1 ht
  have := Bool.and_eq_true_iff.1 (List.all_eq_true.1 h x hx)
  have z : Sz 24 ((x.2 : Int) : Dyadic) := xC (m := x.2) (e := 0) (of_decide_eq_true this.1) (by decide) (by decide)
  exact ⟨z.ok (by decide), by show Sz 24 (nR _).d; rw [dy]; exact z⟩
 ·obtain ⟨x, hx, rfl⟩ := List.mem_map.1 ht
  have := Bool.and_eq_true_iff.1 (List.all_eq_true.1 h x hx)
  show (str x.1).size ≤ 50
  rw [dT]
  exact of_decide_eq_true this.2
theorem mu {v : Int} {A : Option Addr} {n c : Nat} {L : ZT} (h : zB L = true) (hn : n ≤ 1000000) (hc : n ≤ c) : (⟨v, A, n, c, zT L⟩ : PX).lk 24 := ⟨hn, hc, (Ar h).1, fun t ht => Nat.le_trans ((Ar h).2 t ht) (by decide)⟩
end Go.Proofs.YtaapkaefelhfcaaGreatDoor
/- The walks through ogeelaw08.whole and two; the chapter's examples one by one. -/
namespace Go.Proofs.YtaapkaefelhfcaaGreatDoor
open Go.RowKit
def CL (n : Int) : ZT := [([0, 1], n), ([1, 0], 1)]
theorem cZ.zT {v : Int} {K : ZT} {g : PX} {w : World} (o : cZ 0 v (zT K) g) (h : g.at_ w) : ∃ A c, g = ⟨v, A, K.length, c, zT K⟩ := by
 obtain ⟨gv, gA, gn, gc, gts⟩ := g
 obtain rfl : v = gv := o.v.symm
 obtain rfl : Go.Proofs.YtaapkaefelhfcaaGreatDoor.zT K = gts := o.ts.symm
 have : (Go.Proofs.YtaapkaefelhfcaaGreatDoor.zT K).length = gn := h.ln
 rw [yE] at this
 exact ⟨gA, gc, by rw [this]⟩
theorem rJ {g h : PX} (h1 : g.e = 0) (h2 : h.e = 0) (h3 : h.v = g.v) : gp [g, h] = 0 := by
 have e : [g, h].find? (fun g => decide (g.e ≠ 0)) = none := gF (List.any_eq_false.2 fun x hx => by
  rcases List.mem_cons.1 hx with rfl | hx
  ·simp [h1]
  ·rw [List.mem_singleton.1 hx]; simp [h2])
 unfold gp
 rw [e]
 show (if 2 = 0 ∨ wC [g, h] = true then (1 : Int) else 0) = 0
 rw [if_neg]
 rintro (h0 | h0)
 ·cases h0
 ·obtain ⟨x, hx, hx2⟩ := List.any_eq_true.1 h0
  have hx3 : x.v ≠ g.v := of_decide_eq_true hx2
  rcases List.mem_cons.1 hx with rfl | hx
  ·exact hx3 rfl
  ·rw [List.mem_singleton.1 hx] at hx3
   exact hx3 h3
end Go.Proofs.YtaapkaefelhfcaaGreatDoor
/- The walk through ogeelaw08.awake. -/
namespace Go.Proofs.YtaapkaefelhfcaaGreatDoor
open Go.RowKit
end Go.Proofs.YtaapkaefelhfcaaGreatDoor
/- The walk through the law PolyMakes. -/
namespace Go.Proofs.YtaapkaefelhfcaaGreatDoor
open Go.RowKit
def Ch (ds : List Int) : VP := fun v W => ∃ g : Option Addr × Nat, v = .slice g.1 ds.length g.2 ∧ Sl W g.1 ds.length 1 (jL ds)
theorem cZ.same {E v : Int} {ts : List TR} {g h : PX} (o : cZ E v ts g) (p : cZ E v ts h) : g.v = h.v ∧ g.ts = h.ts := ⟨o.v.trans p.v.symm, o.ts.trans p.ts.symm⟩
theorem cZ.len {E v : Int} {ts : List TR} {g : PX} {w : World} (o : cZ E v ts g) (h : g.at_ w) : g.n ≤ ts.length := by
 have hl := h.ln
 have hts := o.ts
 by_cases hE : E = 0
 ·rw [if_pos hE] at hts
  rw [hts] at hl
  omega
 ·rw [if_neg hE] at hts
  rw [hts] at hl
  have h0 : g.n = 0 := hl.symm
  omega
theorem j7 {g h : PX} (w : World) (hg : g.at_ w) (hh : h.at_ w) (e : g.v = h.v ∧ g.ts = h.ts) (hn : g.n ≤ 1000000) (hm : h.n ≤ 1000000) :
  Calls Tryz.prog 26 #[.agg #[.int .i64 g.v, .slice g.A g.n g.c], .agg #[.int .i64 h.v, .slice h.A h.n h.c]] w fun r w' => r = .returned (.bool true) ∧ Below w.heap.size w w' :=
 (mZ g h w hg hh hn hm).mono fun r w' ⟨v, hr, hv, hb⟩ => ⟨by rw [hr, hv.2 e], hb⟩
end Go.Proofs.YtaapkaefelhfcaaGreatDoor
/- Plain: what is answered without an error may be; with one it is zero. -/
namespace Go.Proofs.YtaapkaefelhfcaaGreatDoor
open Go.RowKit
structure CO (E : Int) (g : PX) : Prop where
 bad : E ≠ 0 → g.v = 0 ∧ g.ts = []
 ok : E = 0 → g.e = 0 ∧ fT 100000 g.ts ∧ ∀ t ∈ g.ts, t.m.size ≤ 100000
theorem ve {l : List TR} (h : fe l = 0) : (aZ l).length ≤ 4096 := by
 unfold fe at h
 by_cases h4 : 4096 < (aZ l).length
 ·rw [if_pos h4] at h; omega
 ·omega
theorem vB {v : Int} {l : List TR} (h : iT v l = 0) : gl v = true ∧ (∀ t ∈ l, ew v t = true) ∧ (aZ l).length ≤ 4096 := by
 unfold iT at h
 by_cases h1 : gl v = false ∨ (l.any fun t => !ew v t) = true
 ·rw [if_pos h1] at h; omega
 ·rw [if_neg h1] at h
  by_cases h2 : 65536 < l.length
  ·rw [if_pos h2] at h; omega
  ·rw [if_neg h2] at h
   refine ⟨by cases hf : gl v with | true => rfl | false => exact absurd (.inl hf) h1, fun t ht => ?_, ve h⟩
   cases hm : ew v t with
   | true => rfl
   | false => exact absurd (.inr (List.any_eq_true.2 ⟨t, ht, by rw [hm]; rfl⟩)) h1
theorem ug {k j : Nat} {l : List TR} (h : fT k l) (hk : k + l.length ≤ j) (hj : j ≤ 3999990) : fT j (aZ l) := fun t ht => by
 have h3 : Sz j t.c.d := (kD (fun t ht => (h t ht).2) t ht).mono hk
 exact ⟨by rw [(eJ l).nf t ht]; exact h3.ok hj, h3⟩
theorem tJ {l : List TR} (h : ∀ t ∈ l, t.m.size ≤ 100000) : ∀ t ∈ aZ l, t.m.size ≤ 100000 := fun t ht => by
 obtain ⟨s, hs, e⟩ := jG t ht
 rw [← e]
 exact h s hs
end Go.Proofs.YtaapkaefelhfcaaGreatDoor
/- Plain: orders do not matter; the walk through ogeelaw08.same. -/
namespace Go.Proofs.YtaapkaefelhfcaaGreatDoor
open Go.RowKit
theorem BL (p q : PX) : sW [p, q] = p.ts ++ q.ts := by show p.ts ++ (q.ts ++ []) = _; rw [List.append_nil]
end Go.Proofs.YtaapkaefelhfcaaGreatDoor
/- What comes of putting polynomials into one, by the rule of Horner: plain, no program in sight. -/
namespace Go.Proofs.YtaapkaefelhfcaaGreatDoor
open Go.RowKit
def ni (j : Nat) (t : TR) : Nat := match t.m.data.toList[j]? with | some e => e.toNat | none => 0
theorem Br {j : Nat} {t : TR} {e : UInt8} (h : t.m.data.toList[j]? = some e) : ni j t = e.toNat := by unfold ni; rw [h]
def da (p : List TR) (j n : Nat) : List TR := p.filter fun t => decide (ni j t = n)
def ig (q : List TR) (sub : List TR → Int × List TR) (p : List TR) (j n : Nat) (a : Int × List TR) : Int × List TR :=
 if a.1 ≠ 0 then a else if a.2.length = 0 ∧ (da p j n).length = 0 then a else
 if fo a.2 q ≠ 0 then (fo a.2 q, []) else if (sub (da p j n)).1 ≠ 0 then ((sub (da p j n)).1, []) else
 if fe (aZ (cW a.2 q) ++ (sub (da p j n)).2) ≠ 0 then (fe (aZ (cW a.2 q) ++ (sub (da p j n)).2), []) else (0, aZ (aZ (cW a.2 q) ++ (sub (da p j n)).2))
def dF (q : List TR) (sub : List TR → Int × List TR) (p : List TR) (j : Nat) : Nat → Int × List TR
 | 0 => (0, [])
 | i + 1 => ig q sub p j (127 - i) (dF q sub p j i)
theorem uj (q : List TR) (sub : List TR → Int × List TR) (p : List TR) (j i : Nat) : dF q sub p j (i + 1) = ig q sub p j (127 - i) (dF q sub p j i) := rfl
def jd (v : Int) : List (List TR) → Nat → List TR → Int × List TR
 | [], _, p => (0, aZ [⟨gw v, (p.map TR.c).headD (nR 0)⟩])
 | q :: qs, j, p => dF q (jd v qs (j + 1)) p j 128
theorem qj {q : List TR} {sub : List TR → Int × List TR} {p : List TR} {j i k : Nat} (h : (dF q sub p j i).1 ≠ 0) (hk : i ≤ k) : dF q sub p j k = dF q sub p j i := by
 induction k with
 | zero =>
  obtain rfl : i = 0 := by omega
  rfl
 | succ k ih =>
  by_cases e : i = k + 1
  ·rw [e]
  ·have := ih (by omega)
   show ig q sub p j (127 - k) (dF q sub p j k) = _
   rw [this]
   unfold ig
   rw [if_pos h]
theorem xV {p q : List TR} {k j : Nat} (hp : fT k p) (hq : fT j q) (sq : ∀ t ∈ q, t.m.size ≤ 100000) (h : fo p q = 0) (hk : k + j ≤ 900000) : fT (k + j + p.length * q.length) (aZ (cW p q)) ∧ ∀ t ∈ aZ (cW p q), t.m.size ≤ 100000 := by
 obtain ⟨h6, _, h4⟩ := nt h
 have ho := pd hp hq (by omega)
 have hz := kD fun t ht => (ho t ht).2
 rw [mb] at hz
 refine ⟨fun t ht => ?_, (vE hp hq sq h hk).2⟩
 have : Sz (k + j + p.length * q.length) t.c.d := hz t ht
 refine ⟨?_, this⟩
 rw [(eJ _).nf t ht]
 exact this.ok (by omega)
structure kF (v : Int) (k : Nat) (l : List TR) : Prop where
 e : fy v l = 0
 ok : fT k l
 sz : ∀ t ∈ l, t.m.size ≤ 100000
theorem kF.mono {v : Int} {k j : Nat} {l : List TR} (h : kF v k l) (hk : k ≤ j) : kF v j l := ⟨h.e, h.ok.mono hk, h.sz⟩
theorem kF.nil {v : Int} {k : Nat} (hv : gl v = true) : kF v k [] := ⟨qB hv (Nat.zero_le _) (fun _ h => nomatch h) ⟨.nil, (fun _ h => nomatch h), (fun _ h => nomatch h)⟩, (fun _ h => nomatch h), (fun _ h => nomatch h)⟩
theorem kF.len {v : Int} {k : Nat} {l : List TR} (h : kF v k l) : l.length ≤ 4096 := (dW h.e).2.1
theorem vL {v : Int} {p q : List TR} {k j T : Nat} (hp : kF v k p) (hq : kF v j q) (hT : q.length ≤ T) (h : fo p q = 0) (hk : k + j ≤ 900000) : kF v (k + j + 4096 * T) (aZ (cW p q)) := by
 obtain ⟨h6, h5, h4⟩ := nt h
 obtain ⟨f1, f2, f3, f4⟩ := dW hp.e
 have := xV hp.ok hq.ok hq.sz h hk
 have hm : p.length * q.length ≤ 4096 * T := Nat.mul_le_mul hp.len hT
 exact ⟨jY f1 h4 (wP f3 h5), this.1.mono (by omega), this.2⟩
theorem vc {v : Int} {a b : List TR} {k : Nat} (ha : kF v k a) (hb : kF v k b) (h : fe (a ++ b) = 0) (hk : k ≤ 3000000) : kF v (k + 8192) (aZ (a ++ b)) := by
 obtain ⟨f1, f2, f3, f4⟩ := dW ha.e
 obtain ⟨g1, g2, g3, g4⟩ := dW hb.e
 have hl : (a ++ b).length ≤ 8192 := by rw [List.length_append]; omega
 refine ⟨jY f1 (ve h) fun t ht => ?_, ug (fun t ht => ?_) (show k + (a ++ b).length ≤ k + 8192 by omega) (by omega), tJ fun t ht => ?_⟩
 ·rcases List.mem_append.1 ht with h | h
  ·exact f3 t h
  ·exact g3 t h
 ·rcases List.mem_append.1 ht with h | h
  ·exact ha.ok t h
  ·exact hb.ok t h
 ·rcases List.mem_append.1 ht with h | h
  ·exact ha.sz t h
  ·exact hb.sz t h
theorem yu {v : Int} {q p : List TR} {sub : List TR → Int × List TR} {j n : Nat} {a : Int × List TR} {S K T B S' : Nat} (ha : kF v S a.2) (hq : kF v K q) (hT : q.length ≤ T) (hb : (sub (da p j n)).1 = 0 → kF v B (sub (da p j n)).2) (h1 : S + K + 4096 * T + 8192 ≤ S') (h2 : B + 8192 ≤ S') (hS : S' ≤ 900000)
  (h : (ig q sub p j n a).1 = 0) : kF v S' (ig q sub p j n a).2 := by
 unfold ig at h ⊢
 by_cases c0 : a.1 ≠ 0
 ·rw [if_pos c0] at h; exact absurd h c0
 ·rw [if_neg c0] at h ⊢
  by_cases c1 : a.2.length = 0 ∧ (da p j n).length = 0
  ·rw [if_pos c1]
   exact ha.mono (by omega)
  ·rw [if_neg c1] at h ⊢
   by_cases c2 : fo a.2 q ≠ 0
   ·rw [if_pos c2] at h; exact absurd h c2
   ·rw [if_neg c2] at h ⊢
    by_cases c3 : (sub (da p j n)).1 ≠ 0
    ·rw [if_pos c3] at h; exact absurd h c3
    ·rw [if_neg c3] at h ⊢
     by_cases c4 : fe (aZ (cW a.2 q) ++ (sub (da p j n)).2) ≠ 0
     ·rw [if_pos c4] at h; exact absurd h c4
     ·rw [if_neg c4]
      exact (vc ((vL ha hq hT (by omega) (by omega)).mono (show _ ≤ S' - 8192 by omega)) ((hb (by omega)).mono (by omega)) (by omega) (by omega)).mono (by omega)
theorem wA {p : List TR} {j n : Nat} (h : ∀ t ∈ p, ni j t < n) : da p j n = [] := List.filter_eq_nil_iff.2 fun t ht => by
 have := h t ht
 simp only [decide_eq_true_eq]
 omega
theorem jl {p : List TR} {j n : Nat} : ∀ t ∈ da p j n, t ∈ p := fun t ht => (List.mem_filter.1 ht).1
theorem kZ {q p : List TR} {sub : List TR → Int × List TR} {j D : Nat} (h : ∀ t ∈ p, ni j t ≤ D) : ∀ i, i + D ≤ 127 → dF q sub p j i = (0, [])
 | 0, _ => rfl
 | i + 1, hi => by
  show ig q sub p j (127 - i) (dF q sub p j i) = _
  rw [kZ h i (by omega), show ig q sub p j (127 - i) (0, []) = (0, []) by
   unfold ig
   rw [if_neg (by decide), if_pos ⟨rfl, by rw [wA fun t ht => by have := h t ht; omega]; rfl⟩]]
def jJ (c : Nat) : List Nat → Nat → Nat
 | [], k => k
 | d :: ds, k => jJ c ds k + d * c + 8192
theorem mg (c k : Nat) : jJ c [] k = k := rfl
theorem k5 (c d k : Nat) (ds : List Nat) : jJ c (d :: ds) k = jJ c ds k + d * c + 8192 := rfl
theorem oU {v : Int} {q p : List TR} {sub : List TR → Int × List TR} {j D K T B c : Nat} (hv : gl v = true) (hq : kF v K q) (hT : q.length ≤ T) (hD : ∀ t ∈ p, ni j t ≤ D) (hD2 : D ≤ 127) (hb : ∀ n, (sub (da p j n)).1 = 0 → kF v B (sub (da p j n)).2) (hc : K + 4096 * T + 8192 ≤ c) (hS : B + D * c + 8192 ≤ 900000) :
  ∀ i, i ≤ 128 → (dF q sub p j i).1 = 0 → kF v (B + (i + D - 128) * c + 8192) (dF q sub p j i).2
 | 0, _, _ => kF.nil hv
 | i + 1, hi, h0 => by
  by_cases h1 : i + 1 + D ≤ 127
  ·rw [kZ hD _ h1]
   exact kF.nil hv
  ·have h2 : (dF q sub p j i).1 = 0 := by
    refine Classical.byContradiction fun c => ?_
    rw [qj c (Nat.le_succ i)] at h0
    exact c h0
   have hle : (i + 1 + D - 128) * c ≤ D * c := Nat.mul_le_mul_right _ (by omega)
   by_cases h3 : i + D ≤ 127
   ·have h4 := kZ (q := q) (sub := sub) hD i h3
    show kF v _ (ig q sub p j (127 - i) (dF q sub p j i)).2
    have h5 : (ig q sub p j (127 - i) (dF q sub p j i)).1 = 0 := h0
    rw [h4] at h5 ⊢
    rw [show i + 1 + D - 128 = 0 by omega, Nat.zero_mul]
    unfold ig at h5 ⊢
    rw [if_neg (by decide)] at h5 ⊢
    by_cases c1 : ((0 : Int), ([] : List TR)).2.length = 0 ∧ (da p j (127 - i)).length = 0
    ·rw [if_pos c1]; exact kF.nil hv
    ·rw [if_neg c1] at h5 ⊢
     by_cases c2 : fo [] q ≠ 0
     ·rw [if_pos c2] at h5; exact absurd h5 c2
     ·rw [if_neg c2] at h5 ⊢
      by_cases c3 : (sub (da p j (127 - i))).1 ≠ 0
      ·rw [if_pos c3] at h5; exact absurd h5 c3
      ·rw [if_neg c3] at h5 ⊢
       by_cases c4 : fe (aZ (cW [] q) ++ (sub (da p j (127 - i))).2) ≠ 0
       ·rw [if_pos c4] at h5; exact absurd h5 c4
       ·rw [if_neg c4]
        have hn : kF v B (aZ (cW [] q)) := kF.nil hv
        exact (vc hn (hb _ (by omega)) (by omega) (by omega)).mono (by omega)
   ·have ih := oU hv hq hT hD hD2 hb hc hS i (by omega) h2
    have e1 : (i + 1 + D - 128) * c = (i + D - 128) * c + c := by rw [show i + 1 + D - 128 = (i + D - 128) + 1 by omega, Nat.succ_mul]
    rw [e1] at hle ⊢
    generalize (i + D - 128) * c = y at *
    generalize D * c = z at *
    exact yu ih hq hT (hb _) (by omega) (by omega) (by omega) h0
theorem wD {v : Int} {k : Nat} {x : NR} (hv : gl v = true) (hx : Sz k x.d) (hk : k ≤ 900000) : kF v (k + 1) (aZ [⟨gw v, x⟩]) := by
 have h1 := eB.1 hv
 have h2 := kS h1.1
 refine ⟨jY hv (Nat.le_trans (gy _) (show 1 ≤ 4096 by decide)) fun t ht => ?_, fun t ht => ?_, fun t ht => ?_⟩
 ·rw [List.mem_singleton.1 ht]
  unfold ew
  rw [Bool.and_eq_true, decide_eq_true_eq]
  exact ⟨pR v, h2⟩
 ·have h1 : Sz (k + 1) t.c.d := kD (k := k) (l := [⟨gw v, x⟩]) (fun s hs => by rw [List.mem_singleton.1 hs]; exact hx) t ht
  exact ⟨by rw [(eJ _).nf t ht]; exact h1.ok (by omega), h1⟩
 ·obtain ⟨s, hs, e⟩ := jG t ht
  rw [← e, List.mem_singleton.1 hs]
  show (gw v).size ≤ 100000
  omega
theorem y7 {v : Int} {K T c0 : Nat} (hv : gl v = true) (hc0 : K + 4096 * T + 8192 ≤ c0) : ∀ (qs : List (List TR)) (j : Nat) (p : List TR) (ds : List Nat) (k : Nat), (∀ q ∈ qs, kF v K q ∧ q.length ≤ T) → fT k p → ds.length = qs.length → (∀ (i d : Nat), ds[i]? = some d → d ≤ 127 ∧ ∀ t ∈ p, ni (j + i) t ≤ d) → jJ c0 ds (k + 1) ≤ 900000 →
  (jd v qs j p).1 = 0 → kF v (jJ c0 ds (k + 1)) (jd v qs j p).2 := by
 intro qs
 induction qs with
 | nil =>
  intro j p ds k _ hok hds _ hB _
  obtain rfl : ds = [] := List.length_eq_zero_iff.1 hds
  rw [mg] at hB ⊢
  refine wD hv ?_ (by omega)
  cases p with
  | nil => show Sz k (nR 0).d; rw [dy]; exact Sz.zero k
  | cons t p => exact (hok t List.mem_cons_self).2
 | cons q qs ih =>
  intro j p ds k hq hok hds hD hB h0
  cases ds with
  | nil => cases hds
  | cons d ds =>
   have hd := hD 0 d rfl
   rw [k5] at hB ⊢
   have hB1 : jJ c0 ds (k + 1) ≤ 900000 := by omega
   have hsub : ∀ n, (jd v qs (j + 1) (da p j n)).1 = 0 → kF v (jJ c0 ds (k + 1)) (jd v qs (j + 1) (da p j n)).2 := fun n hn => by
    refine ih (j + 1) (da p j n) ds k (fun r hr => hq r (List.mem_cons_of_mem _ hr)) (fun t ht => hok t (jl t ht)) (by simpa using hds) (fun i e he => ?_) hB1 hn
    have h2 := hD (i + 1) e (by simpa using he)
    refine ⟨h2.1, fun t ht => ?_⟩
    have h3 := h2.2 t (jl t ht)
    rwa [show j + 1 + i = j + (i + 1) by omega]
   have h1 := oU (sub := jd v qs (j + 1)) (p := p) (j := j) hv (hq q List.mem_cons_self).1 (hq q List.mem_cons_self).2 hd.2 hd.1 hsub hc0 hB 128 (Nat.le_refl _) h0
   rw [show 128 + d - 128 = d by omega] at h1
   exact h1
end Go.Proofs.YtaapkaefelhfcaaGreatDoor
/- Terms that rise: those of one power of a variable lie side by side. Plain, no program in sight. -/
namespace Go.Proofs.YtaapkaefelhfcaaGreatDoor
open Go.RowKit
theorem tu : ∀ {a b : List UInt8} {j : Nat} {x y : UInt8}, Op.bytesLess a b = true → a.take j = b.take j → a[j]? = some x → b[j]? = some y → x.toNat ≤ y.toNat
 | [], _, j, x, y, _, _, hx, _ => by simp at hx
 | _, [], j, x, y, _, _, _, hy => by simp at hy
 | c :: a, d :: b, 0, x, y, h, _, hx, hy => by
  simp only [List.getElem?_cons_zero, Option.some.injEq] at hx hy
  subst hx; subst hy
  simp only [Op.bytesLess, Bool.or_eq_true, Bool.and_eq_true, decide_eq_true_eq, beq_iff_eq] at h
  rcases h with h | ⟨h, _⟩
  ·exact Nat.le_of_lt (UInt8.lt_iff_toNat_lt.1 h)
  ·rw [h]; exact Nat.le_refl _
 | c :: a, d :: b, j + 1, x, y, h, ht, hx, hy => by
  simp only [List.take_succ_cons, List.cons.injEq] at ht
  obtain ⟨rfl, ht⟩ := ht
  simp only [List.getElem?_cons_succ] at hx hy
  refine tu (a := a) (b := b) ?_ ht hx hy
  simpa [Op.bytesLess] using h
structure xz (v : Int) (j : Nat) (p : List TR) : Prop where
 nU : ph p
 may : ∀ t ∈ p, ew v t = true
 pre : ∀ a ∈ p, ∀ b ∈ p, a.m.data.toList.take j = b.m.data.toList.take j
theorem xz.size {v : Int} {j : Nat} {p : List TR} (h : xz v j p) : ∀ t ∈ p, (t.m.data.toList.length : Int) = v := fun t ht => by
 rw [← bZ]
 exact of_decide_eq_true (Bool.and_eq_true_iff.1 (h.may t ht)).2
theorem xz.get {v : Int} {j : Nat} {p : List TR} (h : xz v j p) (hj : (j : Int) < v) {t : TR} (ht : t ∈ p) : ∃ e : UInt8, t.m.data.toList[j]? = some e ∧ ni j t = e.toNat ∧ e.toNat < 128 := by
 obtain ⟨e, he⟩ := aE (l := t.m.data.toList) (k := j) (by have := h.size t ht; omega)
 exact ⟨e, he, Br he, g9 (Bool.and_eq_true_iff.1 (h.may t ht)).1 he⟩
theorem xz.mono {v : Int} {j : Nat} {p : List TR} (h : xz v j p) (hj : (j : Int) < v) : p.Pairwise fun a b => ni j a ≤ ni j b := by
 refine List.Pairwise.imp_of_mem (fun {a b} ha hb hl => ?_) h.nU
 obtain ⟨x, hx, ex, _⟩ := h.get hj ha
 obtain ⟨y, hy, ey, _⟩ := h.get hj hb
 rw [ex, ey]
 exact tu hl (h.pre a ha b hb) hx hy
theorem xz.with {v : Int} {j n : Nat} {p : List TR} (h : xz v j p) (hj : (j : Int) < v) : xz v (j + 1) (da p j n) := by
 refine ⟨h.nU.filter _, fun t ht => h.may t (jl t ht), fun a ha b hb => ?_⟩
 obtain ⟨ha1, ha2⟩ := List.mem_filter.1 ha
 obtain ⟨hb1, hb2⟩ := List.mem_filter.1 hb
 obtain ⟨x, hx, ex, _⟩ := h.get hj ha1
 obtain ⟨y, hy, ey, _⟩ := h.get hj hb1
 have exy : x = y := UInt8.toNat_inj.1 (by rw [← ex, ← ey, of_decide_eq_true ha2, of_decide_eq_true hb2])
 rw [aN hx, aN hy, h.pre a ha1 b hb1, exy]
theorem ym {α : Type} {p : List α} {fr en : Nat} (h : fr ≤ en) : p.drop fr = (p.drop fr).take (en - fr) ++ p.drop en := by
 have : p.drop en = (p.drop fr).drop (en - fr) := by rw [List.drop_drop]; congr 1; omega
 rw [this, List.take_append_drop]
theorem sM {p : List TR} {j n fr en : Nat} (hfe : fr ≤ en) (h1 : ∀ t ∈ p.take fr, ni j t < n) (h2 : ∀ t ∈ (p.drop fr).take (en - fr), ni j t = n) (h3 : ∀ t ∈ p.drop en, n < ni j t) : da p j n = (p.drop fr).take (en - fr) := by
 have e : p = p.take fr ++ ((p.drop fr).take (en - fr) ++ p.drop en) := by
  have : p.drop en = (p.drop fr).drop (en - fr) := by rw [List.drop_drop]; congr 1; omega
  rw [this, List.take_append_drop, List.take_append_drop]
 unfold da
 conv => lhs; rw [e]
 rw [List.filter_append, List.filter_append, List.filter_eq_nil_iff.2, List.filter_eq_self.2, List.filter_eq_nil_iff.2, List.nil_append, List.append_nil]
 ·intro t ht
  have := h3 t ht
  simp only [decide_eq_true_eq]
  omega
 ·intro t ht
  have := h2 t ht
  simpa using this
 ·intro t ht
  have := h1 t ht
  simp only [decide_eq_true_eq]
  omega
theorem wV {p : List TR} {j fr n : Nat} {x : TR} (h : p.Pairwise fun a b => ni j a ≤ ni j b) (hx : p[fr]? = some x) (hn : ni j x < n) : ∀ t ∈ p.take (fr + 1), ni j t < n := fun t ht => by
 rw [aN hx] at ht
 rcases List.mem_append.1 ht with ht | ht
 ·have e : p = p.take fr ++ x :: p.drop (fr + 1) := by rw [← iG hx, List.take_append_drop]
  rw [e, List.pairwise_append] at h
  have := h.2.2 t ht x List.mem_cons_self
  omega
 ·obtain rfl := List.mem_singleton.1 ht
  exact hn
end Go.Proofs.YtaapkaefelhfcaaGreatDoor
/- The walks through calc.has and calc.Derive. -/
namespace Go.Proofs.YtaapkaefelhfcaaGreatDoor
open Go.RowKit
def gf (p : PX) (i : Int) : Int := if p.e = 0 then (if i < 0 ∨ p.v ≤ i then 1 else 0) else p.e
theorem qy (p : PX) (i : Int) (k : Nat) (w : World) (hT : gW w) (hp : p.at_ w) (lp : p.lk k) :
  Calls Tryz.prog 90 #[.agg #[.int .i64 p.v, .slice p.A p.n p.c], .int .i64 i] w fun r w' => r = .returned (.int .i64 (gf p i)) ∧ Below w.heap.size w w' := by
 have hh := Hp.start w
 have hck := fun w1 hT1 hb => lB p k w1 hT1 (hp.ext hb) lp
 unfold gf
 by_cases h0 : p.e = 0
 ·rw [if_pos h0]
  rw [h0] at hck
  by_cases h1 : i < 0
  ·rw [if_pos (.inl h1)]
   refine aj (N := 19) (l := [.agg #[.int .i64 p.v, .slice p.A p.n p.c], .int .i64 i]) Tryz.func90 rfl rfl (by simp) ?_
   refine sr ?_
   refine cz hh [_,_] ?_
   intro b2 w2 hh
   refine aI (ae (ah (sr ?_)))
   refine cB hh 0 [_,_] ?_
   refine bA hh (hck _ (hT.hp hh) hh.below) rfl ?_
   intro w7 hh
   refine aI (ae (sr (mI ?_)))
   refine cQ (ae (cF (ak (ai (ah (sr (mI ?_)))))))
   refine aW (mB ?_)
   first | refine gS ?_ | (refine gT ?_; refine mI ?_) | refine gV ?_
   first | refine gS ?_ | (refine gT ?_; refine bB ?_) | refine gV ?_
   first | refine gS ?_ | (refine gT ?_; refine bE hh 0 ?_) | refine gV ?_
   first | refine gS ?_ | (refine gT ?_; refine dg ?_) | refine gV ?_
   first | refine cS ?_ | refine cU ?_
   refine ae (cT (sr (aI (ae (al (aD ?_))))))
   refine cn ?_
   exact ⟨rfl, hh.below⟩
  ·by_cases h2 : p.v ≤ i
   ·rw [if_pos (.inr h2)]
    refine aj (N := 19) (l := [.agg #[.int .i64 p.v, .slice p.A p.n p.c], .int .i64 i]) Tryz.func90 rfl rfl (by simp) ?_
    refine sr ?_
    refine cz hh [_,_] ?_
    intro b2 w2 hh
    refine aI (ae (ah (sr ?_)))
    refine cB hh 0 [_,_] ?_
    refine bA hh (hck _ (hT.hp hh) hh.below) rfl ?_
    intro w7 hh
    refine aI (ae (sr (mI ?_)))
    refine cQ (ae (cF (ak (ai (ah (sr (mI ?_)))))))
    refine aW (mB ?_)
    first | refine gS ?_ | (refine gT ?_; refine mI ?_) | refine gV ?_
    first | refine gS ?_ | (refine gT ?_; refine bB ?_) | refine gV ?_
    first | refine gS ?_ | (refine gT ?_; refine bE hh 0 ?_) | refine gV ?_
    first | refine gS ?_ | (refine gT ?_; refine dg ?_) | refine gV ?_
    first | refine cS ?_ | refine cU ?_
    refine ae (cT (sr (aI (ae (al (aD ?_))))))
    refine cn ?_
    exact ⟨rfl, hh.below⟩
   ·rw [if_neg (by omega)]
    refine aj (N := 19) (l := [.agg #[.int .i64 p.v, .slice p.A p.n p.c], .int .i64 i]) Tryz.func90 rfl rfl (by simp) ?_
    refine sr ?_
    refine cz hh [_,_] ?_
    intro b2 w2 hh
    refine aI (ae (ah (sr ?_)))
    refine cB hh 0 [_,_] ?_
    refine bA hh (hck _ (hT.hp hh) hh.below) rfl ?_
    intro w7 hh
    refine aI (ae (sr (mI ?_)))
    refine cQ (ae (cF (ak (ai (ah (sr (mI ?_)))))))
    refine aW (mB ?_)
    first | refine gS ?_ | (refine gT ?_; refine mI ?_) | refine gV ?_
    first | refine gS ?_ | (refine gT ?_; refine bB ?_) | refine gV ?_
    first | refine gS ?_ | (refine gT ?_; refine bE hh 0 ?_) | refine gV ?_
    first | refine gS ?_ | (refine gT ?_; refine dg ?_) | refine gV ?_
    first | refine cS ?_ | refine cU ?_
    refine ae (cF (ak (ai (sr (aI (ae (al ?_)))))))
    refine cn ?_
    exact ⟨rfl, hh.below⟩
 ·rw [if_neg h0]
  refine aj (N := 19) (l := [.agg #[.int .i64 p.v, .slice p.A p.n p.c], .int .i64 i]) Tryz.func90 rfl rfl (by simp) ?_
  refine sr ?_
  refine cz hh [_,_] ?_
  intro b2 w2 hh
  refine aI (ae (ah (sr ?_)))
  refine cB hh 0 [_,_] ?_
  refine bA hh (hck _ (hT.hp hh) hh.below) rfl ?_
  intro w7 hh
  refine aI (ae (sr (mI ?_)))
  refine cQ (ae (cT (sr (mI (aI (ae (al (aD ?_))))))))
  refine cn ?_
  exact ⟨rfl, hh.below⟩
theorem Hp.u6 {w0 w : World} {H : List HE} (h : Hp w0 H w) {i b n : Nat} {t : TypeId} {l : List UInt8} {ex : List Value} {fz : Nat × Nat} (hi : H[i]? = some (.blk b t (iQ l ++ ex) fz)) (hl : l.length = n) : Sl w (some ⟨b, 0, none⟩) n 1 (iQ l) := by
 refine ⟨by rw [fc, hl, Nat.mul_one], fun _ => ⟨_, rfl, fun j u hu => ?_⟩⟩
 refine h.uB hi j u ?_
 rw [List.getElem?_append_left (List.getElem?_eq_some_iff.1 hu).1]
 exact hu
def om (i : Nat) (t : TR) : Option TR := match t.m.data.toList[i]? with | some e => if e.toNat = 0 then none else some ⟨str (t.m.data.toList.set i (e - 1)), nR (t.c.d * ((e.toNat : Int) : Dyadic))⟩ | none => none
def iU (i : Nat) (l : List TR) : List TR := l.filterMap (om i)
theorem qq {i j : Nat} {l : List TR} {x : TR} (h : l[j]? = some x) : iU i (l.take (j + 1)) = iU i (l.take j) ++ (om i x).toList := by
 unfold iU
 rw [aN h, List.filterMap_append]
 congr 1
theorem nn {p : PX} {i : Int} (h : gf p i = 0) : p.e = 0 ∧ 0 ≤ i ∧ i < p.v := by
 unfold gf at h
 by_cases h0 : p.e = 0
 ·rw [if_pos h0] at h
  by_cases h1 : i < 0 ∨ p.v ≤ i
  ·rw [if_pos h1] at h; cases h
  ·exact ⟨h0, by omega, by omega⟩
 ·rw [if_neg h0] at h; exact absurd h h0
theorem vi {l : List UInt8} {ex : List Value} {i : Nat} {e : UInt8} (h : i < l.length) (he : e.toNat ≠ 0) : cq (iQ l ++ ex) (i * 1) [.int .u8 (((e.toNat + 256 - 1) % 256 : Nat) : Int)] = iQ (l.set i (e - 1)) ++ ex := by
 have hl : i < (iQ l).length := by rw [fc]; exact h
 have h1 : (1 : UInt8) ≤ e := by rw [UInt8.le_iff_toNat_le]; show 1 ≤ e.toNat; omega
 have h2 : e.toNat < 256 := e.toNat_lt
 have h3 : (e - 1).toNat = (e.toNat + 256 - 1) % 256 := by
  rw [UInt8.toNat_sub_of_le _ _ h1]
  show e.toNat - 1 = _
  omega
 rw [Nat.mul_one, cm (by rw [List.length_append]; omega), List.set_append_left _ _ hl]
 congr 1
 unfold iQ
 rw [List.map_set, h3]
theorem jf {l : List UInt8} : ef l = true ↔ ∀ c ∈ l, c.toNat < 128 := by
 unfold ef
 rw [List.all_eq_true]
 exact ⟨fun h c hc => of_decide_eq_true (h c hc), fun h c hc => decide_eq_true (h c hc)⟩
theorem pW {i : Nat} {t s : TR} (h : om i t = some s) : ∃ e, t.m.data.toList[i]? = some e ∧ e.toNat ≠ 0 ∧ s = ⟨str (t.m.data.toList.set i (e - 1)), nR (t.c.d * ((e.toNat : Int) : Dyadic))⟩ := by
 unfold om at h
 split at h
 ·rename_i e he
  by_cases h0 : e.toNat = 0
  ·rw [if_pos h0] at h; cases h
  ·rw [if_neg h0] at h
   exact ⟨e, he, h0, (Option.some.inj h).symm⟩
 ·cases h
theorem yK {v : Int} {i : Nat} {t s : TR} (h : om i t = some s) (ht : ew v t = true) : ew v s = true := by
 obtain ⟨e, he, h0, rfl⟩ := pW h
 unfold ew at ht ⊢
 rw [Bool.and_eq_true, decide_eq_true_eq] at ht
 rw [Bool.and_eq_true, decide_eq_true_eq]
 refine ⟨?_, ?_⟩
 ·show ef (str _).data.toList = true
  rw [db, jf]
  intro c hc
  rcases List.mem_or_eq_of_mem_set hc with hc | rfl
  ·exact jf.1 ht.1 c hc
  ·have h1 : (1 : UInt8) ≤ e := by rw [UInt8.le_iff_toNat_le]; show 1 ≤ e.toNat; omega
   rw [UInt8.toNat_sub_of_le _ _ h1]
   have := jf.1 ht.1 e (List.mem_of_getElem? he)
   omega
 ·show ((str _).size : Int) = v
  rw [dT, List.length_set, ← bZ]
  exact ht.2
theorem vG {i k : Nat} {t s : TR} (h : om i t = some s) (ht : Sz k t.c.d) (hk : k ≤ 1000000) : s.c.ok ∧ Sz (k + 24) s.c.d ∧ s.m.size = t.m.size := by
 obtain ⟨e, he, h0, rfl⟩ := pW h
 have he8 : e.toNat < 256 := e.toNat_lt
 have zn : Sz 24 ((e.toNat : Int) : Dyadic) := xC (m := (e.toNat : Int)) (e := 0) (by omega) (by decide) (by decide)
 have hs := ht.mul zn
 exact ⟨hs.ok (by omega), by show Sz _ (nR _).d; rw [dy]; exact hs, by show (str _).size = _; rw [dT, List.length_set, ← bZ]⟩
theorem wb {v : Int} {ts : List TR} {i k : Nat} (h : fy v ts = 0) (ho : fT k ts) (hz : ∀ t ∈ ts, t.m.size ≤ 100000) (hk : k ≤ 100000) : iT v (iU i ts) = 0 ∧ fT (k + 24) (iU i ts) ∧ ∀ t ∈ iU i ts, t.m.size ≤ 100000 := by
 obtain ⟨h1, h2, h3, _⟩ := dW h
 have hl : (iU i ts).length ≤ 4096 := Nat.le_trans (List.length_filterMap_le _ _) h2
 have hm : ∀ s ∈ iU i ts, ∃ t ∈ ts, om i t = some s := fun s hs => List.mem_filterMap.1 hs
 refine ⟨?_, fun s hs => ?_, fun s hs => ?_⟩
 ·unfold iT
  rw [if_neg, if_neg (by omega)]
  ·unfold fe
   have := gy (iU i ts)
   rw [if_neg (by omega)]
  ·rintro (h5 | h5)
   ·rw [h1] at h5; cases h5
   ·obtain ⟨s, hs, h6⟩ := List.any_eq_true.1 h5
    obtain ⟨t, ht, h7⟩ := hm s hs
    rw [yK h7 (h3 t ht)] at h6
    cases h6
 ·obtain ⟨t, ht, h7⟩ := hm s hs
  have := vG h7 (ho t ht).2 (by omega)
  exact ⟨this.1, this.2.1⟩
 ·obtain ⟨t, ht, h7⟩ := hm s hs
  rw [(vG h7 (ho t ht).2 (by omega)).2.2]
  exact hz t ht
theorem iP (p : PX) (which : Int) (k : Nat) (w : World) (hT : gW w) (hp : p.at_ w) (lp : p.lk k) (hk : k ≤ 100000) :
  Calls Tryz.prog 22 #[.agg #[.int .i64 p.v, .slice p.A p.n p.c], .int .i64 which] w fun r w' => ∃ g : PX, cZ (gf p which) p.v (aZ (iU which.toNat p.ts)) g ∧ r = .returned (.tuple #[.agg #[.int .i64 g.v, .slice g.A g.n g.c], .int .i64 (gf p which)]) ∧ Hp w [g.row] w' := by
 have hh := Hp.start w
 have hck := fun w1 hT1 hb => qy p which k w1 hT1 (hp.ext hb) lp
 by_cases h0 : gf p which = 0
 ·obtain ⟨hpe, hi0, hiv⟩ := nn h0
  rw [h0] at hck ⊢
  obtain ⟨hf, h4, hmy, _⟩ := dW hpe
  replace hf := eB.1 hf
  obtain ⟨pv, pA, pn, pc, ts⟩ := p
  replace hpl : ts.length = pn := hp.ln
  replace hp : Sl w pA pn 4 (aP TR.cells ts) := hp
  have okp : fT k ts := lp.ok
  have szp : ∀ t ∈ ts, t.m.size ≤ 100000 := lp.sz
  replace hmy : ∀ t ∈ ts, ew pv t = true := hmy
  replace h4 : ts.length ≤ 4096 := h4
  replace hf : 0 ≤ pv ∧ pv ≤ 12 := hf
  replace hiv : which < pv := hiv
  obtain ⟨j, rfl⟩ : ∃ j : Nat, which = (j : Int) := ⟨which.toNat, by omega⟩
  rw [show ((j : Int)).toNat = j from rfl]
  show Calls _ _ _ _ fun r w' => ∃ g : PX, cZ 0 pv (aZ (iU j ts)) g ∧ r = .returned (.tuple #[.agg #[.int .i64 g.v, .slice g.A g.n g.c], .int .i64 0]) ∧ Hp w [g.row] w'
  refine aj (N := 64) (l := [.agg #[.int .i64 pv, .slice pA pn pc], .int .i64 j]) Tryz.func22 rfl rfl (by simp) ?_
  refine sr ?_
  refine cz hh [_,_] ?_
  intro b2 w2 hh
  refine cj hh ?_
  intro b4 w4 hh
  refine aI (ae (ah (sr ?_)))
  refine cB hh 1 [_,_] (mI ?_)
  refine bA hh (hck _ (hT.hp hh) hh.below) rfl ?_
  intro w14 hh
  refine aI (ae (sr (mI ?_)))
  refine cQ (ae (cF (ak (ai (sr (aL (ae (ah (sr (bB ?_))))))))))
  refine bE hh 1 ?_
  refine a0 (mI (ae (ao ?_)))
  replace hh := hh.dK 55 4
  refine cE [7, 9, 10, 11, 22, 23, 24, 25, 26, 27, 28, 29, 30, 31, 32, 33, 34, 35, 36, 37, 38, 39, 40, 41, 42, 43, 44, 45, 46, 47, 48, 49, 50, 51, 52, 53, 54, 55, 56, 57] 7 22
   (fun a v w' => ∃ (i : Nat) (M : List TR) (A : Option Addr) (c : Nat), i ≤ pn ∧ v = .int .i64 i ∧ M = iU j (ts.take i) ∧ a = .slice A M.length c ∧ Hp w [.row A M.length c 55 4 (aP TR.cells M), .blk b4 24 [.int .i64 0, .slice none 0 0] (0, 0), .blk b2 24 [.int .i64 pv, .slice pA pn pc] (0, 0)] w')
   (fun _ v _ => pn - (intOf v).toNat) ?_ ?_
  ·exact ⟨0, [], none, 0, Nat.zero_le _, rfl, rfl, rfl, hh⟩
  ·clear hh
   rintro ρ' a_ v w' ⟨i, M, A, c, hi, rfl, hM, rfl, hh⟩
   have hMl : M.length ≤ i := by rw [hM]; exact Nat.le_trans (List.length_filterMap_le _ _) (by rw [List.length_take]; omega)
   by_cases hlt : i < pn
   ·obtain ⟨x, hx⟩ := aE (l := ts) (k := i) (by omega)
    obtain ⟨ad, rfl, hr⟩ := hp.at_ (by omega)
    have hxo := okp x (List.mem_of_getElem? hx)
    have hmx := Bool.and_eq_true_iff.1 (hmy x (List.mem_of_getElem? hx))
    have hxz : (x.m.size : Int) = pv := of_decide_eq_true hmx.2
    obtain ⟨e, he⟩ := aE (l := x.m.data.toList) (k := j) (by rw [← bZ]; omega)
    have he8 : e.toNat < 256 := e.toNat_lt
    have hbl : j < x.m.data.toList.length := (List.getElem?_eq_some_iff.1 he).1
    have hdt : om j x = if e.toNat = 0 then none else some ⟨str (x.m.data.toList.set j (e - 1)), nR (x.c.d * ((e.toNat : Int) : Dyadic))⟩ := by unfold om; rw [he]
    have hsn := qq (i := j) hx
    rw [← hM] at hsn
    refine sr ?_
    refine aW (ae (ah (cT (ak (ai (ah (ao (sr ?_))))))))
    refine aQ (k := i) aF.out aA.size rfl rfl (by omega) (by omega) (by decide) ?_
    refine bR (vs := [_, _, _, _]) aA.out rfl ((hr.ext hh.below).recAt TR.len hx) rfl (by decide) ?_
    refine cj hh ?_
    intro b9 w9 hh
    refine bD hh 0 [_,_,_,_] ?_
    intro ws hh
    replace hh : Hp _ (.blk _ _ [_, _, _, _] _ :: _) _ := hh
    refine ae (sr (bB ?_))
    refine bE hh 0 ?_
    refine lE hh aF.out aF.out aF.out rfl (by decide) ?_
    intro g28 c28 x28 w28 hh
    have hcl : (iQ x.m.data.toList ++ x28)[j]? = some (.int .u8 (e.toNat : Int)) := by rw [List.getElem?_append_left (by rw [fc]; exact hbl)]; unfold iQ; rw [List.getElem?_map, he]; rfl
    generalize (((iQ x.m.data.toList ++ x28).length, (iQ x.m.data.toList ++ x28).length + 1) : Nat × Nat) = fz at hh
    by_cases he0 : e.toNat = 0
    ·rw [hdt, if_pos he0] at hsn
     refine aL (ae (ah (sr (mL (mI ?_)))))
     refine bg (k := j) aF.out aA.size rfl rfl (by omega) (by omega) (by decide) ?_
     refine bj aA.out rfl (hh.dh (i := 0) rfl (by first | assumption | (simp only [Nat.mul_one]; assumption))) (by decide) ?_
     refine cu (ae (cT ?_))
     refine aO ?_
     refine ay (a8 (ai (aq ?_)))
     refine bL (mI (aC (ai ?_)))
     replace hh := hh.sub (List.Sublist.cons _ (List.Sublist.cons _ (List.Sublist.cons_cons _ (List.Sublist.cons_cons _ (List.Sublist.cons_cons _ List.Sublist.slnil)))))
     refine ⟨⟨i + 1, M, A, c, by omega, rfl, by rw [hsn]; simp, rfl, hh⟩, by show pn - (i + 1) < pn - i; omega, ?_⟩
     (repeat (first | exact aw _ _ _ | refine ax rfl ?_ | refine au rfl ?_))
    ·rw [hdt, if_neg he0] at hsn
     refine aL (ae (ah (sr (mL (mI ?_)))))
     refine bg (k := j) aF.out aA.size rfl rfl (by omega) (by omega) (by decide) ?_
     refine bj aA.out rfl (hh.dh (i := 0) rfl (by first | assumption | (simp only [Nat.mul_one]; assumption))) (by decide) ?_
     refine cu (ae (cF (ak (ai (sr (mL (mI ?_)))))))
     refine bg (k := j) aF.out aA.size rfl rfl (by omega) (by omega) (by decide) ?_
     refine bj aA.out rfl (hh.dh (i := 0) rfl (by first | assumption | (simp only [Nat.mul_one]; assumption))) (by decide) ?_
     refine cJ aF.out aF.out rfl (by omega) (by omega) (by decide) ?_
     refine aI (ae (sr (mL (mI ?_))))
     refine bg (k := j) aF.out aA.size rfl rfl (by omega) (by omega) (by decide) ?_
     refine bj aA.out rfl (hh.dh (i := 0) rfl (by first | assumption | (simp only [Nat.mul_one]; assumption))) (by decide) ?_
     refine n8 (b := 1) rfl rfl (by omega) (by decide) ?_
     refine bg (k := j) aF.out aA.size rfl rfl (by omega) (by omega) (by decide) ?_
     refine lS hh (i := 0) (vs := [_]) rfl rfl (bT rfl) rfl aA.out rfl (by rw [List.length_append, fc]; omega) rfl ?_
     intro ws hh
     simp only [List.set_cons_zero] at hh
     rw [vi hbl he0] at hh
     have hbl2 : (x.m.data.toList.set j (e - 1)).length = x.m.size := by rw [List.length_set, ← bZ]
     have zn : Sz 24 ((e.toNat : Int) : Dyadic) := xC (m := (e.toNat : Int)) (e := 0) (by omega) (by decide) (by decide)
     have hdm := fun A cc w1 hT1 hS1 => gC A 2 cc [x.c, nR ((e.toNat : Int) : Dyadic)] w1 hT1 hS1 (by simpa using ⟨hxo.1, zn.ok (by decide)⟩) (k + 24) (by simpa [dy] using ⟨hxo.2.mono (by omega), zn.mono (by omega)⟩) (by omega) (by decide)
     rw [show gU ([x.c, nR ((e.toNat : Int) : Dyadic)].map NR.d) = x.c.d * ((e.toNat : Int) : Dyadic) by show 1 * x.c.d * (nR _).d = _; rw [dy, Dyadic.one_mul]] at hdm
     refine ae ?_
     refine aU 11 [[(7, none)], [(10, none)], [(46, some 1)], [(9, none)], [(48, some 3)], [(11, none)], [(50, some 5)], [(49, some 4), (51, some 6)], [(52, some 7)], [(47, some 2), (53, some 8)], [(54, some 9)]] [(10, 55), (9, 54), (8, 53), (7, 52), (6, 51), (5, 50), (4, 49), (3, 48), (2, 47), (1, 46), (0, 45)] hh mixed (by kernel_rfl) ?_
     refine fX ?_
     refine fX ?_
     refine bk (i := 2) (Is (.string ⟨((x.m.data.toList.set j (e - 1))).toArray⟩)) Is.ext ?_ ?_
     ·intro ρ1 w1 hj hR
      exact bY rfl (iL (l := (x.m.data.toList.set j (e - 1))) aF.out aF.out aF.out (show ρ1 46 = Value.slice _ _ _ from hR.1) (hj.hp.u6 (i := 0) rfl hbl2)) ⟨Below.refl _ _, rfl⟩
     refine cw ?_
     refine dZ 1 [_,_,_] ?_
     refine ej ?_
     refine dC (fun _ hj => mH (e.toNat : Int) _ (hT.hp hj.hp) (by omega) (by omega)) ?_
     refine px [_,_,_,_,_,_] ?_
     refine bk (i := 8) (Is (.agg #[.bool (nR (x.c.d * ((e.toNat : Int) : Dyadic))).neg, .string (nR (x.c.d * ((e.toNat : Int) : Dyadic))).bu, .int .i64 (nR (x.c.d * ((e.toNat : Int) : Dyadic))).e])) Is.ext ?_ ?_
     ·intro ρ1 w1 hj hR
      obtain ⟨A52, c52, h52, s52⟩ := hR.1
      exact bU rfl (a3 ar.out (az h52 a7)) (hdm A52 c52 _ (hT.hp hj.hp) s52) (fun _ _ hq => ⟨_, hq.1, hq.2, rfl⟩)
     refine dB [_,_,_,_] ?_
     refine px [_,_,_,_] ?_
     refine a6 ?_
     intro f W hJ hV
     have hb_12 := hJ.bl
     obtain ⟨v55, v54, v53, v52, v51, v50, v49, v48, v47, v46, v45, _⟩ := hV
     obtain ⟨A52, c52, e52, f52⟩ : Rows _ _ _ (f 7) W := v52
     obtain ⟨A55, c55, e55, f55⟩ : Rows _ _ _ (f 10) W := v55
     replace hh := hJ.hp
     refine aK (a4 (aa e55 (aa v54 (aa v53 (aa e52 (aa v51 (aa v50 (aa v49 (aa v48 (aa v47 (aa v46 (aa v45 aM)))))))))))) ?_
     dsimp only [bX]
     clear e52 e55 hJ
     refine bG hh (i := 2) rfl rfl rfl (f55) aF.out aA.out rfl (by decide) (by first | rfl | exact bQ _ | exact bF _ | exact oneCells_i64s _ | exact bf NR.one _) (by omega) (by omega) (by decide) ?_
     intro A56 c56 w56 hh
     simp only [List.set_cons_zero, List.set_cons_succ] at hh
     refine aL (aC (aT (ai (aq ?_))))
     refine bL (mI (aC (ai ?_)))
     replace hh := hh.sub (List.Sublist.cons _ (List.Sublist.cons _ (List.Sublist.cons_cons _ (List.Sublist.cons_cons _ (List.Sublist.cons_cons _ List.Sublist.slnil)))))
     refine ⟨⟨i + 1, M ++ [⟨str (x.m.data.toList.set j (e - 1)), nR (x.c.d * ((e.toNat : Int) : Dyadic))⟩], A56, c56, by omega, rfl, by rw [hsn]; rfl, by rw [List.length_append]; rfl, by rw [List.length_append, bS, gk]; exact hh⟩, by show pn - (i + 1) < pn - i; omega, ?_⟩
     (repeat (first | exact aw _ _ _ | refine ax rfl ?_ | refine au rfl ?_))
   ·obtain rfl : i = pn := by omega
    rw [List.take_of_length_le (by omega)] at hM
    have hmk : iT pv M = 0 ∧ fT (k + 24) M ∧ ∀ t ∈ M, t.m.size ≤ 100000 := by
     rw [hM]
     exact wb hpe okp szp hk
    have hmc := fun A c w1 hT1 hS1 => j0 pv A M.length c M (k + 24) w1 hT1 hS1 (by omega) (by omega) hmk.2.1 hmk.2.2
    rw [hmk.1] at hmc
    refine sr ?_
    refine aW (ae (ah (cF ?_)))
    refine aO ?_
    refine ay (ay (a8 (ai (sr (bB ?_)))))
    refine bE hh 2 ?_
    refine mL ?_
    refine aR (hmc _ _ _ (hT.hp hh) (hh.aJ (i := 0) rfl)) ar.out rfl (by decide) ?_
    rintro e_ w61 ⟨g, og, rfl, h3⟩
    refine ⟨_, rfl, ?_⟩
    replace hh := hh.join h3
    simp only [List.cons_append, List.nil_append] at hh
    refine dx ?_
    refine dx ?_
    refine bD hh 2 [_,_] ?_
    intro ws hh
    replace hh : Hp _ (_ :: _ :: .blk _ _ [_, _] _ :: _) _ := hh
    refine aI (ae (al ?_))
    refine iV (aH rfl (aG (vs := [_, _]) aA.out (hh.av (i := 2) (n := 2) rfl rfl) rfl) (cb (cv rfl) a9)) ?_
    rw [hM] at og
    exact ⟨g, og, rfl, hh.sub (List.Sublist.cons_cons _ (List.nil_sublist _))⟩
 ·generalize gf p which = e at *
  refine aj (N := 64) (l := [.agg #[.int .i64 p.v, .slice p.A p.n p.c], .int .i64 which]) Tryz.func22 rfl rfl (by simp) ?_
  refine sr ?_
  refine cz hh [_,_] ?_
  intro b2 w2 hh
  refine cj hh ?_
  intro b4 w4 hh
  refine aI (ae (ah (sr ?_)))
  refine cB hh 1 [_,_] (mI ?_)
  refine bA hh (hck _ (hT.hp hh) hh.below) rfl ?_
  intro w14 hh
  refine aI (ae (sr (mI ?_)))
  refine cQ (ae (cT (sr ?_)))
  refine eH [_,_] (mI ?_)
  refine bD hh 0 [_,_] ?_
  intro ws hh
  replace hh : Hp _ (.blk _ _ [_, _] _ :: _) _ := hh
  refine aI (ae (al (aD ?_)))
  refine iV (aH rfl (aG (vs := [_, _]) aA.out (hh.av (i := 0) (n := 2) rfl rfl) rfl) (cb (cv rfl) a9)) ?_
  exact ⟨PX.nil, cZ.err h0, rfl, (hh.sub (List.nil_sublist _)).iW⟩
end Go.Proofs.YtaapkaefelhfcaaGreatDoor
/- Where several endings of a loop meet: what holds there, once. Plain, no program in sight. -/
namespace Go.Proofs.YtaapkaefelhfcaaGreatDoor
open Go.RowKit
section
variable {ro : Mode} {P : Program} {N : Nat} {Q : Kq} {ρ : Rf} {w : World}
theorem yw {c : Code} {id : Nat} {next : Rf → World → Prop} (mods : List Nat) (s0 : Nat) (J : Value → World → Prop) (hc : WC ro P N c (ml id (ec (fun ρ2 w2 => J (ρ2 s0) w2 ∧ gK mods ρ2 ρ) Q)) ρ w)
  (hn : ∀ ρ' v0 w', J v0 w' → next (cG (mask mods ρ' ρ) s0 v0) w') : WC ro P N c (ml id (ec next Q)) ρ w :=
 hc.mono fun e ρ2 w2 hq => by
  have key : J (ρ2 s0) w2 ∧ gK mods ρ2 ρ → next ρ2 w2 := fun h => by
   have := hn ρ2 (ρ2 s0) w2 h.1
   rwa [ie h.2, iy] at this
  cases e with
  | normal => exact key hq
  | exit i =>
   by_cases h : i = id
   ·subst h
    simp only [ml, ec, if_true] at hq ⊢
    exact key hq
   ·simp only [ml, ec, if_neg h] at hq ⊢
    exact hq
  | _ => exact hq
theorem wj {a c : Code} (mods : List Nat) (J : World → Prop) (hc : WC ro P N a (ec (fun ρ2 w2 => J w2 ∧ gK mods ρ2 ρ) Q) ρ w) (hn : ∀ ρ' w', J w' → WC ro P N c Q (mask mods ρ' ρ) w') : WC ro P N (.seq a c) Q ρ w :=
 ah (hc.mono fun e ρ2 w2 hq => by
  cases e with
  | normal =>
   have := hn ρ2 w2 hq.1
   rwa [ie hq.2] at this
  | _ => exact hq)
end
end Go.Proofs.YtaapkaefelhfcaaGreatDoor
/- The walk through calc.put. -/
namespace Go.Proofs.YtaapkaefelhfcaaGreatDoor
open Go.RowKit
theorem JJ.zO {w0 w W w1 : World} {H L : List HE} (hJ : JJ w0 H w W) (hs : Hp w0 H w) (hb : w.heap.size ≤ w1.heap.size) (hL : Hp w1 L W) : Hp w0 (L ++ H) W :=
 hs.join (⟨hJ.bl, fun x hx => jW (hL.own x hx) hb, hL.nd⟩ : Hp w L W)
def lg (base : Nat) (E v : Int) (ts : List TR) : VP := iq base E v ts
theorem lg.ext {base : Nat} {E v : Int} {ts : List TR} (x : Value) (w w' : World) (h : lg base E v ts x w) (hb : Below w.heap.size w w') : lg base E v ts x w' := iq.ext x w w' h hb
theorem rS (v : Int) : aZ [⟨gw v, nR 0⟩] = [] := by
 unfold aZ fP kt
 rfl
theorem ui (lA : Option Addr) (lc K T c0 : Nat) (v : Int) (ls : List PX) (hv : gl v = true) (hlc : ls.length ≤ lc) (hl12 : ls.length ≤ 12) (hls : ∀ g ∈ ls, kF v K g.ts ∧ g.v = v ∧ g.lk K ∧ g.ts.length ≤ T) (hc0 : K + 4096 * T + 8192 ≤ c0) (hc1 : c0 ≤ 440000) :
  ∀ (qs : List PX) (j : Nat) (p : List TR) (A : Option Addr) (n c : Nat) (ds : List Nat) (k : Nat) (w : World), ls.drop j = qs → j ≤ ls.length → gW w → Sl w lA ls.length 2 (aP PX.cells ls) → (∀ g ∈ ls, g.at_ w) → Sl w A n 4 (aP TR.cells p) → n ≤ c → xz ls.length j p → fT k p → n ≤ 4096 → ds.length = qs.length → (∀ (i d : Nat), ds[i]? = some d → d ≤ 127 ∧ ∀ t ∈ p, ni (j + i) t ≤ d) → jJ c0 ds (k + 1) ≤ 440000 →
  Calls Tryz.prog 99 #[.slice A n c, .int .i64 j, .slice lA ls.length lc, .int .i64 v] w fun r w' => ∃ g : PX, cZ (jd v (qs.map PX.ts) j p).1 v (jd v (qs.map PX.ts) j p).2 g ∧ r = .returned (.tuple #[.agg #[.int .i64 g.v, .slice g.A g.n g.c], .int .i64 (jd v (qs.map PX.ts) j p).1]) ∧ Hp w [g.row] w' := by
 intro qs
 have hK : K ≤ 440000 := by omega
 have hco : uQ v = 0 := if_neg (by rw [hv]; decide)
 induction qs with
 | nil =>
  intro j p A n c ds k w hq hj hT hL hat hS hnc hsr hok hn hds hD hB
  have hh := Hp.start w
  have hln := hS.cx TR.len (by decide)
  obtain rfl : j = ls.length := by
   have := congrArg List.length hq
   rw [List.length_drop] at this
   simp only [List.length_nil] at this
   omega
  obtain rfl : ds = [] := List.length_eq_zero_iff.1 hds
  rw [mg] at hB
  have hcn := fun c hc w1 hT1 => l8 v c k w1 hT1 hc (by omega)
  rw [hco] at hcn
  cases p with
  | nil =>
   obtain rfl : n = 0 := by simpa using hln.symm
   show Calls _ _ _ _ fun r w' => ∃ g : PX, cZ 0 v (aZ [⟨gw v, nR 0⟩]) g ∧ r = .returned (.tuple #[.agg #[.int .i64 g.v, .slice g.A g.n g.c], .int .i64 0]) ∧ Hp w [g.row] w'
   refine aj (N := 118) (l := [.slice A 0 c, .int .i64 ls.length, .slice lA ls.length lc, .int .i64 v]) Tryz.func99 rfl rfl (by simp) ?_
   refine sr ?_
   refine cj hh ?_
   intro b8 w8 hh
   refine aI (ae (ah (sr (mI (mL (a0 ?_))))))
   refine cu (ae (cT (ah (sr (mL (a0 ?_))))))
   refine cu (ae (cT (sr (mI ?_))))
   refine eH [_,_,_] ?_
   refine aR (hcn (nR 0) ⟨(Sz.zero k).ok (by omega), by rw [dy]; exact Sz.zero k⟩ _ (hT.hp hh)) ar.out rfl (by decide) ?_
   rintro e_ w25 ⟨g, og, rfl, h3⟩
   refine ⟨_, rfl, ?_⟩
   replace hh := hh.join h3
   simp only [List.cons_append, List.nil_append] at hh
   refine dx ?_
   refine dx ?_
   refine bD hh 1 [_,_] ?_
   intro ws hh
   replace hh : Hp _ (_ :: .blk _ _ [_, _] _ :: _) _ := hh
   refine aI (ae (al (aD (aD ?_))))
   refine iV (aH rfl (aG (vs := [_, _]) aA.out (hh.av (i := 1) (n := 2) rfl rfl) rfl) (cb (cv rfl) a9)) ?_
   exact ⟨g, og, rfl, hh.sub (List.Sublist.cons_cons _ (List.nil_sublist _))⟩
  | cons t p =>
   have hn1 : p.length + 1 = n := by simpa using hln
   have ht := hok t List.mem_cons_self
   obtain ⟨ad, rfl, hr⟩ := hS.at_ (by omega)
   show Calls _ _ _ _ fun r w' => ∃ g : PX, cZ 0 v (aZ [⟨gw v, t.c⟩]) g ∧ r = .returned (.tuple #[.agg #[.int .i64 g.v, .slice g.A g.n g.c], .int .i64 0]) ∧ Hp w [g.row] w'
   refine aj (N := 118) (l := [.slice (some ad) n c, .int .i64 ls.length, .slice lA ls.length lc, .int .i64 v]) Tryz.func99 rfl rfl (by simp) ?_
   refine sr ?_
   refine cj hh ?_
   intro b8 w8 hh
   refine aI (ae (ah (sr (mI (mL (a0 ?_))))))
   refine cu (ae (cT (ah (sr (mL (a0 ?_))))))
   refine cu (ae (cF (ak (ai (sr (mI (mL ?_)))))))
   refine aQ (k := 0) aF.out aA.size rfl rfl (by omega) (by omega) (by decide) ?_
   refine bI dE.out rfl (by decide) ?_
   refine bR (vs := [_, _, _]) aA.out rfl (((hr.ext hh.below).recAt TR.len (show (t :: p)[0]? = some t from rfl)).drop 1) rfl (by decide) ?_
   refine aR (hcn t.c ht _ (hT.hp hh)) ar.out rfl (by decide) ?_
   rintro e_ w33 ⟨g, og, rfl, h3⟩
   refine ⟨_, rfl, ?_⟩
   replace hh := hh.join h3
   simp only [List.cons_append, List.nil_append] at hh
   refine dx ?_
   refine dx ?_
   refine bD hh 1 [_,_] ?_
   intro ws hh
   replace hh : Hp _ (_ :: .blk _ _ [_, _] _ :: _) _ := hh
   refine aI (ae (al (aD ?_)))
   refine iV (aH rfl (aG (vs := [_, _]) aA.out (hh.av (i := 1) (n := 2) rfl rfl) rfl) (cb (cv rfl) a9)) ?_
   exact ⟨g, og, rfl, hh.sub (List.Sublist.cons_cons _ (List.nil_sublist _))⟩
 | cons q qs ih =>
  intro j p A n c ds k w hq hj hT hL hat hS hnc hsr hok hn hds hD hB
  have hh := Hp.start w
  have hln := hS.cx TR.len (by decide)
  cases ds with
  | nil => cases hds
  | cons d ds =>
   have hd := hD 0 d rfl
   have hjl : j < ls.length := by
    rcases Nat.lt_or_ge j ls.length with h | h
    ·exact h
    ·rw [List.drop_of_length_le h] at hq; cases hq
   have hqj : ls[j]? = some q := by rw [← List.head?_drop, hq]; rfl
   have hqs : ls.drop (j + 1) = qs := by rw [← List.tail_drop, hq]; rfl
   obtain ⟨hqk, hqv, hql, hqT⟩ := hls q (List.mem_of_getElem? hqj)
   rw [k5] at hB
   have hB1 : jJ c0 ds (k + 1) ≤ 440000 := by omega
   have hmono := hsr.mono (by omega)
   rw [List.map_cons]
   show Calls _ _ _ _ fun r w' => ∃ g : PX, cZ (dF q.ts (jd v (qs.map PX.ts) (j + 1)) p j 128).1 v (dF q.ts (jd v (qs.map PX.ts) (j + 1)) p j 128).2 g ∧ r = .returned (.tuple #[.agg #[.int .i64 g.v, .slice g.A g.n g.c], .int .i64 (dF q.ts (jd v (qs.map PX.ts) (j + 1)) p j 128).1]) ∧ Hp w [g.row] w'
   have hDs : ∀ n (i e : Nat), ds[i]? = some e → e ≤ 127 ∧ ∀ t ∈ da p j n, ni (j + 1 + i) t ≤ e := fun n i e he => by
    have h2 := hD (i + 1) e (by simpa using he)
    refine ⟨h2.1, fun t ht => ?_⟩
    have h3 := h2.2 t (jl t ht)
    rwa [show j + 1 + i = j + (i + 1) by omega]
   have hrec : ∀ (m fr en : Nat) (w1 : World), gW w1 → Below w.heap.size w w1 → fr ≤ en → en ≤ n → da p j m = (p.drop fr).take (en - fr) → Calls Tryz.prog 99 #[.slice (if c = fr then A else A.map (·.add (fr * 4))) (en - fr) (c - fr), .int .i64 ((j : Int) + 1), .slice lA ls.length lc, .int .i64 v] w1 fun r w' => ∃ g : PX, cZ (jd v (qs.map PX.ts) (j + 1) (da p j m)).1 v (jd v (qs.map PX.ts) (j + 1) (da p j m)).2 g ∧ r = .returned (.tuple #[.agg #[.int .i64 g.v, .slice g.A g.n g.c], .int .i64 (jd v (qs.map PX.ts) (j + 1) (da p j m)).1]) ∧ Hp w1 [g.row] w' := fun m fr en w1 hT1 hb h1 h2 hw => by
    have hcut := (hS.ext hb).cut h1 h2 hnc
    rw [fM TR.len, hU TR.len, ← hw] at hcut
    exact ih (j + 1) (da p j m) _ (en - fr) (c - fr) ds k w1 hqs (by omega) hT1 (hL.ext hb) (fun g hg => (hat g hg).ext hb) hcut (by omega) (hsr.with (by omega)) (fun t ht => hok t (jl t ht)) (by omega) (by simpa using hds) (hDs m) hB1
   have hsub : ∀ m, (jd v (qs.map PX.ts) (j + 1) (da p j m)).1 = 0 → kF v (jJ c0 ds (k + 1)) (jd v (qs.map PX.ts) (j + 1) (da p j m)).2 := fun m hm => by
    refine y7 hv hc0 (qs.map PX.ts) (j + 1) (da p j m) ds k (fun r hr => ?_) (fun t ht => hok t (jl t ht)) (by rw [List.length_map]; simpa using hds) (hDs m) (by omega) hm
    obtain ⟨g, hg, rfl⟩ := List.mem_map.1 hr
    have := hls g (List.mem_of_mem_drop (by rw [hqs]; exact hg))
    exact ⟨this.1, this.2.2.2⟩
   generalize jd v (qs.map PX.ts) (j + 1) = sub at hrec hsub ⊢
   have hlim := oU (sub := sub) (p := p) (j := j) hv hqk hqT hd.2 hd.1 hsub hc0 (by omega)
   have hlim2 : ∀ i, i ≤ 128 → (dF q.ts sub p j i).1 = 0 → kF v 440000 (dF q.ts sub p j i).2 := fun i hi h0 => (hlim i hi h0).mono (by
    have : (i + d - 128) * c0 ≤ d * c0 := Nat.mul_le_mul_right _ (by omega)
    omega)
   have hcn := fun w1 hT1 => l8 v (nR 0) 0 w1 hT1 ⟨(Sz.zero 0).ok (by decide), by rw [dy]; exact Sz.zero 0⟩ (by decide)
   rw [hco, rS] at hcn
   refine aj (N := 118) (l := [.slice A n c, .int .i64 j, .slice lA ls.length lc, .int .i64 v]) Tryz.func99 rfl rfl (by simp) ?_
   refine sr ?_
   refine cj hh ?_
   intro b8 w8 hh
   refine aI (ae (ah (sr (mI (mL (a0 ?_))))))
   refine cu (ae (cF (ak (ai (sr (mI ?_))))))
   refine eH [_,_,_] ?_
   refine aR (hcn _ (hT.hp hh)) ar.out rfl (by decide) ?_
   rintro e_ w39 ⟨g, og, rfl, h3⟩
   refine ⟨_, rfl, ?_⟩
   replace hh := hh.join h3
   simp only [List.cons_append, List.nil_append] at hh
   refine mT ?_
   refine dx ?_
   refine dx ?_
   refine cj hh ?_
   intro b10 w10 hh
   refine bD hh 0 [_,_] ?_
   intro ws hh
   replace hh : Hp _ (.blk _ _ [_, _] _ :: _) _ := hh
   refine aI (ae (sr (mL (a0 (aI (ae (ah (sr (aI (ae (ao ?_)))))))))))
   refine tj [11, 12, 13, 14, 15, 44, 45, 46, 47, 48, 49, 50, 51, 52, 53, 54, 55, 56, 57, 58, 59, 60, 61, 62, 63, 64, 65, 66, 67, 68, 69, 70, 71, 72, 73, 74, 75, 76, 77, 78, 79, 80, 81, 82, 83, 84, 85, 86, 87, 88, 89, 90, 91, 92, 93, 94, 95, 96, 97, 98, 99, 100, 101, 102, 103, 104, 105, 106, 107, 108, 109, 110, 111, 112] 11 12 13
    (fun e en nv w' => ∃ (i en_ : Nat) (e_ ov : Int) (oA : Option Addr) (on oc : Nat) (os : List TR), i ≤ 128 ∧ nv = .int .i64 (127 - (i : Int)) ∧ en = .int .i64 en_ ∧ e = .int .i64 e_ ∧ e_ = (dF q.ts sub p j i).1 ∧ en_ ≤ n ∧ (e_ = 0 → ov = v ∧ os = (dF q.ts sub p j i).2 ∧ (∀ t ∈ p.take en_, ni j t < 128 - i) ∧ (∀ t ∈ p.drop en_, 128 - i ≤ ni j t)) ∧ Hp w [.blk b10 24 [.int .i64 ov, .slice oA on oc] (0, 0), .row oA on oc 55 4 (aP TR.cells os), .blk b8 24 [.int .i64 0, .slice none 0 0] (0, 0)] w')
    (fun _ _ nv _ => (intOf nv + 1).toNat) ?_ ?_
   ·refine ⟨0, n, 0, g.v, g.A, g.n, g.c, g.ts, Nat.zero_le _, rfl, rfl, rfl, rfl, Nat.le_refl _, fun _ => ⟨og.v, og.ts, fun t ht => ?_, fun t ht => ?_⟩, hh⟩
    ·obtain ⟨x, _, hx, h8⟩ := hsr.get (by omega) (List.mem_of_mem_take ht)
     rw [hx]
     exact h8
    ·rw [List.drop_of_length_le (by omega)] at ht
     cases ht
   ·clear hh og h3
    rintro ρ' e_ en_ nv_ w' ⟨i, en, e, ov, oA, on, oc, os, hi, rfl, rfl, rfl, he, hen, hok0, hh⟩
    by_cases hcn : i < 128 ∧ e = 0
    ·obtain ⟨hi8, rfl⟩ := hcn
     obtain ⟨rfl, rfl, hlo, hhi⟩ := hok0 rfl
     clear hok0
     obtain ⟨m, hm⟩ : ∃ m, m = 127 - i := ⟨_, rfl⟩
     rw [show (127 - (i : Int)) = (m : Int) by omega]
     refine ah (sr (mI ?_))
     refine dg (mB ?_)
     first | refine gS ?_ | (refine gT ?_; refine mI ?_) | refine gV ?_
     first | refine gS ?_ | (refine gT ?_; refine cu ?_) | refine gV ?_
     first | refine cS ?_ | refine cU ?_
     refine ae (cT (ak (ai (ah (ao (sr (mI (aI (ae (ah (ao ?_)))))))))))
     refine yw [14, 53, 54, 55, 56, 57, 58, 59, 60, 61, 62, 63, 64, 65, 66, 67, 68, 69] 14
      (fun f w' => ∃ fr : Nat, fr ≤ en ∧ f = .int .i64 fr ∧ da p j m = (p.drop fr).take (en - fr) ∧ (∀ t ∈ p.take fr, ni j t < m) ∧ Hp w [.blk b10 24 [.int .i64 ov, .slice oA on oc] (0, 0), .row oA on oc 55 4 (aP TR.cells (dF q.ts sub p j i).2), .blk b8 24 [.int .i64 0, .slice none 0 0] (0, 0)] w') ?_ ?_
     ·refine bs [14, 53, 54, 55, 56, 57, 58, 59, 60, 61, 62, 63, 64, 65, 66, 67, 68, 69] 14
       (fun f w' => ∃ fr : Nat, fr ≤ en ∧ f = .int .i64 fr ∧ (∀ t ∈ (p.drop fr).take (en - fr), ni j t = m) ∧ Hp w [.blk b10 24 [.int .i64 ov, .slice oA on oc] (0, 0), .row oA on oc 55 4 (aP TR.cells (dF q.ts sub p j i).2), .blk b8 24 [.int .i64 0, .slice none 0 0] (0, 0)] w')
       (fun f _ => (intOf f).toNat) ?_ ?_
      ·exact ⟨en, Nat.le_refl _, rfl, (fun t ht => by rw [Nat.sub_self] at ht; cases ht), hh⟩
      ·clear hh
       rintro ρ' f w' ⟨fr, hfr, rfl, hmid, hh⟩
       by_cases h0 : 0 < fr
       ·obtain ⟨fr, rfl⟩ : ∃ g, fr = g + 1 := ⟨fr - 1, by omega⟩
        obtain ⟨x, hx⟩ := aE (l := p) (k := fr) (by omega)
        obtain ⟨ad, rfl, hr⟩ := hS.at_ (by omega)
        obtain ⟨e, hex, hxe, h8⟩ := hsr.get (by omega) (List.mem_of_getElem? hx)
        by_cases hem : e.toNat = m
        ·refine ah (sr (mI ?_))
         refine ck (mB ?_)
         first | refine gS ?_ | (refine gT ?_; refine mL ?_) | refine gV ?_
         first | refine gS ?_ | (refine gT ?_; refine mI ?_) | refine gV ?_
         first | refine gS ?_ | (refine gT ?_; refine eA ?_) | refine gV ?_
         first | refine gS ?_ | (refine gT ?_; refine aQ (k := fr) aF.out aA.size rfl rfl (by omega) (by omega) (by decide) ?_) | refine gV ?_
         first | refine gS ?_ | (refine gT ?_; refine bI dE.out rfl (by decide) ?_) | refine gV ?_
         refine bq rfl rfl ?_
         refine bj aA.out rfl (((hr.ext hh.below).recAt TR.len hx).cell (i := 0) rfl) (by decide) ?_
         first | refine gS ?_ | (refine gT ?_; refine mI ?_) | refine gV ?_
         first | refine gS ?_ | (refine gT ?_; refine bo aF.out rfl rfl (by omega) (by assumption) (by decide) ?_) | refine gV ?_
         first | refine gS ?_ | (refine gT ?_; refine cJ aF.out aF.out rfl (by omega) (by omega) (by decide) ?_) | refine gV ?_
         first | refine gS ?_ | (refine gT ?_; refine mI ?_) | refine gV ?_
         first | refine gS ?_ | (refine gT ?_; refine cu ?_) | refine gV ?_
         first | refine cS ?_ | refine cU ?_
         refine ae (cT (ak (ai (ao (aq (mI ?_))))))
         refine eA (aI (aC (aT (ai ?_))))
         refine ⟨⟨fr, by omega, by show Value.int .i64 (((fr + 1 : Nat) : Int) - 1) = _; congr 1; omega, fun t ht => ?_, hh⟩, by show (((fr + 1 : Nat) : Int) - 1).toNat < ((fr + 1 : Nat) : Int).toNat; omega, ?_⟩
         ·rw [iG hx, show en - fr = (en - (fr + 1)) + 1 by omega, List.take_succ_cons] at ht
          rcases List.mem_cons.1 ht with rfl | ht
          ·rw [hxe, hem]
          ·exact hmid t ht
         ·(repeat (first | exact aw _ _ _ | refine ax rfl ?_ | refine au rfl ?_))
        ·have hlt : e.toNat < m := by
          have := hlo x (by rw [show en = (fr + 1) + (en - (fr + 1)) by omega, List.take_add]; exact List.mem_append_left _ (by rw [aN hx]; exact List.mem_append_right _ List.mem_cons_self))
          omega
         have hall := wV hmono hx (n := m) (by rw [hxe]; exact hlt)
         refine ah (sr (mI ?_))
         refine ck (mB ?_)
         first | refine gS ?_ | (refine gT ?_; refine mL ?_) | refine gV ?_
         first | refine gS ?_ | (refine gT ?_; refine mI ?_) | refine gV ?_
         first | refine gS ?_ | (refine gT ?_; refine eA ?_) | refine gV ?_
         first | refine gS ?_ | (refine gT ?_; refine aQ (k := fr) aF.out aA.size rfl rfl (by omega) (by omega) (by decide) ?_) | refine gV ?_
         first | refine gS ?_ | (refine gT ?_; refine bI dE.out rfl (by decide) ?_) | refine gV ?_
         refine bq rfl rfl ?_
         refine bj aA.out rfl (((hr.ext hh.below).recAt TR.len hx).cell (i := 0) rfl) (by decide) ?_
         first | refine gS ?_ | (refine gT ?_; refine mI ?_) | refine gV ?_
         first | refine gS ?_ | (refine gT ?_; refine bo aF.out rfl rfl (by omega) (by assumption) (by decide) ?_) | refine gV ?_
         first | refine gS ?_ | (refine gT ?_; refine cJ aF.out aF.out rfl (by omega) (by omega) (by decide) ?_) | refine gV ?_
         first | refine gS ?_ | (refine gT ?_; refine mI ?_) | refine gV ?_
         first | refine gS ?_ | (refine gT ?_; refine cu ?_) | refine gV ?_
         first | refine cS ?_ | refine cU ?_
         refine ae (cF ?_)
         refine aO ?_
         refine ay (ay (a8 (ai ?_)))
         refine ⟨⟨fr + 1, hfr, rfl, sM hfr hall hmid (fun t ht => by have := hhi t ht; omega), hall, hh⟩, ?_⟩
         (repeat (first | exact aw _ _ _ | refine ax rfl ?_ | refine au rfl ?_))
       ·obtain rfl : fr = 0 := by omega
        refine ah (sr (mI ?_))
        refine ck (mB ?_)
        first | refine gS ?_ | (refine gT ?_; refine mL ?_) | refine gV ?_
        first | refine gS ?_ | (refine gT ?_; refine mI ?_) | refine gV ?_
        first | refine gS ?_ | (refine gT ?_; refine eA ?_) | refine gV ?_
        first | refine gS ?_ | (refine gT ?_; refine fQ aF.out aA.size rfl rfl (by omega) (by omega) (by decide) ?_) | refine gV ?_
        first | refine gS ?_ | (refine gT ?_; refine bI dE.out rfl (by decide) ?_) | refine gV ?_
        first | (refine cd (by decide) rfl rfl (by decide) ?_) | (refine fU (by decide) rfl rfl ?_)
        first | refine gS ?_ | (refine gT ?_; refine mI ?_) | refine gV ?_
        first | refine gS ?_ | (refine gT ?_; refine bo aF.out rfl rfl (by omega) (by assumption) (by decide) ?_) | refine gV ?_
        first | refine gS ?_ | (refine gT ?_; refine cJ aF.out aF.out rfl (by omega) (by omega) (by decide) ?_) | refine gV ?_
        first | refine gS ?_ | (refine gT ?_; refine mI ?_) | refine gV ?_
        first | refine gS ?_ | (refine gT ?_; refine cu ?_) | refine gV ?_
        first | refine cS ?_ | refine cU ?_
        refine ae (cF ?_)
        refine aO ?_
        refine ay (ay (a8 (ai ?_)))
        refine ⟨⟨0, hfr, rfl, sM hfr (fun t ht => by cases ht) hmid (fun t ht => by have := hhi t ht; omega), (fun t ht => by cases ht), hh⟩, ?_⟩
        (repeat (first | exact aw _ _ _ | refine ax rfl ?_ | refine au rfl ?_))
     ·skip
      clear hh
      rintro ρ' f w' ⟨fr, hfr, rfl, hwi, hbl, hh⟩
      have hnx : dF q.ts sub p j (i + 1) = ig q.ts sub p j m (dF q.ts sub p j i) := by rw [uj, hm]
      have hop := hlim2 i (by omega) he.symm
      unfold ig at hnx
      rw [if_neg (by rw [← he]; decide)] at hnx
      have hmi : m = 128 - (i + 1) := by omega
      have hmi2 : (127 - ((i + 1 : Nat) : Int)) = (m : Int) - 1 := by omega
      have hdf : ∀ t ∈ p.drop fr, m ≤ ni j t := fun t ht => by
       rw [ym hfr] at ht
       rcases List.mem_append.1 ht with ht | ht
       ·rw [← hwi] at ht
        have := of_decide_eq_true (List.mem_filter.1 ht).2
        omega
       ·have := hhi t ht
        omega
      have hst : (dF q.ts sub p j i) = (0, (dF q.ts sub p j i).2) := by rw [he]
      generalize (dF q.ts sub p j i).2 = os at *
      have hoc : on ≤ oc := hh.jK (i := 1) rfl
      have hon : os.length = on := (hh.aJ (i := 1) rfl).cx TR.len (by decide)
      have hwl : (da p j m).length = en - fr := by rw [hwi, List.length_take, List.length_drop]; omega
      by_cases hsk : os.length = 0 ∧ (da p j m).length = 0
      ·rw [if_pos hsk] at hnx
       obtain ⟨h1, h2⟩ := hsk
       obtain rfl : on = 0 := by omega
       obtain rfl : fr = en := by omega
       refine ah (sr (bB ?_))
       refine bE hh 0 ?_
       refine a0 ?_
       refine cu (mB ?_)
       first | refine gS ?_ | (refine gT ?_; refine mI ?_) | refine gV ?_
       first | refine gS ?_ | (refine gT ?_; refine mI ?_) | refine gV ?_
       first | refine gS ?_ | (refine gT ?_; refine cu ?_) | refine gV ?_
       first | refine cS ?_ | refine cU ?_
       refine ae (cT ?_)
       refine aO ?_
       refine ay (a8 (ai (aq (mI ?_))))
       refine eA (aI (aC (ai ?_)))
       refine ⟨⟨i + 1, fr, 0, ov, oA, 0, oc, os, by omega, by rw [hmi2]; rfl, rfl, rfl, by rw [hnx]; exact he, hen, fun _ => ⟨rfl, by rw [hnx, hst], fun t ht => by rw [← hmi]; exact hbl t ht, fun t ht => by rw [← hmi]; exact hdf t ht⟩, hh⟩, by show ((m : Int) - 1 + 1).toNat < ((m : Int) + 1).toNat; omega, ?_⟩
       (repeat (first | exact aw _ _ _ | refine ax rfl ?_ | refine au rfl ?_))
      ·rw [if_neg hsk] at hnx
       refine wj [70, 71, 72, 73, 74, 75, 76, 77, 78]
        (fun w' => Hp w [.blk b10 24 [.int .i64 ov, .slice oA on oc] (0, 0), .row oA on oc 55 4 (aP TR.cells os), .blk b8 24 [.int .i64 0, .slice none 0 0] (0, 0)] w') ?_ ?_
       ·by_cases h0 : on = 0
        ·subst h0
         have hne : fr ≠ en := fun h => hsk ⟨hon, by omega⟩
         refine sr (bB ?_)
         refine bE hh 0 ?_
         refine a0 ?_
         refine cu (mB ?_)
         first | refine gS ?_ | (refine gT ?_; refine mI ?_) | refine gV ?_
         first | refine gS ?_ | (refine gT ?_; refine mI ?_) | refine gV ?_
         first | refine gS ?_ | (refine gT ?_; refine cu ?_) | refine gV ?_
         first | refine cS ?_ | refine cU ?_
         refine ae (cF (ak (ai ?_)))
         refine ⟨hh, ?_⟩
         (repeat (first | exact aw _ _ _ | refine ax rfl ?_ | refine au rfl ?_))
         exact fun _ _ => rfl
        ·refine sr (bB ?_)
         refine bE hh 0 ?_
         refine a0 ?_
         refine cu (mB ?_)
         first | refine gS ?_ | (refine gT ?_; refine mI ?_) | refine gV ?_
         first | refine gS ?_ | (refine gT ?_; refine mI ?_) | refine gV ?_
         first | refine gS ?_ | (refine gT ?_; refine cu ?_) | refine gV ?_
         first | refine cS ?_ | refine cU ?_
         refine ae (cF (ak (ai ?_)))
         refine ⟨hh, ?_⟩
         (repeat (first | exact aw _ _ _ | refine ax rfl ?_ | refine au rfl ?_))
         exact fun _ _ => rfl
       ·skip
        clear hh
        rintro ρ' w' hh
        obtain ⟨lad, rfl, hlr⟩ := hL.at_ (by omega)
        have hlp : gp [⟨ov, oA, on, oc, os⟩, q] = 0 := rJ hop.e (by unfold PX.e; rw [hqv]; exact hqk.e) hqv
        have hmu : ∀ (A2 : Option Addr) (w1 : World), gW w1 → Sl w1 A2 2 2 (aP PX.cells [⟨ov, oA, on, oc, os⟩, q]) → Sl w1 oA on 4 (aP TR.cells os) → Below w.heap.size w w1 → Calls Tryz.prog 31 #[.slice A2 2 2] w1 fun r w' => ∃ g : PX, cZ (fo os q.ts) ov (aZ (cW os q.ts)) g ∧ r = .returned (.tuple #[.agg #[.int .i64 g.v, .slice g.A g.n g.c], .int .i64 (fo os q.ts)]) ∧ Hp w1 [g.row] w' := fun A2 w1 hT1 s1 s2 hb => by
         have h1 := tq A2 2 2 [⟨ov, oA, on, oc, os⟩, q] 440000 505536 w1 hT1 s1 (by decide) (by decide) (fun g hg => by
          rcases List.mem_cons.1 hg with rfl | hg
          ·exact s2
          ·rw [List.mem_singleton.1 hg]; exact (hat q (List.mem_of_getElem? hqj)).ext hb) (fun g hg => by
          rcases List.mem_cons.1 hg with rfl | hg
          ·exact ⟨by have := hop.len; show on ≤ 1000000; omega, hoc, hop.ok, hop.sz⟩
          ·rw [List.mem_singleton.1 hg]; exact ⟨hql.n, hql.cap, hql.ok.mono hK, hql.sz⟩) (by decide) (by decide)
         unfold vY at h1
         rw [if_pos hlp] at h1
         exact h1
        refine sr ?_
        refine cj hh ?_
        intro b15 w15 hh
        refine ae (ah (ah ?_))
        refine cg [] [9] [0, 0, 0, 6, 14, 31, 63, 127, 255, 255, 511, 2047] 10 [[(10, none)], [(2, none)], [(1, none)], [(81, some 1), (82, some 2)], [(83, some 3)], [(80, some 0), (84, some 4)], [(85, some 5)], [(86, some 6)], [(79, some 7)], [(79, some 7)]] [(9, 88), (8, 87), (7, 79), (6, 86), (5, 85), (4, 84), (3, 83), (2, 82), (1, 81), (0, 80)] hh mixed (by kernel_rfl) cA rfl (by repeat (first | exact bW | refine bC ?_ | refine bV ?_)) ?_
        refine dZ 1 [_,_] ?_
        refine fX ?_
        refine ej ?_
        refine jN (j) ?_
        refine qQ [_,_] (fun _ hj => (hlr.ext hj.hp.below).recAt PX.len hqj) ?_
        refine bk (i := 5) (fm 2 2 (aP PX.cells [⟨ov, oA, on, oc, os⟩, q])) (fm.ext) ?_ ?_
        ·intro ρ1 w1 hj hR
         exact fp (sz := 2) aF.out aA.out (show pf ρ1 [(0, .tmp 80), (1, .tmp 84)] = [(0, .agg #[.int .i64 ov, .slice oA on oc]), (1, .agg #[.int .i64 q.v, .slice q.A q.n q.c])] from br (show ρ1 80 = _ from hR.1) (br (show ρ1 84 = _ from hR.2.1) ct)) rfl rfl (by decide) (by decide) rfl fun v w2 h hb => ⟨hb, h⟩
        refine bk (i := 6) (ix hh.sz (fo os q.ts) ov (aZ (cW os q.ts))) (ix.ext) ?_ ?_
        ·intro ρ1 w1 hj hR
         exact let ⟨b, e1, s1⟩ := hR.1; bU rfl (a3 ar.out (az e1 a7)) (hmu _ w1 (hT.hp hj.hp) s1 (hj.hp.aJ (i := 2) rfl) hj.hp.below) (fun _ _ ⟨g, og, hq, h3⟩ => ⟨_, hq, h3.below, g, w1, rfl, og, hj.bl.size, h3⟩)
        refine bk (i := 7) (ix hh.sz (fo os q.ts) ov (aZ (cW os q.ts))) (ix.ext) ?_ ?_
        ·intro ρ1 w1 hj hR
         exact let ⟨g, u, e1, e2⟩ := hR.1; bY rfl (df e1) ⟨Below.refl _ _, g, u, rfl, e2⟩
        refine bk (i := 8) (lg hh.sz (fo os q.ts) ov (aZ (cW os q.ts))) (lg.ext) ?_ ?_
        ·intro ρ1 w1 hj hR
         exact let ⟨g, u, e1, e2⟩ := hR.1; bY rfl (eb (vs := [_, _]) e1 rfl) ⟨Below.refl _ _, g, u, rfl, e2⟩
        refine bk (i := 9) (Is (.int .i64 (fo os q.ts))) (Is.ext) ?_ ?_
        ·intro ρ1 w1 hj hR
         exact let ⟨g, u, e1, e2⟩ := hR.1; bY rfl (eb (vs := [_, _]) e1 rfl) ⟨Below.refl _ _, rfl⟩
        refine a6 ?_
        intro f W hJ hV _
        have hb_15 := hJ.bl
        obtain ⟨v88, v87, v79, v86, v85, v84, v83, v82, v81, v80, _⟩ := hV
        obtain ⟨g85, e85, o85⟩ : fm 2 2 (aP PX.cells [⟨ov, oA, on, oc, os⟩, q]) (f 5) W := v85
        obtain ⟨g86, u86, e86, -⟩ := v86
        obtain ⟨g79, u79, e79, -⟩ := v79
        obtain ⟨g87, u87, e87, o87, q87, h87⟩ := v87
        replace hh := JJ.zO hJ hh q87 h87
        refine aK (a4 (aa v88 (aa e87 (aa e79 (aa e86 (aa e85 (aa v84 (aa v83 (aa v82 (aa v81 (aa v80 aM))))))))))) ?_
        dsimp only [bX]
        clear e85 e86 e79 e87 hJ
        simp only [List.cons_append, List.nil_append] at hh
        obtain ⟨gv, gA, gn, gc, gts⟩ := g87
        replace hh := show Hp w (.row gA gn gc 55 4 (aP TR.cells gts) :: _) W from hh
        by_cases hte : fo os q.ts = 0
        ·rw [if_neg (by rw [hte]; decide)] at hnx
         rw [hte] at o87
         obtain rfl : ov = gv := o87.v.symm
         obtain rfl : aZ (cW os q.ts) = gts := o87.ts.symm
         have hgc : gn ≤ gc := hh.jK (i := 0) rfl
         have hgl : (aZ (cW os q.ts)).length = gn := (hh.aJ (i := 0) rfl).cx TR.len (by decide)
         have hgo := vL hop hqk hqT hte (by omega)
         refine bD hh 2 [_,_] ?_
         intro ws hh
         replace hh : Hp _ (_ :: _ :: .blk _ _ [_, _] _ :: _) _ := hh
         refine aI (ae (sr (mI ?_)))
         refine cu (ae (cT (aq (mL (mI (mI ?_))))))
         dsimp only at hh
         refine a5 rfl rfl (by decide) (gE (lo := some (.tmp 93)) (hi := some (.tmp 94)) (l := fr) (h := en) aF.out aA.size rfl ⟨_, _, rfl, rfl⟩ ⟨_, _, rfl, rfl⟩ hfr (by omega)) ?_
         refine mI ?_
         refine bL (mL (mI ?_))
         refine aR (hrec m fr en _ (hT.hp hh) hh.below hfr hen hwi) ar.out rfl (by decide) ?_
         rintro e_ w100 ⟨g2, og2, rfl, h4⟩
         refine ⟨_, rfl, ?_⟩
         replace hh := hh.join h4
         simp only [List.cons_append, List.nil_append] at hh
         have hs2 := hsub m
         obtain ⟨hv2, hA2, hn2, hc2, ht2⟩ := g2
         replace hh := show Hp w (.row hA2 hn2 hc2 55 4 (aP TR.cells ht2) :: _) _ from hh
         by_cases hE2 : (sub (da p j m)).1 = 0
         ·rw [if_neg (by rw [hE2]; decide)] at hnx
          rw [hE2] at og2
          obtain rfl : ov = hv2 := og2.v.symm
          obtain rfl : (sub (da p j m)).2 = ht2 := og2.ts.symm
          have ho2 := hs2 hE2
          have hc2c : hn2 ≤ hc2 := hh.jK (i := 0) rfl
          have hl2 : ((sub (da p j m)).2).length = hn2 := (hh.aJ (i := 0) rfl).cx TR.len (by decide)
          generalize (sub (da p j m)).2 = us at *
          refine mT ?_
          refine dx ?_
          refine dx ?_
          refine bD hh 2 [_,_] ?_
          intro ws hh
          replace hh : Hp _ (_ :: _ :: .blk _ _ [_, _] _ :: _) _ := hh
          refine aI (ae (ah (sr (mI ?_))))
          refine cu (ae (cT (aq ?_)))
          refine cB hh 3 [_,_] ?_
          refine cB hh 2 [_,_] ?_
          refine bO hh (cs := [_, _, _, _]) aF.out aA.out (br (ez rfl) (br (ez rfl) ct)) rfl rfl (by decide) (by decide) (by decide) rfl (by decide) ?_
          intro b108 w108 hh
          dsimp only at hh
          have hlp2 : gp [⟨ov, gA, gn, gc, aZ (cW os q.ts)⟩, ⟨ov, hA2, hn2, hc2, us⟩] = 0 := rJ hgo.e ho2.e rfl
          have had := tR (some ⟨b108, 0, none⟩) 2 2 [⟨ov, gA, gn, gc, aZ (cW os q.ts)⟩, ⟨ov, hA2, hn2, hc2, us⟩] 2000000 _ (hT.hp hh) (hh.aJ (i := 0) rfl) (by decide) (fun g hg => by
           rcases List.mem_cons.1 hg with rfl | hg
           ·exact hh.aJ (i := 2) rfl
           ·rw [List.mem_singleton.1 hg]; exact hh.aJ (i := 1) rfl) (fun g hg => by
           rcases List.mem_cons.1 hg with rfl | hg
           ·exact ⟨by have := hgo.len; show gn ≤ 1000000; omega, hgc, hgo.ok.mono (by omega), hgo.sz⟩
           ·rw [List.mem_singleton.1 hg]; exact ⟨by have := ho2.len; show hn2 ≤ 1000000; omega, hc2c, ho2.ok.mono (by omega), ho2.sz⟩) (by decide)
          unfold zz at had
          rw [if_pos hlp2, BL] at had
          dsimp only at had
          refine aR (had) ar.out rfl (by decide) ?_
          rintro e_ w109 ⟨g3, og3, rfl, h5⟩
          refine ⟨_, rfl, ?_⟩
          replace hh := hh.join h5
          simp only [List.cons_append, List.nil_append] at hh
          obtain ⟨hv3, hA3, hn3, hc3, ht3⟩ := g3
          replace hh := show Hp w (.row hA3 hn3 hc3 55 4 (aP TR.cells ht3) :: _) _ from hh
          refine mT ?_
          refine dx ?_
          refine dx ?_
          refine bD hh 5 [_,_] ?_
          intro ws hh
          replace hh : Hp _ (_ :: _ :: _ :: _ :: _ :: .blk _ _ [_, _] _ :: _) _ := hh
          refine aI (ae (aq (mI (aI (aC (aT (ai (aq (mI ?_)))))))))
          refine eA (aI (aC (ai ?_)))
          replace hh := hh.sub (List.Sublist.cons_cons _ (List.Sublist.cons _ (List.Sublist.cons _ (List.Sublist.cons _ (List.Sublist.cons _ (List.Sublist.cons_cons _ (List.Sublist.cons _ (List.Sublist.cons_cons _ List.Sublist.slnil))))))))
          replace hh := hh.perm (List.perm_middle (l₁ := [_]))
          simp only [List.cons_append, List.nil_append] at hh
          try dsimp only at hh
          refine ⟨⟨i + 1, fr, fe (aZ (cW os q.ts) ++ us), hv3, hA3, hn3, hc3, ht3, by omega, by rw [hmi2]; rfl, rfl, rfl, ?_, by omega, fun h => ⟨?_, ?_, fun t ht => by rw [← hmi]; exact hbl t ht, fun t ht => by rw [← hmi]; exact hdf t ht⟩, hh⟩, by show ((m : Int) - 1 + 1).toNat < ((m : Int) + 1).toNat; omega, ?_⟩
          ·rw [hnx]
           by_cases hg : fe (aZ (cW os q.ts) ++ us) ≠ 0
           ·rw [if_pos hg]
           ·rw [if_neg hg]; omega
          ·have := og3.v
           rw [if_pos h] at this
           exact this
          ·rw [hnx, if_neg (by rw [h]; decide)]
           have := og3.ts
           rw [if_pos h] at this
           exact this
          ·(repeat (first | exact aw _ _ _ | refine ax rfl ?_ | refine au rfl ?_))
         ·rw [if_pos hE2] at hnx
          refine mT ?_
          refine dx ?_
          refine dx ?_
          refine bD hh 2 [_,_] ?_
          intro ws hh
          replace hh : Hp _ (_ :: _ :: .blk _ _ [_, _] _ :: _) _ := hh
          refine aI (ae (ah (sr (mI ?_))))
          refine cu (ae (cF (ak (ai (aq (mI (aI (aC (aT (ai (aq ?_)))))))))))
          refine mI ?_
          refine eA (aI (aC (ai ?_)))
          replace hh := hh.sub (List.Sublist.cons _ (List.Sublist.cons_cons _ (List.Sublist.cons _ (List.Sublist.cons_cons _ (List.Sublist.cons _ (List.Sublist.cons_cons _ List.Sublist.slnil))))))
          replace hh := hh.perm (List.perm_middle (l₁ := [_]))
          simp only [List.cons_append, List.nil_append] at hh
          refine ⟨⟨i + 1, fr, _, ov, gA, gn, gc, aZ (cW os q.ts), by omega, by rw [hmi2]; rfl, rfl, rfl, by rw [hnx], by omega, fun h => absurd h hE2, hh⟩, by show ((m : Int) - 1 + 1).toNat < ((m : Int) + 1).toNat; omega, ?_⟩
          (repeat (first | exact aw _ _ _ | refine ax rfl ?_ | refine au rfl ?_))
        ·rw [if_pos hte] at hnx
         refine bD hh 2 [_,_] ?_
         intro ws hh
         replace hh : Hp _ (_ :: _ :: .blk _ _ [_, _] _ :: _) _ := hh
         refine aI (ae (sr (mI ?_)))
         refine cu (ae (cF (ak (ai (ah (sr (mI ?_)))))))
         refine cu (ae (cF (ak (ai (aq (mI (aI (aC (aT (ai (aq ?_)))))))))))
         refine mI ?_
         refine eA (aI (aC (ai ?_)))
         replace hh := hh.sub (List.Sublist.cons_cons _ (List.Sublist.cons _ (List.Sublist.cons_cons _ (List.Sublist.cons _ (List.Sublist.cons_cons _ List.Sublist.slnil)))))
         replace hh := hh.perm (List.perm_middle (l₁ := [_]))
         simp only [List.cons_append, List.nil_append] at hh
         refine ⟨⟨i + 1, fr, fo os q.ts, gv, gA, gn, gc, gts, by omega, by rw [hmi2]; rfl, rfl, rfl, by rw [hnx], by omega, fun h => absurd h hte, hh⟩, by show ((m : Int) - 1 + 1).toNat < ((m : Int) + 1).toNat; omega, ?_⟩
         (repeat (first | exact aw _ _ _ | refine ax rfl ?_ | refine au rfl ?_))
    ·have hfin : dF q.ts sub p j 128 = dF q.ts sub p j i := by
      by_cases h8 : i = 128
      ·rw [h8]
      ·exact qj (by omega) hi
     rw [hfin]
     by_cases he0 : e = 0
     ·subst he0
      obtain ⟨rfl, rfl, -, -⟩ := hok0 rfl
      clear hok0 hfin
      generalize dF q.ts sub p j i = X at *
      obtain rfl : i = 128 := by omega
      rw [← he]
      refine ah (sr (mI ?_))
      refine dg (mB ?_)
      first | refine gS ?_ | (refine gT ?_; refine mI ?_) | refine gV ?_
      first | refine gS ?_ | (refine gT ?_; refine cu ?_) | refine gV ?_
      first | refine cS ?_ | refine cU ?_
      refine ae (cF ?_)
      refine aO ?_
      refine ay (ay (a8 (ai (ah (sr (mI ?_))))))
      refine cQ (ae (cF (ak (ai (sr ?_)))))
      refine cB hh 0 [_,_] ?_
      refine bD hh 2 [_,_] ?_
      intro ws hh
      replace hh : Hp _ (_ :: _ :: .blk _ _ [_, _] _ :: _) _ := hh
      refine aI (ae (al ?_))
      refine iV (aH rfl (aG (vs := [_, _]) aA.out (hh.av (i := 2) (n := 2) rfl rfl) rfl) (cb (cv rfl) a9)) ?_
      exact ⟨⟨ov, oA, on, oc, _⟩, ⟨rfl, rfl⟩, rfl, hh.sub (.cons _ (List.Sublist.cons_cons _ (List.nil_sublist _)))⟩
     ·rw [← he]
      clear hok0 hfin
      generalize dF q.ts sub p j i = X at *
      by_cases h8 : i = 128
      ·subst h8
       refine ah (sr (mI ?_))
       refine dg (mB ?_)
       first | refine gS ?_ | (refine gT ?_; refine mI ?_) | refine gV ?_
       first | refine gS ?_ | (refine gT ?_; refine cu ?_) | refine gV ?_
       first | refine cS ?_ | refine cU ?_
       refine ae (cF ?_)
       refine aO ?_
       refine ay (ay (a8 (ai (ah (sr (mI ?_))))))
       refine cQ (ae (cT (sr ?_)))
       refine eH [_,_] (mI ?_)
       refine bD hh 2 [_,_] ?_
       intro ws hh
       replace hh : Hp _ (_ :: _ :: .blk _ _ [_, _] _ :: _) _ := hh
       refine aI (ae (al (aD ?_)))
       refine iV (aH rfl (aG (vs := [_, _]) aA.out (hh.av (i := 2) (n := 2) rfl rfl) rfl) (cb (cv rfl) a9)) ?_
       exact ⟨PX.nil, cZ.err he0, rfl, (hh.sub (List.nil_sublist _)).iW⟩
      ·refine ah (sr (mI ?_))
       refine dg (mB ?_)
       first | refine gS ?_ | (refine gT ?_; refine mI ?_) | refine gV ?_
       first | refine gS ?_ | (refine gT ?_; refine cu ?_) | refine gV ?_
       first | refine cS ?_ | refine cU ?_
       refine ae (cF ?_)
       refine aO ?_
       refine ay (ay (a8 (ai (ah (sr (mI ?_))))))
       refine cQ (ae (cT (sr ?_)))
       refine eH [_,_] (mI ?_)
       refine bD hh 2 [_,_] ?_
       intro ws hh
       replace hh : Hp _ (_ :: _ :: .blk _ _ [_, _] _ :: _) _ := hh
       refine aI (ae (al (aD ?_)))
       refine iV (aH rfl (aG (vs := [_, _]) aA.out (hh.av (i := 2) (n := 2) rfl rfl) rfl) (cb (cv rfl) a9)) ?_
       exact ⟨PX.nil, cZ.err he0, rfl, (hh.sub (List.nil_sublist _)).iW⟩
end Go.Proofs.YtaapkaefelhfcaaGreatDoor
/- The walk through calc.Subst. -/
namespace Go.Proofs.YtaapkaefelhfcaaGreatDoor
open Go.RowKit
def wU (p : PX) (ls : List PX) : Int × List TR :=
 if p.e ≠ 0 then (p.e, []) else if (ls.length : Int) ≠ p.v then (1, []) else if ls.length ≠ 0 ∧ gp ls ≠ 0 then (gp ls, []) else jd (jj ls) (ls.map PX.ts) 0 p.ts
theorem uC (f : PX) (p : Addr) (x : Int) (w : World) (hp : w.cell? p = some (.int .i64 x)) :
  Calls Tryz.prog 98 #[.agg #[.int .i64 f.v, .slice f.A f.n f.c], .pointer (some p)] w fun r w' => r = .returned (.bool (decide (f.v ≠ x))) ∧ Below w.heap.size w w' := by
 have hh := Hp.start w
 by_cases hg : f.v = x
 ·refine aj (N := 8) (l := [.agg #[.int .i64 f.v, .slice f.A f.n f.c], .pointer (some p)]) Tryz.func98 rfl rfl (by simp) ?_
  refine sr ?_
  refine cz hh [_,_] ?_
  intro b2 w2 hh
  refine aB (ae (sr (bB ?_)))
  refine bE hh 0 ?_
  refine bj aA.out rfl ((hh.below.cell (l5 hp)).trans hp) (by decide) ?_
  refine cQ (aB (ae (al ?_)))
  refine cn ?_
  exact ⟨by rw [decide_eq_false (by omega)], hh.below⟩
 ·refine aj (N := 8) (l := [.agg #[.int .i64 f.v, .slice f.A f.n f.c], .pointer (some p)]) Tryz.func98 rfl rfl (by simp) ?_
  refine sr ?_
  refine cz hh [_,_] ?_
  intro b2 w2 hh
  refine aB (ae (sr (bB ?_)))
  refine bE hh 0 ?_
  refine bj aA.out rfl ((hh.below.cell (l5 hp)).trans hp) (by decide) ?_
  refine cQ (aB (ae (al ?_)))
  refine cn ?_
  exact ⟨by rw [decide_eq_true hg], hh.below⟩
structure CD (p : PX) (ls : List PX) (k K T c0 : Nat) (ds : List Nat) : Prop where
 len : ds.length = ls.length
 Cp : ∀ (i d : Nat), ds[i]? = some d → d ≤ 127 ∧ ∀ t ∈ p.ts, ni i t ≤ d
 grow : jJ c0 ds (k + 1) ≤ 440000
 step : K + 4096 * T + 8192 ≤ c0
 top : c0 ≤ 440000
 lk : ∀ g ∈ ls, g.lk K
 Cx : ∀ g ∈ ls, g.ts.length ≤ T
theorem yx {v : Int} {ts : List TR} (h : fy v ts = 0) : xz v 0 ts := by
 obtain ⟨_, _, h3, h4⟩ := dW h
 exact ⟨h4.nU, h3, fun a _ b _ => by rw [List.take_zero, List.take_zero]⟩
theorem qF (p : PX) (lA : Option Addr) (lc : Nat) (ls : List PX) (k K T c0 : Nat) (ds : List Nat) (w : World) (hT : gW w) (hp : p.at_ w) (lp : p.lk k) (hL : Sl w lA ls.length 2 (aP PX.cells ls)) (hat : ∀ g ∈ ls, g.at_ w) (hlc : ls.length ≤ lc) (hf : CD p ls k K T c0 ds) :
  Calls Tryz.prog 28 #[.agg #[.int .i64 p.v, .slice p.A p.n p.c], .slice lA ls.length lc] w fun r w' => ∃ g : PX, cZ (wU p ls).1 (jj ls) (wU p ls).2 g ∧ r = .returned (.tuple #[.agg #[.int .i64 g.v, .slice g.A g.n g.c], .int .i64 (wU p ls).1]) ∧ Hp w [g.row] w' := by
 have hh := Hp.start w
 have hck := fun w1 hT1 hb => lB p k w1 hT1 (hp.ext hb) lp
 unfold wU
 by_cases h0 : p.e ≠ 0
 ·rw [if_pos h0]
  generalize p.e = e at *
  refine aj (N := 54) (l := [.agg #[.int .i64 p.v, .slice p.A p.n p.c], .slice lA ls.length lc]) Tryz.func28 rfl rfl (by simp) ?_
  refine sr ?_
  refine cz hh [_,_] ?_
  intro b2 w2 hh
  refine cj hh ?_
  intro b4 w4 hh
  refine aI (ae (ah (sr ?_)))
  refine cB hh 1 [_,_] ?_
  refine bA hh (hck _ (hT.hp hh) hh.below) rfl ?_
  intro w12 hh
  refine aI (ae (sr (mI ?_)))
  refine cQ (ae (cT (sr ?_)))
  refine eH [_,_] (mI ?_)
  refine bD hh 0 [_,_] ?_
  intro ws hh
  replace hh : Hp _ (.blk _ _ [_, _] _ :: _) _ := hh
  refine aI (ae (al (aD ?_)))
  refine iV (aH rfl (aG (vs := [_, _]) aA.out (hh.av (i := 0) (n := 2) rfl rfl) rfl) (cb (cv rfl) a9)) ?_
  exact ⟨PX.nil, cZ.err h0, rfl, (hh.sub (List.nil_sublist _)).iW⟩
 ·rw [if_neg h0]
  have hpe : p.e = 0 := by omega
  rw [hpe] at hck
  by_cases h1 : (ls.length : Int) ≠ p.v
  ·rw [if_pos h1]
   refine aj (N := 54) (l := [.agg #[.int .i64 p.v, .slice p.A p.n p.c], .slice lA ls.length lc]) Tryz.func28 rfl rfl (by simp) ?_
   refine sr ?_
   refine cz hh [_,_] ?_
   intro b2 w2 hh
   refine cj hh ?_
   intro b4 w4 hh
   refine aI (ae (ah (sr ?_)))
   refine cB hh 1 [_,_] ?_
   refine bA hh (hck _ (hT.hp hh) hh.below) rfl ?_
   intro w12 hh
   refine aI (ae (sr (mI ?_)))
   refine cQ (ae (cF (ak (ai (ah (sr (mL (a0 (bB ?_)))))))))
   refine bE hh 1 ?_
   refine cQ (ae (cT (sr ?_)))
   refine eH [_,_] ?_
   refine bD hh 0 [_,_] ?_
   intro ws hh
   replace hh : Hp _ (.blk _ _ [_, _] _ :: _) _ := hh
   refine aI (ae (al (aD ?_)))
   refine iV (aH rfl (aG (vs := [_, _]) aA.out (hh.av (i := 0) (n := 2) rfl rfl) rfl) (cb (cv rfl) a9)) ?_
   exact ⟨PX.nil, cZ.err (by decide), rfl, (hh.sub (List.nil_sublist _)).iW⟩
  ·rw [if_neg h1]
   obtain ⟨hfw, h4, hmy, hca⟩ := dW hpe
   replace hfw := eB.1 hfw
   have hl12 : ls.length ≤ 12 := by omega
   have hpl := hp.ln
   have hsr := yx hpe
   have hput := fun (v : Int) (hv : gl v = true) (hz : ∀ g ∈ ls, fy v g.ts = 0) (hvv : ∀ g ∈ ls, g.v = v) w1 hT1 hb => ui lA lc K T c0 v ls hv hlc hl12 (fun g hg => ⟨⟨hz g hg, (hf.lk g hg).ok, (hf.lk g hg).sz⟩, hvv g hg, hf.lk g hg, hf.Cx g hg⟩) hf.step hf.top ls 0 p.ts p.A p.n p.c ds k w1 rfl (Nat.zero_le _) hT1 (hL.ext hb) (fun g hg => (hat g hg).ext hb) (hp.ext hb) lp.cap (by rw [show ((ls.length : Nat) : Int) = p.v by omega]; exact hsr) lp.ok (by omega) hf.len (fun i d h => by rw [Nat.zero_add]; exact hf.Cp i d h) hf.grow
   by_cases hn : ls = []
   ·subst hn
    rw [if_neg (fun h => h.1 rfl)]
    have hpu := hput 0 rfl (fun g hg => by cases hg) (fun g hg => by cases hg)
    refine aj (N := 54) (l := [.agg #[.int .i64 p.v, .slice p.A p.n p.c], .slice lA 0 lc]) Tryz.func28 rfl rfl (by simp) ?_
    refine sr ?_
    refine cz hh [_,_] ?_
    intro b2 w2 hh
    refine cj hh ?_
    intro b4 w4 hh
    refine aI (ae (ah (sr ?_)))
    refine cB hh 1 [_,_] ?_
    refine bA hh (hck _ (hT.hp hh) hh.below) rfl ?_
    intro w12 hh
    refine aI (ae (sr (mI ?_)))
    refine cQ (ae (cF (ak (ai (ah (sr (mL (a0 (bB ?_)))))))))
    refine bE hh 1 ?_
    refine cQ (ae (cF (ak (ai (sr ?_)))))
    refine cj hh ?_
    intro b7 w7 hh
    refine bD hh 0 [_] ?_
    intro ws hh
    replace hh : Hp _ (.blk _ _ [_] _ :: _) _ := hh
    refine ae (ah (sr (mL (a0 ?_))))
    refine ck (ae (cF (ak (ai (sr (bB ?_))))))
    refine bE hh 2 ?_
    refine mL ?_
    refine bE hh 0 ?_
    replace hh := show Hp w (.blk b7 3 [.int .i64 0] (0, 0) :: _) _ from hh
    refine aR (hpu _ (hT.hp hh) hh.below) ar.out rfl (by decide) ?_
    rintro e_ w51 ⟨g, og, rfl, h3⟩
    refine ⟨_, rfl, ?_⟩
    replace hh := hh.join h3
    simp only [List.cons_append, List.nil_append] at hh
    refine dx ?_
    refine dx ?_
    refine bD hh 2 [_,_] ?_
    intro ws hh
    replace hh : Hp _ (_ :: _ :: .blk _ _ [_, _] _ :: _) _ := hh
    refine aI (ae (al ?_))
    refine iV (aH rfl (aG (vs := [_, _]) aA.out (hh.av (i := 2) (n := 2) rfl rfl) rfl) (cb (cv rfl) a9)) ?_
    exact ⟨g, og, rfl, hh.sub (List.Sublist.cons_cons _ (List.nil_sublist _))⟩
   ·have hlp0 : 0 < ls.length := List.length_pos_iff.2 hn
    obtain ⟨lad, rfl, hlr⟩ := hL.at_ hlp0
    refine aj (N := 54) (l := [.agg #[.int .i64 p.v, .slice p.A p.n p.c], .slice (some lad) ls.length lc]) Tryz.func28 rfl rfl (by simp) ?_
    refine sr ?_
    refine cz hh [_,_] ?_
    intro b2 w2 hh
    refine cj hh ?_
    intro b4 w4 hh
    refine aI (ae (ah (sr ?_)))
    refine cB hh 1 [_,_] ?_
    refine bA hh (hck _ (hT.hp hh) hh.below) rfl ?_
    intro w12 hh
    refine aI (ae (sr (mI ?_)))
    refine cQ (ae (cF (ak (ai (ah (sr (mL (a0 (bB ?_)))))))))
    refine bE hh 1 ?_
    refine cQ (ae (cF (ak (ai (sr ?_)))))
    refine cj hh ?_
    intro b7 w7 hh
    refine bD hh 0 [_] ?_
    intro ws hh
    replace hh : Hp _ (.blk _ _ [_] _ :: _) _ := hh
    refine ae (ah (sr (mL (a0 ?_))))
    refine ck (ae (cT (ah (sr (mL (a0 (mI (ae (ao ?_)))))))))
    replace hh := show Hp w (.blk b7 3 [.int .i64 0] (0, 0) :: _) _ from hh
    refine bs [5, 9, 10, 28, 29, 30, 31, 32, 33, 34, 35, 36, 37, 38] 28
     (fun v w' => ∃ i : Nat, i ≤ ls.length ∧ v = .int .i64 i ∧ (ls.take i).any (fun g => decide (g.e ≠ 0)) = false ∧ Hp w [.blk b7 3 [.int .i64 0] (0, 0), .blk b4 24 [.int .i64 0, .slice none 0 0] (0, 0), .blk b2 24 [.int .i64 p.v, .slice p.A p.n p.c] (0, 0)] w')
     (fun v _ => ls.length - (intOf v).toNat) ?_ ?_
    ·exact ⟨0, Nat.zero_le _, rfl, rfl, hh⟩
    ·clear hh
     rintro ρ' v w' ⟨i, hi, rfl, hall, hh⟩
     by_cases hlt : i < ls.length
     ·obtain ⟨g, hx⟩ := aE (l := ls) (k := i) hlt
      have hmem := List.mem_of_getElem? hx
      have hc := fun w1 hT1 hb => lB g K w1 hT1 ((hat g hmem).ext hb) (hf.lk g hmem)
      by_cases he : g.e = 0
      ·refine sr ?_
       refine aW (ae (ah (cT (ak (ai (ah (ao (sr ?_))))))))
       refine aQ (k := i) aF.out aA.size rfl rfl (by omega) (by omega) (by decide) ?_
       refine bR (vs := [_, _]) aA.out rfl ((hlr.ext hh.below).recAt PX.len hx) rfl (by decide) ?_
       refine cj hh ?_
       intro b9 w9 hh
       refine bD hh 0 [_,_] ?_
       intro ws hh
       replace hh : Hp _ (.blk _ _ [_, _] _ :: _) _ := hh
       refine ae (sr ?_)
       refine cB hh 0 [_,_] ?_
       refine bA hh (hc _ (hT.hp hh) hh.below) rfl ?_
       intro w33 hh
       refine aI (ae (sr (mI ?_)))
       refine cQ (ae (cF (ak (aT (ai (aq ?_))))))
       refine bL (mI (aC (ai ?_)))
       replace hh := hh.sub (List.Sublist.cons _ (List.Sublist.cons_cons _ (List.Sublist.cons_cons _ (List.Sublist.cons_cons _ List.Sublist.slnil))))
       refine ⟨⟨i + 1, by omega, rfl, by rw [aN hx, List.any_append, hall, List.any_cons, List.any_nil, decide_eq_false (by omega)]; rfl, hh⟩, by show ls.length - (i + 1) < ls.length - i; omega, ?_⟩
       (repeat (first | exact aw _ _ _ | refine ax rfl ?_ | refine au rfl ?_))
      ·have hlk : gp ls = g.e := by unfold gp; rw [pN hall hx (decide_eq_true he)]
       rw [if_pos ⟨by omega, by rw [hlk]; exact he⟩, hlk]
       refine sr ?_
       refine aW (ae (ah (cT (ak (ai (ah (ao (sr ?_))))))))
       refine aQ (k := i) aF.out aA.size rfl rfl (by omega) (by omega) (by decide) ?_
       refine bR (vs := [_, _]) aA.out rfl ((hlr.ext hh.below).recAt PX.len hx) rfl (by decide) ?_
       refine cj hh ?_
       intro b9 w9 hh
       refine bD hh 0 [_,_] ?_
       intro ws hh
       replace hh : Hp _ (.blk _ _ [_, _] _ :: _) _ := hh
       refine ae (sr ?_)
       refine cB hh 0 [_,_] ?_
       refine bA hh (hc _ (hT.hp hh) hh.below) rfl ?_
       intro w33 hh
       refine aI (ae (sr (mI ?_)))
       refine cQ (ae (cT (sr ?_)))
       refine eH [_,_] (mI ?_)
       refine bD hh 2 [_,_] ?_
       intro ws hh
       replace hh : Hp _ (_ :: _ :: .blk _ _ [_, _] _ :: _) _ := hh
       refine aI (ae (al (bP (aD (aD (bP (aD (aD ?_))))))))
       refine iV (aH rfl (aG (vs := [_, _]) aA.out (hh.av (i := 2) (n := 2) rfl rfl) rfl) (cb (cv rfl) a9)) ?_
       exact ⟨PX.nil, cZ.err he, rfl, (hh.sub (List.nil_sublist _)).iW⟩
     ·rw [List.take_of_length_le (by omega)] at hall
      have hlk : gp ls = if ls.length = 0 ∨ wC ls = true then 1 else 0 := by unfold gp; rw [gF hall]
      obtain ⟨g0, h00⟩ := aE (l := ls) (k := 0) hlp0
      have hhv : jj ls = g0.v := by
       cases ls with
       | nil => cases hlp0
       | cons x l => cases h00; rfl
      have hall0 : ∀ g ∈ ls, g.e = 0 := fun g hg => by
       have := List.any_eq_false.1 hall g hg
       simpa using this
      refine sr ?_
      refine aW (ae (ah (cF ?_)))
      refine aO ?_
      refine ay (ay (a8 (ai (sr (mL ?_)))))
      refine aQ (k := 0) aF.out aA.size rfl rfl (by omega) (by omega) (by decide) ?_
      refine bI dE.out rfl (by decide) ?_
      refine bj aA.out rfl (((hlr.ext hh.below).recAt PX.len h00).cell (i := 0) rfl) (by decide) ?_
      refine bD hh 0 [_] ?_
      intro ws hh
      replace hh : Hp _ (.blk _ _ [_] _ :: _) _ := hh
      refine ae (sr (mL ?_))
      refine eZ rfl (az (j3 rfl) a7) (by decide) ?_
      replace hh := show Hp w (.blk b7 3 [.int .i64 g0.v] (0, 0) :: _) _ from hh
      rw [← hhv] at hh
      have hcell : World.cell? _ ⟨b7, 0, none⟩ = some (.int .i64 (jj ls)) := hh.dh (i := 0) rfl rfl
      have hoa := fun w1 hb => oe (some lad) ls.length lc ls 98 [.pointer (some ⟨b7, 0, none⟩)] (fun g => decide (g.v ≠ jj ls)) w1 (hL.ext (hh.below.trans (hb.mono hh.below.size))) (by omega) (fun z w2 hz hb2 => uC z ⟨b7, 0, none⟩ (jj ls) w2 (dz hb2 (dz hb hcell)))
      cases hod : wC ls with
      | true =>
       have hod2 : ls.any (fun g => decide (g.v ≠ jj ls)) = true := hod
       rw [hod2] at hoa
       have hl1 : gp ls = 1 := by rw [hlk, if_pos (.inr hod)]
       rw [if_pos ⟨by omega, by rw [hl1]; decide⟩, hl1]
       refine bA hh (hoa _ (Below.refl _ _)) rfl ?_
       intro w45 hh
       refine ae (cT (sr ?_))
       refine eH [_,_] ?_
       refine bD hh 1 [_,_] ?_
       intro ws hh
       replace hh : Hp _ (_ :: .blk _ _ [_, _] _ :: _) _ := hh
       refine aI (ae (al (aD ?_)))
       refine iV (aH rfl (aG (vs := [_, _]) aA.out (hh.av (i := 1) (n := 2) rfl rfl) rfl) (cb (cv rfl) a9)) ?_
       exact ⟨PX.nil, cZ.err (by decide), rfl, (hh.sub (List.nil_sublist _)).iW⟩
      | false =>
       have hod2 : ls.any (fun g => decide (g.v ≠ jj ls)) = false := hod
       rw [hod2] at hoa
       have hl0 : gp ls = 0 := by
        rw [hlk, if_neg (fun h => h.elim (fun h => by omega) fun h => by rw [hod] at h; cases h)]
       rw [if_neg (fun h => h.2 hl0)]
       have hvv := (rq hl0).2.2
       have hg0 := hall0 g0 (List.mem_of_getElem? h00)
       unfold PX.e at hg0
       have hpu := hput (jj ls) (by rw [hhv]; exact (dW hg0).1) (fun g hg => by rw [← hvv g hg]; exact hall0 g hg) hvv
       refine bA hh (hoa _ (Below.refl _ _)) rfl ?_
       intro w45 hh
       refine ae (cF (ak (ai (sr (bB ?_)))))
       refine bE hh 2 ?_
       refine mL ?_
       refine bE hh 0 ?_
       refine aR (hpu _ (hT.hp hh) hh.below) ar.out rfl (by decide) ?_
       rintro e_ w51 ⟨g, og, rfl, h3⟩
       refine ⟨_, rfl, ?_⟩
       replace hh := hh.join h3
       simp only [List.cons_append, List.nil_append] at hh
       refine dx ?_
       refine dx ?_
       refine bD hh 2 [_,_] ?_
       intro ws hh
       replace hh : Hp _ (_ :: _ :: .blk _ _ [_, _] _ :: _) _ := hh
       refine aI (ae (al ?_))
       refine iV (aH rfl (aG (vs := [_, _]) aA.out (hh.av (i := 2) (n := 2) rfl rfl) rfl) (cb (cv rfl) a9)) ?_
       exact ⟨g, og, rfl, hh.sub (List.Sublist.cons_cons _ (List.nil_sublist _))⟩
end Go.Proofs.YtaapkaefelhfcaaGreatDoor
/- The walks through ogeelaw09's own helpers. -/
namespace Go.Proofs.YtaapkaefelhfcaaGreatDoor
open Go.RowKit
def rh (a : NR) : Bool := decide ((8 : Int) < a.bu.size ∨ a.e < -60 ∨ 60 < a.e)
theorem k6 (a : NR) (w : World) :
  Calls Tryz.prog 17 #[.agg #[.bool a.neg, .string a.bu, .int .i64 a.e]] w fun r w' => r = .returned (.bool (rh a)) ∧ Below w.heap.size w w' := by
 have hh := Hp.start w
 by_cases h1 : (8 : Int) < a.bu.size
 ·refine aj (N := 18) (l := [.agg #[.bool a.neg, .string a.bu, .int .i64 a.e]]) Tryz.func17 rfl rfl (by simp) ?_
  refine sr ?_
  refine cz hh [_,_,_] ?_
  intro b1 w1 hh
  refine aB (ae (sr (bB (bB ?_))))
  refine bE hh 0 ?_
  refine bp aF.out rfl (by decide) ?_
  refine ck (mB ?_)
  first | refine gS ?_ | (refine gT ?_; refine bB ?_) | refine gV ?_
  first | refine gS ?_ | (refine gT ?_; refine bE hh 0 ?_) | refine gV ?_
  first | refine gS ?_ | (refine gT ?_; refine aW ?_) | refine gV ?_
  first | refine cS ?_ | refine cU ?_
  refine mB ?_
  first | refine gS ?_ | (refine gT ?_; refine bB ?_) | refine gV ?_
  first | refine gS ?_ | (refine gT ?_; refine bE hh 0 ?_) | refine gV ?_
  first | refine gS ?_ | (refine gT ?_; refine ck ?_) | refine gV ?_
  first | refine cS ?_ | refine cU ?_
  refine aB (ae (al ?_))
  refine cn ?_
  refine ⟨?_, hh.below⟩
  unfold rh
  rw [decide_eq_true (.inl h1)]
 ·by_cases h2 : a.e < -60
  ·refine aj (N := 18) (l := [.agg #[.bool a.neg, .string a.bu, .int .i64 a.e]]) Tryz.func17 rfl rfl (by simp) ?_
   refine sr ?_
   refine cz hh [_,_,_] ?_
   intro b1 w1 hh
   refine aB (ae (sr (bB (bB ?_))))
   refine bE hh 0 ?_
   refine bp aF.out rfl (by decide) ?_
   refine ck (mB ?_)
   first | refine gS ?_ | (refine gT ?_; refine bB ?_) | refine gV ?_
   first | refine gS ?_ | (refine gT ?_; refine bE hh 0 ?_) | refine gV ?_
   first | refine gS ?_ | (refine gT ?_; refine aW ?_) | refine gV ?_
   first | refine cS ?_ | refine cU ?_
   refine mB ?_
   first | refine gS ?_ | (refine gT ?_; refine bB ?_) | refine gV ?_
   first | refine gS ?_ | (refine gT ?_; refine bE hh 0 ?_) | refine gV ?_
   first | refine gS ?_ | (refine gT ?_; refine ck ?_) | refine gV ?_
   first | refine cS ?_ | refine cU ?_
   refine aB (ae (al ?_))
   refine cn ?_
   refine ⟨?_, hh.below⟩
   unfold rh
   rw [decide_eq_true (.inr (.inl h2))]
  ·by_cases h3 : 60 < a.e
   ·refine aj (N := 18) (l := [.agg #[.bool a.neg, .string a.bu, .int .i64 a.e]]) Tryz.func17 rfl rfl (by simp) ?_
    refine sr ?_
    refine cz hh [_,_,_] ?_
    intro b1 w1 hh
    refine aB (ae (sr (bB (bB ?_))))
    refine bE hh 0 ?_
    refine bp aF.out rfl (by decide) ?_
    refine ck (mB ?_)
    first | refine gS ?_ | (refine gT ?_; refine bB ?_) | refine gV ?_
    first | refine gS ?_ | (refine gT ?_; refine bE hh 0 ?_) | refine gV ?_
    first | refine gS ?_ | (refine gT ?_; refine aW ?_) | refine gV ?_
    first | refine cS ?_ | refine cU ?_
    refine mB ?_
    first | refine gS ?_ | (refine gT ?_; refine bB ?_) | refine gV ?_
    first | refine gS ?_ | (refine gT ?_; refine bE hh 0 ?_) | refine gV ?_
    first | refine gS ?_ | (refine gT ?_; refine ck ?_) | refine gV ?_
    first | refine cS ?_ | refine cU ?_
    refine aB (ae (al ?_))
    refine cn ?_
    refine ⟨?_, hh.below⟩
    unfold rh
    rw [decide_eq_true (.inr (.inr h3))]
   ·refine aj (N := 18) (l := [.agg #[.bool a.neg, .string a.bu, .int .i64 a.e]]) Tryz.func17 rfl rfl (by simp) ?_
    refine sr ?_
    refine cz hh [_,_,_] ?_
    intro b1 w1 hh
    refine aB (ae (sr (bB (bB ?_))))
    refine bE hh 0 ?_
    refine bp aF.out rfl (by decide) ?_
    refine ck (mB ?_)
    first | refine gS ?_ | (refine gT ?_; refine bB ?_) | refine gV ?_
    first | refine gS ?_ | (refine gT ?_; refine bE hh 0 ?_) | refine gV ?_
    first | refine gS ?_ | (refine gT ?_; refine aW ?_) | refine gV ?_
    first | refine cS ?_ | refine cU ?_
    refine mB ?_
    first | refine gS ?_ | (refine gT ?_; refine bB ?_) | refine gV ?_
    first | refine gS ?_ | (refine gT ?_; refine bE hh 0 ?_) | refine gV ?_
    first | refine gS ?_ | (refine gT ?_; refine ck ?_) | refine gV ?_
    first | refine cS ?_ | refine cU ?_
    refine aB (ae (al ?_))
    refine cn ?_
    refine ⟨?_, hh.below⟩
    unfold rh
    rw [decide_eq_false (by omega)]
theorem Bx {a : NR} (h : rh a = false) : a.ok ∧ Sz 124 a.d := by
 have h' := of_decide_eq_false h
 have h1 : (a.bu.size : Int) ≤ 8 := by omega
 have h2 : -60 ≤ a.e := by omega
 have h3 : a.e ≤ 60 := by omega
 exact ⟨⟨by omega, by omega, by omega⟩, Sz.raw (m := 64) (E := 60) (by omega) h2 h3⟩
structure Ct (ts : List TR) : Prop where
 n : ts.length ≤ 10
 ok : fT 124 ts
 sz : ∀ t ∈ ts, t.m.size ≤ 20
 ex : ∀ t ∈ ts, ∀ c ∈ t.m.data.toList, c.toNat ≤ 6
theorem Ct.lk {g : PX} {w : World} (h : Ct g.ts) (ha : g.at_ w) (hc : g.n ≤ g.c) : g.lk 124 := ⟨by have := h.n; have := ha.ln; omega, hc, h.ok, fun t ht => Nat.le_trans (h.sz t ht) (by decide)⟩
theorem qV (v : Int) (A : Option Addr) (n c : Nat) (ts : List TR) (w : World) (hS : Sl w A n 4 (aP TR.cells ts)) :
  Calls Tryz.prog 15 #[.agg #[.int .i64 v, .slice A n c]] w fun r w' => ∃ b : Bool, r = .returned (.bool b) ∧ (b = false → Ct ts) ∧ Below w.heap.size w w' := by
 have hh := Hp.start w
 have hln := hS.cx TR.len (by decide)
 by_cases h1 : 10 < n
 ·refine aj (N := 45) (l := [.agg #[.int .i64 v, .slice A n c]]) Tryz.func15 rfl rfl (by simp) ?_
  refine sr ?_
  refine cz hh [_,_] ?_
  intro b1 w1 hh
  refine aB (ae (ah (sr (bB ?_))))
  refine bE hh 0 ?_
  refine a0 ?_
  refine ck (ae (cT (sr (aB (ae (al (aD ?_)))))))
  refine cn ?_
  exact ⟨_, rfl, fun h => (nomatch h), hh.below⟩
 ·refine aj (N := 45) (l := [.agg #[.int .i64 v, .slice A n c]]) Tryz.func15 rfl rfl (by simp) ?_
  refine sr ?_
  refine cz hh [_,_] ?_
  intro b1 w1 hh
  refine aB (ae (ah (sr (bB ?_))))
  refine bE hh 0 ?_
  refine a0 ?_
  refine ck (ae (cF (ak (ai (ah (sr (aI (ae (ao ?_)))))))))
  refine bs [2, 3, 4, 5, 10, 11, 12, 13, 14, 15, 16, 17, 18, 19, 20, 21, 22, 23, 24, 25, 26, 27, 28, 29, 30, 31, 32, 33, 34, 35, 36, 37, 38, 39, 40, 41, 42, 43, 44] 3
   (fun x w' => ∃ i : Nat, i ≤ n ∧ x = .int .i64 i ∧ fT 124 (ts.take i) ∧ (∀ t ∈ ts.take i, t.m.size ≤ 20 ∧ ∀ c ∈ t.m.data.toList, c.toNat ≤ 6) ∧ Hp w [.blk b1 24 [.int .i64 v, .slice A n c] (0, 0)] w')
   (fun v _ => n - (intOf v).toNat) ?_ ?_
  ·exact ⟨0, Nat.zero_le _, rfl, fun t ht => (nomatch ht), fun t ht => (nomatch ht), hh⟩
  ·clear hh
   rintro ρ' x_ w' ⟨i, hi, rfl, hall, hsz, hh⟩
   by_cases hlt : i < n
   ·obtain ⟨x, hx⟩ := aE (l := ts) (k := i) (by omega)
    obtain ⟨ad, rfl, hr⟩ := hS.at_ (by omega)
    have hfa := fun w1 => k6 x.c w1
    have hbm := bZ x.m
    refine ah (sr (mI (bB ?_)))
    refine bE hh 0 ?_
    refine a0 ?_
    refine aW (ae (cT (ak (ai (ah (ao (sr (bB ?_))))))))
    refine bE hh 0 ?_
    refine mI ?_
    refine aQ (k := i) aF.out aA.size rfl rfl (by omega) (by omega) (by decide) ?_
    refine bI dE.out rfl (by decide) ?_
    refine bj aA.out rfl (((hr.ext hh.below).recAt TR.len hx).cell (i := 0) rfl) (by decide) ?_
    refine aS (ae (ah (sr (bB ?_))))
    refine bE hh 0 ?_
    refine mI ?_
    refine aQ (k := i) aF.out aA.size rfl rfl (by omega) (by omega) (by decide) ?_
    refine bI dE.out rfl (by decide) ?_
    refine bR (vs := [_, _, _]) aA.out rfl (((hr.ext hh.below).recAt TR.len hx).drop 1) rfl (by decide) ?_
    refine bA hh (hfa _) rfl ?_
    intro w29 hh
    cases hf : rh x.c with
    | true =>
     refine mB ?_
     first | refine gS ?_ | (refine gT ?_; refine mS ?_) | refine gV ?_
     first | refine gS ?_ | (refine gT ?_; refine bp aF.out rfl (by decide) ?_) | refine gV ?_
     first | refine gS ?_ | (refine gT ?_; refine ck ?_) | refine gV ?_
     first | refine cS ?_ | refine cU ?_
     refine ae (cT (sr (aB (ae (al (aD (bP (aD (aD (bP (aD ?_)))))))))))
     refine cn ?_
     exact ⟨_, rfl, fun h => (nomatch h), hh.below⟩
    | false =>
     by_cases h5 : 20 < x.m.size
     ·refine mB ?_
      first | refine gS ?_ | (refine gT ?_; refine mS ?_) | refine gV ?_
      first | refine gS ?_ | (refine gT ?_; refine bp aF.out rfl (by decide) ?_) | refine gV ?_
      first | refine gS ?_ | (refine gT ?_; refine ck ?_) | refine gV ?_
      first | refine cS ?_ | refine cU ?_
      refine ae (cT (sr (aB (ae (al (aD (bP (aD (aD (bP (aD ?_)))))))))))
      refine cn ?_
      exact ⟨_, rfl, fun h => (nomatch h), hh.below⟩
     ·refine mB ?_
      first | refine gS ?_ | (refine gT ?_; refine mS ?_) | refine gV ?_
      first | refine gS ?_ | (refine gT ?_; refine bp aF.out rfl (by decide) ?_) | refine gV ?_
      first | refine gS ?_ | (refine gT ?_; refine ck ?_) | refine gV ?_
      first | refine cS ?_ | refine cU ?_
      refine ae (cF (ak (ai (sr (aI (ae (ao ?_)))))))
      refine bs [2, 5, 35, 36, 37, 38, 39, 40, 41, 42, 43, 44] 5
       (fun y w' => ∃ q : Nat, q ≤ x.m.size ∧ y = .int .i64 q ∧ (∀ c ∈ x.m.data.toList.take q, c.toNat ≤ 6) ∧ Hp w [.blk b1 24 [.int .i64 v, .slice (some ad) n c] (0, 0)] w')
       (fun v _ => x.m.size - (intOf v).toNat) ?_ ?_
      ·exact ⟨0, Nat.zero_le _, rfl, fun t ht => (nomatch ht), hh⟩
      ·clear hh
       rintro ρ' y_ w' ⟨q, hq, rfl, hex, hh⟩
       by_cases hlq : q < x.m.size
       ·obtain ⟨e, he⟩ := aE (l := x.m.data.toList) (k := q) (by omega)
        by_cases h6 : 6 < e.toNat
        ·refine ah (sr (mI (mS ?_)))
         refine bp aF.out rfl (by decide) ?_
         refine aW (ae (cT (ak (ai (ah (ao (sr (mS (mI ?_)))))))))
         refine bo aF.out rfl rfl (by omega) (by assumption) (by decide) ?_
         refine ck (ae (cT (sr (aB (ae (al (bP (aD (aD (bP (bP ?_)))))))))))
         refine aD (aD (bP (aD ?_)))
         refine cn ?_
         exact ⟨_, rfl, fun h => (nomatch h), hh.below⟩
        ·refine ah (sr (mI (mS ?_)))
         refine bp aF.out rfl (by decide) ?_
         refine aW (ae (cT (ak (ai (ah (ao (sr (mS (mI ?_)))))))))
         refine bo aF.out rfl rfl (by omega) (by assumption) (by decide) ?_
         refine ck (ae (cF (ak (aT (ai (aq (mI ?_)))))))
         refine bL (aI (aC (ai ?_)))
         refine ⟨⟨q + 1, by omega, rfl, fun t ht => ?_, hh⟩, by show x.m.size - (q + 1) < x.m.size - q; omega, ?_⟩
         ·rw [aN he] at ht
          rcases List.mem_append.1 ht with ht | ht
          ·exact hex t ht
          ·rw [List.mem_singleton.1 ht]; omega
         ·(repeat (first | exact aw _ _ _ | refine ax rfl ?_ | refine au rfl ?_))
       ·rw [List.take_of_length_le (by omega)] at hex
        refine ah (sr (mI (mS ?_)))
        refine bp aF.out rfl (by decide) ?_
        refine aW (ae (cF ?_))
        refine aO ?_
        refine ay (ay (a8 (aT (ai (aq (mI ?_))))))
        refine bL (aI (aC (ai ?_)))
        refine ⟨⟨i + 1, by omega, rfl, fun t ht => ?_, fun t ht => ?_, hh⟩, by show n - (i + 1) < n - i; omega, ?_⟩
        ·rw [aN hx] at ht
         rcases List.mem_append.1 ht with ht | ht
         ·exact hall t ht
         ·rw [List.mem_singleton.1 ht]; exact Bx hf
        ·rw [aN hx] at ht
         rcases List.mem_append.1 ht with ht | ht
         ·exact hsz t ht
         ·rw [List.mem_singleton.1 ht]; exact ⟨by omega, hex⟩
        ·(repeat (first | exact aw _ _ _ | refine ax rfl ?_ | refine au rfl ?_))
   ·rw [List.take_of_length_le (by omega)] at hall hsz
    refine ah (sr (mI (bB ?_)))
    refine bE hh 0 ?_
    refine a0 ?_
    refine aW (ae (cF ?_))
    refine aO ?_
    refine ay (ay (a8 (ai (sr (aB (ae (al ?_)))))))
    refine cn ?_
    exact ⟨_, rfl, fun _ => ⟨by omega, hall, fun t ht => (hsz t ht).1, fun t ht => (hsz t ht).2⟩, hh.below⟩
theorem sL (A : Option Addr) (n c : Nat) (xs : List NR) (w : World) (hS : Sl w A n 3 (aP NR.cells xs)) :
  Calls Tryz.prog 16 #[.slice A n c] w fun r w' => ∃ b : Bool, r = .returned (.bool b) ∧ (b = false → n ≤ 20 ∧ ∀ x ∈ xs, x.ok ∧ Sz 124 x.d) ∧ Below w.heap.size w w' := by
 have hh := Hp.start w
 have hln := hS.cx NR.len (by decide)
 by_cases h1 : 20 < n
 ·refine aj (N := 18) (l := [.slice A n c]) Tryz.func16 rfl rfl (by simp) ?_
  refine sr (aB (ae (ah (sr (mL (a0 ?_))))))
  refine ck (ae (cT (sr (aB (ae (al (aD ?_)))))))
  refine cn ?_
  exact ⟨_, rfl, fun h => (nomatch h), hh.below⟩
 ·refine aj (N := 18) (l := [.slice A n c]) Tryz.func16 rfl rfl (by simp) ?_
  refine sr (aB (ae (ah (sr (mL (a0 ?_))))))
  refine ck (ae (cF (ak (ai (ah (sr (aI (ae (ao ?_)))))))))
  refine bs [2, 3, 7, 8, 9, 10, 11, 12, 13, 14, 15, 16, 17] 3
   (fun v w' => ∃ i : Nat, i ≤ n ∧ v = .int .i64 i ∧ (∀ x ∈ xs.take i, x.ok ∧ Sz 124 x.d) ∧ Hp w [] w')
   (fun v _ => n - (intOf v).toNat) ?_ ?_
  ·exact ⟨0, Nat.zero_le _, rfl, fun t ht => (nomatch ht), hh⟩
  ·clear hh
   rintro ρ' v w' ⟨i, hi, rfl, hall, hh⟩
   by_cases hlt : i < n
   ·obtain ⟨x, hx⟩ := aE (l := xs) (k := i) (by omega)
    obtain ⟨ad, rfl, hr⟩ := hS.at_ (by omega)
    have hfa := fun w1 => k6 x w1
    refine ah (sr (mI (mL (a0 ?_))))
    refine aW (ae (cT (ak (ai (ah (ao (sr (mL (mI ?_)))))))))
    refine aQ (k := i) aF.out aA.size rfl rfl (by omega) (by omega) (by decide) ?_
    refine bR (vs := [_, _, _]) aA.out rfl ((hr.ext hh.below).recAt NR.len hx) rfl (by decide) ?_
    refine bA hh (hfa _) rfl ?_
    intro w17 hh
    cases hf : rh x with
    | true =>
     refine ae (cT (sr (aB (ae (al (bP (aD (aD (bP (aD ?_))))))))))
     refine cn ?_
     exact ⟨_, rfl, fun h => (nomatch h), hh.below⟩
    | false =>
     refine ae (cF (ak (aT (ai (aq (mI ?_))))))
     refine bL (aI (aC (ai ?_)))
     refine ⟨⟨i + 1, by omega, rfl, fun t ht => ?_, hh⟩, by show n - (i + 1) < n - i; omega, ?_⟩
     ·rw [aN hx] at ht
      rcases List.mem_append.1 ht with ht | ht
      ·exact hall t ht
      ·rw [List.mem_singleton.1 ht]; exact Bx hf
     ·(repeat (first | exact aw _ _ _ | refine ax rfl ?_ | refine au rfl ?_))
   ·rw [List.take_of_length_le (by omega)] at hall
    refine ah (sr (mI (mL (a0 ?_))))
    refine aW (ae (cF ?_))
    refine aO ?_
    refine ay (ay (a8 (ai (sr (aB (ae (al ?_)))))))
    refine cn ?_
    exact ⟨_, rfl, fun _ => ⟨by omega, hall⟩, hh.below⟩
theorem ca (n : Int) (w : World) (h1 : -9223372036854775808 ≤ n) (h2 : n ≤ 9223372036854775807) :
  Calls Tryz.prog 84 #[.int .i64 n] w fun r w' => r = .returned (.agg #[.bool (nR (n : Dyadic)).neg, .string (nR (n : Dyadic)).bu, .int .i64 (nR (n : Dyadic)).e]) ∧ Below w.heap.size w w' := by
 have hh := Hp.start w
 refine aj (N := 5) (l := [.int .i64 n]) Tryz.func84 rfl rfl (by simp) ?_
 refine sr ?_
 refine cj hh ?_
 intro b2 w2 hh
 refine ae (sr (mI ?_))
 refine bA hh (mC n _ h1 h2) rfl ?_
 intro w4 hh
 refine bD hh 0 [_,_,_] ?_
 intro ws hh
 replace hh : Hp _ (.blk _ _ [_, _, _] _ :: _) _ := hh
 refine ae (al ?_)
 refine gr (aH rfl (aG (vs := [_, _, _]) aA.out (hh.av (i := 0) (n := 3) rfl rfl) rfl) a9) ?_
 exact ⟨rfl, hh.below⟩
theorem eE (v : Int) (A : Option Addr) (n c : Nat) (w : World) :
  Calls Tryz.prog 83 #[.int .i64 v, .slice A n c] w fun r w' => r = .returned (.agg #[.int .i64 v, .slice A n c]) ∧ Below w.heap.size w w' := by
 have hh := Hp.start w
 refine aj (N := 8) (l := [.int .i64 v, .slice A n c]) Tryz.func83 rfl rfl (by simp) ?_
 refine sr ?_
 refine cj hh ?_
 intro b4 w4 hh
 refine ae (sr (mI (mL ?_)))
 refine eH [_,_] ?_
 refine bD hh 0 [_,_] ?_
 intro ws hh
 replace hh : Hp _ (.blk _ _ [_, _] _ :: _) _ := hh
 refine ae (al ?_)
 refine gr (aH rfl (aG (vs := [_, _]) aA.out (hh.av (i := 0) (n := 2) rfl rfl) rfl) a9) ?_
 exact ⟨rfl, hh.below⟩
end Go.Proofs.YtaapkaefelhfcaaGreatDoor
/- Powers of a number, kept in a row: the walk through (*calc.powers).at; cells behind a pointer. -/
namespace Go.Proofs.YtaapkaefelhfcaaGreatDoor
open Go.RowKit
structure ud (E : Value → HE) (g o : Nat) : Prop where
 ld : ∀ {w0 w : World} {Hr : List HE} {v : Value}, Hp w0 (E v :: Hr) w → w.cell? ⟨g, o, none⟩ = some v
 st : ∀ {ro : Mode} {P : Program} {N : Nat} {ops : Array Oper} {Q : Kq} {ρ : Rf} {w w0 : World} {rest : List Oper} {Hr : List HE} {ty : TypeId} {pos : String} {af : Array Edge} {t : TypeId} {x y : Operand} {by' : Nat} {ag : Bool} {zc : List Value} {v v' : Value},
  Hp w0 (E v :: Hr) w → ev ρ x = .pointer (some ⟨g, o, none⟩) → ev ρ y = v' → v'.cells = #[v'] → cR P t = some (1, ag, by', zc) → v'.oneCell' = true →
  (∀ w', Hp w0 (E v' :: Hr) w' → WL ro P N ops Q rest ρ w') → WL ro P N ops Q (⟨none, .store t x y, ty, pos, af, none⟩ :: rest) ρ w
theorem dh {b : Nat} {t : TypeId} : ud (fun v => .blk b t [v] (0, 0)) b 0 :=
 ⟨fun hh => hh.dh (i := 0) rfl rfl, fun hh hx hy hc ht h1 k => lS hh (i := 0) (vs := [_]) hx rfl hy hc ht rfl (Nat.le_refl _) (by simp [h1]) k⟩
theorem cC {g m c i : Nat} {t : TypeId} {xs : List Value} (hi : i < xs.length) : ud (fun v => .row (some ⟨g, 0, none⟩) m c t 1 (xs.set i v)) g (i * 1) := by
 refine ⟨fun {w0 w Hr v} hh => ?_, fun {ro P N ops Q ρ w w0 rest Hr ty pos af t' x y by' ag zc v v'} hh hx hy hc ht h1 k => ?_⟩
 ·exact hh.cC (i := 0) (o := i * 1) rfl (by rw [Nat.mul_one]; exact List.getElem?_set_self hi)
 ·refine bJ hh (i := 0) (vs := [v']) hx rfl hy hc ht rfl (by rw [List.length_set]; omega) (by simp [h1]) fun w' hh' => k w' ?_
  have e : cq (xs.set i v) (i * 1) [v'] = xs.set i v' := by
   rw [Nat.mul_one, cm (by rw [List.length_set]; exact hi), List.set_set]
  rw [e] at hh'
  exact hh'
def u4 (w : World) (a : Addr) : Nat := match w.cell? a with | some v => lenOf v | none => 0
def l6 (x : Dyadic) (m : Nat) : List NR := (List.range m).map fun i => nR (x ^ i)
theorem rb {x : Dyadic} {m i : Nat} (h : i < m) : (l6 x m)[i]? = some (nR (x ^ i)) := by
 unfold l6
 rw [List.getElem?_map, List.getElem?_range h]
 rfl
theorem nE (x : Dyadic) (m : Nat) : l6 x (m + 1) = l6 x m ++ [nR (x ^ m)] := by unfold l6; rw [List.range_succ, List.map_append]; rfl
theorem o5 {w0 : World} {Hr : List HE} {E : Value → HE} {g o : Nat} (hE : ud E g o) (x : NR) (n m : Nat) (A : Option Addr) (c k : Nat) (w : World) (hT : gW w0) (hh : Hp w0 (E (.slice A m c) :: .row A m c 29 3 (aP NR.cells (l6 x.d m)) :: Hr) w) (hn : n ≤ 127) (hm : m ≤ 1000) (hx : x.ok ∧ Sz k x.d) (hk : k ≤ 1000) :
  Calls Tryz.prog 86 #[.pointer (some ⟨g, o, none⟩), .agg #[.bool x.neg, .string x.bu, .int .i64 x.e], .int .i64 n] w fun r w' => r = .returned (.agg #[.bool (nR (x.d ^ n)).neg, .string (nR (x.d ^ n)).bu, .int .i64 (nR (x.d ^ n)).e]) ∧ ∃ (A' : Option Addr) (m' c' : Nat), m' ≤ 1000 ∧ Hp w0 (E (.slice A' m' c') :: .row A' m' c' 29 3 (aP NR.cells (l6 x.d m')) :: Hr) w' := by
 refine aj (N := 61) (l := [.pointer (some ⟨g, o, none⟩), .agg #[.bool x.neg, .string x.bu, .int .i64 x.e], .int .i64 n]) Tryz.func86 rfl rfl (by simp) ?_
 refine sr ?_
 refine cz hh [_,_,_] ?_
 intro b4 w4 hh
 refine cj hh ?_
 intro b6 w6 hh
 refine ae (ah (sr (mP ?_)))
 refine eX rfl (by decide) ?_
 refine bI dE.out rfl (by decide) ?_
 refine bj aA.out rfl (hE.ld (hh.sub (.cons _ (.cons _ (List.Sublist.refl _))))) (by decide) ?_
 have hpow : ∀ q, q ≤ 127 → Sz 128000 (x.d ^ q) := fun q hq => by
  have h1 := hx.2.pow q
  exact h1.mono (by have := Nat.mul_le_mul hk hq; omega)
 by_cases h0 : m = 0
 ·subst h0
  refine a0 ?_
  refine cu (ae (cT ?_))
  refine cg [] [0] [0, 0, 2, 6, 14, 0, 32, 126, 255, 511, 1023] 7 [[(0, none)], [(0, none)], [(14, some 1)], [(15, some 2)], [(16, some 3)], [], [(18, some 5)]] [(6, 19), (5, 18), (4, 17), (3, 16), (2, 15), (1, 14), (0, 13)] hh mixed (by kernel_rfl) cA rfl (by repeat (first | exact bW | refine bC ?_ | refine bV ?_)) ?_
  refine yT ?_
  refine yT ?_
  refine Bc ?_
  refine lT ?_
  refine jq (fun _ hj => hE.ld (hj.hp.sub (.cons _ (.cons _ (List.Sublist.refl _))))) ?_
  refine dC (fun _ hj => mH 1 _ (hT.hp hj.hp) (by decide) (by decide)) ?_
  refine px [_,_,_] ?_
  refine a6 ?_
  intro f W hJ hV _
  have hb_2 := hJ.bl
  obtain ⟨v19, v18, v17, v16, v15, v14, v13, _⟩ := hV
  obtain ⟨A19, c19, e19, f19⟩ : Rows _ _ _ (f 6) W := v19
  replace hh := hJ.hp
  refine aK (a4 (aa e19 (aa v18 (aa v17 (aa v16 (aa v15 (aa v14 (aa v13 aM)))))))) ?_
  dsimp only [bX]
  clear e19 hJ
  refine bG hh (i := 3) rfl rfl rfl (f19) aF.out aA.out rfl (by decide) (by first | rfl | exact bQ _ | exact bF _ | exact oneCells_i64s _ | exact bf NR.one _) (by omega) (by omega) (by decide) ?_
  intro A20 c20 w20 hh
  simp only [List.set_cons_zero, List.set_cons_succ] at hh
  refine eX rfl (by decide) ?_
  refine bI dE.out rfl (by decide) ?_
  replace hh := hh.perm (List.perm_middle (l₁ := [_, _]))
  simp only [List.cons_append, List.nil_append] at hh
  refine hE.st (v' := .slice A20 (0 + 1) c20) hh rfl rfl rfl aA.out rfl ?_
  intro ws hh
  replace hh := hh.perm (List.perm_middle (l₁ := [_, _]))
  simp only [List.cons_append, List.nil_append] at hh
  replace hh := hh.perm (List.perm_middle (l₁ := [_, _]))
  simp only [List.cons_append, List.nil_append] at hh
  refine ae (ah (ao ?_))
  have e0 : aP NR.cells (l6 x.d 0) ++ [.bool (nR ((1 : Int) : Dyadic)).neg, .string (nR ((1 : Int) : Dyadic)).bu, .int .i64 (nR ((1 : Int) : Dyadic)).e] = aP NR.cells (l6 x.d (0 + 1)) := by rw [nE, bS, gk, Dyadic.pow_zero]; rfl
  rw [e0] at hh
  refine n4 [23, 24, 25, 26, 27, 28, 29, 30, 31, 32, 33, 34, 35, 36, 37, 38, 39, 40, 41, 42, 43, 44, 45, 46, 47, 48, 49, 50, 51, 52, 53]
   (fun w' => ∃ (m : Nat) (A : Option Addr) (c : Nat), 0 < m ∧ m ≤ 1000 ∧ Hp w0 (.blk b6 29 [.bool false, .string (ByteArray.mk #[]), .int .i64 0] (0, 0) :: .blk b4 29 [.bool x.neg, .string x.bu, .int .i64 x.e] (0, 0) :: E (.slice A m c) :: .row A m c 29 3 (aP NR.cells (l6 x.d m)) :: Hr) w')
   (fun w' => n + 1 - u4 w' ⟨g, o, none⟩) ?_ ?_
  ·exact ⟨0 + 1, _, _, by decide, by decide, hh⟩
  ·clear hh
   rintro ρ' w' ⟨m, A, c, hm0, hm1, hh⟩
   have hcell := hE.ld (hh.sub (.cons _ (.cons _ (List.Sublist.refl _))))
   obtain ⟨q, rfl⟩ : ∃ q, m = q + 1 := ⟨m - 1, by omega⟩
   refine ah (sr (mP ?_))
   refine eX rfl (by decide) ?_
   refine bI dE.out rfl (by decide) ?_
   refine bj aA.out rfl (hcell) (by decide) ?_
   by_cases hmn : q + 1 ≤ n
   ·have hdm := fun A cc w1 hT1 hS1 => gC A 2 cc [nR (x.d ^ q), x] w1 hT1 hS1 (by simpa using ⟨(hpow q (by omega)).ok (by decide), hx.1⟩) 128000 (by simpa [dy] using ⟨hpow q (by omega), hx.2.mono (by omega)⟩) (by decide) (by decide)
    rw [show gU ([nR (x.d ^ q), x].map NR.d) = x.d ^ (q + 1) by show 1 * (nR (x.d ^ q)).d * x.d = _; rw [dy, Dyadic.one_mul, Dyadic.pow_succ]] at hdm
    have hq0 := rb (x := x.d) (show q < q + 1 by omega)
    obtain ⟨gq, rfl⟩ := hh.eM (i := 3) rfl (by omega)
    refine a0 (mI ?_)
    refine tQ (ae (cT (ak (ai (ao ?_)))))
    refine cg [] [0] [0, 0, 2, 6, 14, 0, 32, 96, 224, 0, 512, 1536, 3584, 7680, 15872, 32736, 65504, 0, 262112, 524256, 1048544, 2097150, 4194303, 8388607, 16777215] 21 [[(0, none)], [(0, none)], [(31, some 1)], [(32, some 2)], [(33, some 3)], [(0, none)], [(35, some 5)], [(36, some 6)], [(37, some 7)], [(0, none)], [(39, some 9)], [(40, some 10)], [(41, some 11)], [(42, some 12)], [(43, some 13)], [(38, some 8), (44, some 14)], [(45, some 15)], [(4, none)], [(46, some 16), (47, some 17)], [(48, some 18)], [(49, some 19)]] [(20, 50), (19, 49), (18, 48), (17, 47), (16, 46), (15, 45), (14, 44), (13, 43), (12, 42), (11, 41), (10, 40), (9, 39), (8, 38), (7, 37), (6, 36), (5, 35), (4, 34), (3, 33), (2, 32), (1, 31), (0, 30)] hh mixed (by kernel_rfl) cA rfl (by repeat (first | exact bW | refine bC ?_ | refine bV ?_)) ?_
    refine yT ?_
    refine yT ?_
    refine Bc ?_
    refine lT ?_
    refine jq (fun _ hj => hE.ld (hj.hp.sub (.cons _ (.cons _ (List.Sublist.refl _))))) ?_
    refine yT ?_
    refine Bc ?_
    refine lT ?_
    refine jq (fun _ hj => hE.ld (hj.hp.sub (.cons _ (.cons _ (List.Sublist.refl _))))) ?_
    refine yT ?_
    refine Bc ?_
    refine lT ?_
    refine jq (fun _ hj => hE.ld (hj.hp.sub (.cons _ (.cons _ (List.Sublist.refl _))))) ?_
    refine qM ?_
    refine jS ?_
    refine AB (q) ?_
    refine qQ [_,_,_] (fun _ hj => hj.hp.iX (f := NR.cells) (x := nR (x.d ^ q)) (l := l6 x.d (q + 1)) (i := 3) rfl NR.len (by decide) hq0) ?_
    refine dZ 1 [_,_,_] ?_
    refine px [_,_,_,_,_,_] ?_
    refine bk (i := 19) (Is (.agg #[.bool (nR (x.d ^ (q + 1))).neg, .string (nR (x.d ^ (q + 1))).bu, .int .i64 (nR (x.d ^ (q + 1))).e])) Is.ext ?_ ?_
    ·intro ρ1 w1 hj hR
     obtain ⟨A48, c48, h48, s48⟩ := hR.1
     exact bU rfl (a3 ar.out (az h48 a7)) (hdm A48 c48 _ (hT.hp hj.hp) s48) (fun _ _ hq => ⟨_, hq.1, hq.2, rfl⟩)
    refine px [_,_,_] ?_
    refine a6 ?_
    intro f W hJ hV _
    have hb_4 := hJ.bl
    obtain ⟨v50, v49, v48, v47, v46, v45, v44, v43, v42, v41, v40, v39, v38, v37, v36, v35, v34, v33, v32, v31, v30, _⟩ := hV
    obtain ⟨A48, c48, e48, f48⟩ : Rows _ _ _ (f 18) W := v48
    obtain ⟨A50, c50, e50, f50⟩ : Rows _ _ _ (f 20) W := v50
    replace hh := hJ.hp
    refine aK (a4 (aa e50 (aa v49 (aa e48 (aa v47 (aa v46 (aa v45 (aa v44 (aa v43 (aa v42 (aa v41 (aa v40 (aa v39 (aa v38 (aa v37 (aa v36 (aa v35 (aa v34 (aa v33 (aa v32 (aa v31 (aa v30 aM)))))))))))))))))))))) ?_
    dsimp only [bX]
    clear e48 e50 hJ
    refine bG hh (i := 3) rfl rfl rfl (f50) aF.out aA.out rfl (by decide) (by first | rfl | exact bQ _ | exact bF _ | exact oneCells_i64s _ | exact bf NR.one _) (by omega) (by omega) (by decide) ?_
    intro A51 c51 w51 hh
    simp only [List.set_cons_zero, List.set_cons_succ] at hh
    refine eX rfl (by decide) ?_
    refine bI dE.out rfl (by decide) ?_
    replace hh := hh.perm (List.perm_middle (l₁ := [_, _]))
    simp only [List.cons_append, List.nil_append] at hh
    refine hE.st (v' := .slice A51 (q + 1 + 1) c51) hh rfl rfl rfl aA.out rfl ?_
    intro ws hh
    replace hh := hh.perm (List.perm_middle (l₁ := [_, _]))
    simp only [List.cons_append, List.nil_append] at hh
    replace hh := hh.perm (List.perm_middle (l₁ := [_, _]))
    simp only [List.cons_append, List.nil_append] at hh
    refine aC (aT (ai ?_))
    have e1 : aP NR.cells (l6 x.d (q + 1)) ++ [.bool (nR (x.d ^ (q + 1))).neg, .string (nR (x.d ^ (q + 1))).bu, .int .i64 (nR (x.d ^ (q + 1))).e] = aP NR.cells (l6 x.d (q + 1 + 1)) := by rw [show l6 x.d (q + 1 + 1) = l6 x.d (q + 1) ++ [nR (x.d ^ (q + 1))] from nE _ _, bS, gk]; rfl
    rw [e1] at hh
    have hcell2 := hE.ld (hh.sub (.cons _ (.cons _ (List.Sublist.refl _))))
    refine ⟨⟨q + 1 + 1, _, _, by omega, by omega, hh⟩, ?_, ?_⟩
    ·unfold u4
     rw [hcell, hcell2]
     show n + 1 - (q + 1 + 1) < n + 1 - (q + 1)
     omega
    ·(repeat (first | exact aw _ _ _ | refine ax rfl ?_ | refine au rfl ?_))
   ·have hn0 := rb (x := x.d) (m := q + 1) (i := n) (by omega)
    obtain ⟨gq, rfl⟩ := hh.eM (i := 3) rfl (by omega)
    refine a0 (mI ?_)
    refine tQ (ae (cF ?_))
    refine aO ?_
    refine ay (ay (a8 (ai (sr (mP ?_)))))
    refine eX rfl (by decide) ?_
    refine bI dE.out rfl (by decide) ?_
    refine bj aA.out rfl (hE.ld (hh.sub (.cons _ (.cons _ (List.Sublist.refl _))))) (by decide) ?_
    refine mI ?_
    refine bg (k := n) aF.out aA.size rfl rfl (by omega) (by omega) (by decide) ?_
    refine bR (vs := [_, _, _]) aA.out rfl (hh.iX (f := NR.cells) (x := nR (x.d ^ n)) (l := l6 x.d (q + 1)) (i := 3) rfl NR.len (by decide) hn0) rfl (by decide) ?_
    refine bD hh 0 [_,_,_] ?_
    intro ws hh
    replace hh : Hp _ (.blk _ _ [_, _, _] _ :: _) _ := hh
    refine ae (al ?_)
    refine gr (aH rfl (aG (vs := [_, _, _]) aA.out (hh.av (i := 0) (n := 3) rfl rfl) rfl) a9) ?_
    exact ⟨rfl, _, _, _, hm1, hh.sub (.cons _ (.cons _ (List.Sublist.refl _)))⟩
 ·refine a0 ?_
  refine cu (ae (cF (ak (ai (ah (ao ?_))))))
  refine n4 [23, 24, 25, 26, 27, 28, 29, 30, 31, 32, 33, 34, 35, 36, 37, 38, 39, 40, 41, 42, 43, 44, 45, 46, 47, 48, 49, 50, 51, 52, 53]
   (fun w' => ∃ (m : Nat) (A : Option Addr) (c : Nat), 0 < m ∧ m ≤ 1000 ∧ Hp w0 (.blk b6 29 [.bool false, .string (ByteArray.mk #[]), .int .i64 0] (0, 0) :: .blk b4 29 [.bool x.neg, .string x.bu, .int .i64 x.e] (0, 0) :: E (.slice A m c) :: .row A m c 29 3 (aP NR.cells (l6 x.d m)) :: Hr) w')
   (fun w' => n + 1 - u4 w' ⟨g, o, none⟩) ?_ ?_
  ·exact ⟨m, A, c, by omega, hm, hh⟩
  ·clear hh
   rintro ρ' w' ⟨m, A, c, hm0, hm1, hh⟩
   have hcell := hE.ld (hh.sub (.cons _ (.cons _ (List.Sublist.refl _))))
   obtain ⟨q, rfl⟩ : ∃ q, m = q + 1 := ⟨m - 1, by omega⟩
   refine ah (sr (mP ?_))
   refine eX rfl (by decide) ?_
   refine bI dE.out rfl (by decide) ?_
   refine bj aA.out rfl (hcell) (by decide) ?_
   by_cases hmn : q + 1 ≤ n
   ·have hdm := fun A cc w1 hT1 hS1 => gC A 2 cc [nR (x.d ^ q), x] w1 hT1 hS1 (by simpa using ⟨(hpow q (by omega)).ok (by decide), hx.1⟩) 128000 (by simpa [dy] using ⟨hpow q (by omega), hx.2.mono (by omega)⟩) (by decide) (by decide)
    rw [show gU ([nR (x.d ^ q), x].map NR.d) = x.d ^ (q + 1) by show 1 * (nR (x.d ^ q)).d * x.d = _; rw [dy, Dyadic.one_mul, Dyadic.pow_succ]] at hdm
    have hq0 := rb (x := x.d) (show q < q + 1 by omega)
    obtain ⟨gq, rfl⟩ := hh.eM (i := 3) rfl (by omega)
    refine a0 (mI ?_)
    refine tQ (ae (cT (ak (ai (ao ?_)))))
    refine cg [] [0] [0, 0, 2, 6, 14, 0, 32, 96, 224, 0, 512, 1536, 3584, 7680, 15872, 32736, 65504, 0, 262112, 524256, 1048544, 2097150, 4194303, 8388607, 16777215] 21 [[(0, none)], [(0, none)], [(31, some 1)], [(32, some 2)], [(33, some 3)], [(0, none)], [(35, some 5)], [(36, some 6)], [(37, some 7)], [(0, none)], [(39, some 9)], [(40, some 10)], [(41, some 11)], [(42, some 12)], [(43, some 13)], [(38, some 8), (44, some 14)], [(45, some 15)], [(4, none)], [(46, some 16), (47, some 17)], [(48, some 18)], [(49, some 19)]] [(20, 50), (19, 49), (18, 48), (17, 47), (16, 46), (15, 45), (14, 44), (13, 43), (12, 42), (11, 41), (10, 40), (9, 39), (8, 38), (7, 37), (6, 36), (5, 35), (4, 34), (3, 33), (2, 32), (1, 31), (0, 30)] hh mixed (by kernel_rfl) cA rfl (by repeat (first | exact bW | refine bC ?_ | refine bV ?_)) ?_
    refine yT ?_
    refine yT ?_
    refine Bc ?_
    refine lT ?_
    refine jq (fun _ hj => hE.ld (hj.hp.sub (.cons _ (.cons _ (List.Sublist.refl _))))) ?_
    refine yT ?_
    refine Bc ?_
    refine lT ?_
    refine jq (fun _ hj => hE.ld (hj.hp.sub (.cons _ (.cons _ (List.Sublist.refl _))))) ?_
    refine yT ?_
    refine Bc ?_
    refine lT ?_
    refine jq (fun _ hj => hE.ld (hj.hp.sub (.cons _ (.cons _ (List.Sublist.refl _))))) ?_
    refine qM ?_
    refine jS ?_
    refine AB (q) ?_
    refine qQ [_,_,_] (fun _ hj => hj.hp.iX (f := NR.cells) (x := nR (x.d ^ q)) (l := l6 x.d (q + 1)) (i := 3) rfl NR.len (by decide) hq0) ?_
    refine dZ 1 [_,_,_] ?_
    refine px [_,_,_,_,_,_] ?_
    refine bk (i := 19) (Is (.agg #[.bool (nR (x.d ^ (q + 1))).neg, .string (nR (x.d ^ (q + 1))).bu, .int .i64 (nR (x.d ^ (q + 1))).e])) Is.ext ?_ ?_
    ·intro ρ1 w1 hj hR
     obtain ⟨A48, c48, h48, s48⟩ := hR.1
     exact bU rfl (a3 ar.out (az h48 a7)) (hdm A48 c48 _ (hT.hp hj.hp) s48) (fun _ _ hq => ⟨_, hq.1, hq.2, rfl⟩)
    refine px [_,_,_] ?_
    refine a6 ?_
    intro f W hJ hV _
    have hb_4 := hJ.bl
    obtain ⟨v50, v49, v48, v47, v46, v45, v44, v43, v42, v41, v40, v39, v38, v37, v36, v35, v34, v33, v32, v31, v30, _⟩ := hV
    obtain ⟨A48, c48, e48, f48⟩ : Rows _ _ _ (f 18) W := v48
    obtain ⟨A50, c50, e50, f50⟩ : Rows _ _ _ (f 20) W := v50
    replace hh := hJ.hp
    refine aK (a4 (aa e50 (aa v49 (aa e48 (aa v47 (aa v46 (aa v45 (aa v44 (aa v43 (aa v42 (aa v41 (aa v40 (aa v39 (aa v38 (aa v37 (aa v36 (aa v35 (aa v34 (aa v33 (aa v32 (aa v31 (aa v30 aM)))))))))))))))))))))) ?_
    dsimp only [bX]
    clear e48 e50 hJ
    refine bG hh (i := 3) rfl rfl rfl (f50) aF.out aA.out rfl (by decide) (by first | rfl | exact bQ _ | exact bF _ | exact oneCells_i64s _ | exact bf NR.one _) (by omega) (by omega) (by decide) ?_
    intro A51 c51 w51 hh
    simp only [List.set_cons_zero, List.set_cons_succ] at hh
    refine eX rfl (by decide) ?_
    refine bI dE.out rfl (by decide) ?_
    replace hh := hh.perm (List.perm_middle (l₁ := [_, _]))
    simp only [List.cons_append, List.nil_append] at hh
    refine hE.st (v' := .slice A51 (q + 1 + 1) c51) hh rfl rfl rfl aA.out rfl ?_
    intro ws hh
    replace hh := hh.perm (List.perm_middle (l₁ := [_, _]))
    simp only [List.cons_append, List.nil_append] at hh
    replace hh := hh.perm (List.perm_middle (l₁ := [_, _]))
    simp only [List.cons_append, List.nil_append] at hh
    refine aC (aT (ai ?_))
    have e1 : aP NR.cells (l6 x.d (q + 1)) ++ [.bool (nR (x.d ^ (q + 1))).neg, .string (nR (x.d ^ (q + 1))).bu, .int .i64 (nR (x.d ^ (q + 1))).e] = aP NR.cells (l6 x.d (q + 1 + 1)) := by rw [show l6 x.d (q + 1 + 1) = l6 x.d (q + 1) ++ [nR (x.d ^ (q + 1))] from nE _ _, bS, gk]; rfl
    rw [e1] at hh
    have hcell2 := hE.ld (hh.sub (.cons _ (.cons _ (List.Sublist.refl _))))
    refine ⟨⟨q + 1 + 1, _, _, by omega, by omega, hh⟩, ?_, ?_⟩
    ·unfold u4
     rw [hcell, hcell2]
     show n + 1 - (q + 1 + 1) < n + 1 - (q + 1)
     omega
    ·(repeat (first | exact aw _ _ _ | refine ax rfl ?_ | refine au rfl ?_))
   ·have hn0 := rb (x := x.d) (m := q + 1) (i := n) (by omega)
    obtain ⟨gq, rfl⟩ := hh.eM (i := 3) rfl (by omega)
    refine a0 (mI ?_)
    refine tQ (ae (cF ?_))
    refine aO ?_
    refine ay (ay (a8 (ai (sr (mP ?_)))))
    refine eX rfl (by decide) ?_
    refine bI dE.out rfl (by decide) ?_
    refine bj aA.out rfl (hE.ld (hh.sub (.cons _ (.cons _ (List.Sublist.refl _))))) (by decide) ?_
    refine mI ?_
    refine bg (k := n) aF.out aA.size rfl rfl (by omega) (by omega) (by decide) ?_
    refine bR (vs := [_, _, _]) aA.out rfl (hh.iX (f := NR.cells) (x := nR (x.d ^ n)) (l := l6 x.d (q + 1)) (i := 3) rfl NR.len (by decide) hn0) rfl (by decide) ?_
    refine bD hh 0 [_,_,_] ?_
    intro ws hh
    replace hh : Hp _ (.blk _ _ [_, _, _] _ :: _) _ := hh
    refine ae (al ?_)
    refine gr (aH rfl (aG (vs := [_, _, _]) aA.out (hh.av (i := 0) (n := 3) rfl rfl) rfl) a9) ?_
    exact ⟨rfl, _, _, _, hm1, hh.sub (.cons _ (.cons _ (List.Sublist.refl _)))⟩
end Go.Proofs.YtaapkaefelhfcaaGreatDoor
/- A region whose order is left open, each operation with memory of its own: what an operation needs and what it leaves. Plain, no program in sight. -/
namespace Go.Proofs.YtaapkaefelhfcaaGreatDoor
open Go.RowKit
section
variable {P : Program} {N : Nat} {Q : Kq} {ρ : Rf} {w : World}
theorem xR {ops : Array Oper} {fuel : Nat} {L : Array Bool} (hne : Region.ready .any ops L ≠ [])
  (h : ∀ i ∈ Region.ready .any ops L, ∃ o d, ops[i]? = some o ∧ o.dst = some d ∧ d < N ∧ OG P ops o ρ w fun v w' => WA P N ops Q fuel (L.setIfInBounds i true) (cG ρ d v) w') : WA P N ops Q (fuel + 1) L ρ w := by
 refine ⟨fun a hf => wpAny_all rfl hne fun i hi => ?_⟩
 obtain ⟨o, d, ho, hd, hN, hg⟩ := h i hi
 unfold wpOp
 rw [ho]
 simp only []
 exact hg.out a (fun a w => wpAny P .any ops (lift N Q) fuel (L.setIfInBounds i true) a w) (lift N Q) hf.at_ fun v w' hk => by
  rw [hd]
  exact hk.out _ (hf.put hN v)
def waits (o : Oper) (j : Nat) : Bool := o.after.toList.any fun e => (e.on == j) && Region.binds .any e
abbrev Lv := Nat → Value → List HE → Prop
def Spec (P : Program) (l : List Oper) (w0 : World) (ρ : Rf) (dst : Nat → Nat) (m : Nat) (S : Lv) (pre : Nat → List HE) (rest : List HE) (i : Nat) : Prop :=
 ∃ o, l[i]? = some o ∧ ∀ (ρ1 : Rf) (w1 : World) (F : List HE) (R : Nat → List HE), (∀ s, (∀ j, j < m → dst j ≠ s) → ρ1 s = ρ s) → (∀ j, waits o j = true → S j (ρ1 (dst j)) (R j) ∧ ∀ x ∈ R j, x ∈ F) → (∀ x ∈ rest, x ∈ F) → Hp w0 (pre i ++ F) w1 →
  OG P l.toArray o ρ1 w1 fun v w2 => ∃ R', S i v R' ∧ Hp w0 (R' ++ F) w2
def AE : Nat → (Nat → Prop) → Prop
 | 0, _ => True
 | k + 1, p => AE k p ∧ p k
theorem xO : ∀ {k : Nat} {p : Nat → Prop}, (∀ i, i < k → p i) → AE k p
 | 0, _, _ => trivial
 | k + 1, _, h => ⟨xO fun i hi => h i (by omega), h k (by omega)⟩
theorem kO (n j : Nat) : (Array.replicate n false).getD j false = false := by
 rw [Array.getD_eq_getD_getElem?, Array.getElem?_replicate]
 split <;> rfl
theorem AE.get : ∀ {k : Nat} {p : Nat → Prop}, AE k p → ∀ i, i < k → p i
 | k + 1, p, h, i, hi => by
  by_cases e : i = k
  ·rw [e]; exact h.2
  ·exact AE.get h.1 i (by omega)
def AF (l : List Oper) (m N : Nat) (dst : Nat → Nat) : Bool :=
 decide (m ≤ l.length) && ((List.range m).all fun i => match l[i]? with | some o => (o.dst == some (dst i)) && decide (dst i < N) && (o.after.toList.all fun e => !Region.binds .any e || decide (e.on < i)) | none => false) &&
 decide ((List.range m).map dst).Nodup &&
 ((List.range (l.length - m)).all fun k => match l[m + k]? with | some o => (List.range m).all fun j => waits o j | none => false) &&
 ((List.range (l.length - m)).all fun k => Region.ready .any l.toArray (fF l.length (m + k)) == [m + k]) && (Region.ready .any l.toArray (fF l.length l.length) == [])
theorem qi {l : List Oper} {L : Array Bool} {i : Nat} : i ∈ Region.ready .any l.toArray L ↔ i < l.length ∧ L.getD i true = false ∧ ∃ o, l[i]? = some o ∧ ∀ e ∈ o.after, Region.binds .any e = true → L.getD e.on false = true := by
 unfold Region.ready
 rw [List.mem_filter, List.mem_range, show l.toArray.size = l.length by simp]
 constructor
 ·rintro ⟨h1, h2⟩
  have ho : l.toArray[i]? = some l[i] := by simp [h1]
  rw [ho] at h2
  simp only [Option.map_some, Option.getD_some, Bool.and_eq_true, Bool.not_eq_true'] at h2
  refine ⟨h1, h2.1, l[i], by simp, fun e he hb => ?_⟩
  have := Array.all_eq_true'.1 h2.2 e he
  simpa [hb] using this
 ·rintro ⟨h1, h2, o, ho, h3⟩
  refine ⟨h1, ?_⟩
  rw [show l.toArray[i]? = some o by simpa using ho]
  simp only [Option.map_some, Option.getD_some, Bool.and_eq_true, Bool.not_eq_true']
  refine ⟨h2, Array.all_eq_true'.2 fun e he => ?_⟩
  cases hb : Region.binds .any e with
  | false => simp
  | true => simpa [hb] using h3 e he hb
theorem rD {L : Array Bool} {m : Nat} (h : ¬ ∀ i, i < m → L.getD i false = true) : ∃ i, i < m ∧ L.getD i false = false ∧ ∀ j, j < i → L.getD j false = true := by
 induction m with
 | zero => exact absurd (fun i hi => by omega) h
 | succ m ih =>
  by_cases h1 : ∀ i, i < m → L.getD i false = true
  ·refine ⟨m, by omega, ?_, h1⟩
   cases hc : L.getD m false with
   | false => rfl
   | true =>
    refine absurd (fun i hi => ?_) h
    by_cases e : i = m
    ·rw [e]; exact hc
    ·exact h1 i (by omega)
  ·obtain ⟨i, h2, h3⟩ := ih h1
   exact ⟨i, by omega, h3⟩
theorem nT {R : Nat → List HE} {i m : Nat} (h : i < m) (rest : List HE) : ((List.range m).flatMap R ++ rest).Perm (R i ++ (((List.range m).filter (· != i)).flatMap R ++ rest)) := by
 have h1 : ∀ m, i < m → ((List.range m).flatMap R).Perm (R i ++ ((List.range m).filter (· != i)).flatMap R) := fun m => by
  induction m with
  | zero => intro h; omega
  | succ m ih =>
   intro h
   rw [List.range_succ, List.flatMap_append, List.filter_append, List.flatMap_append]
   by_cases e : i = m
   ·subst e
    have h2 : (List.range i).filter (· != i) = List.range i := List.filter_eq_self.2 fun j hj => by have := List.mem_range.1 hj; simp; omega
    rw [h2, show [i].filter (· != i) = [] by simp]
    simp only [List.flatMap_cons, List.flatMap_nil, List.append_nil]
    exact List.perm_append_comm
   ·rw [show [m].filter (· != i) = [m] by simp; omega, ← List.append_assoc]
    exact (ih (by omega)).append_right _
 rw [← List.append_assoc]
 exact (h1 m h).append_right _
theorem ti {ρ ρ' : Rf} {f : Nat → Value} {ds : List (Nat × Nat)} (h1 : ∀ p ∈ ds, ρ' p.2 = f p.1) (h2 : ∀ s, (∀ p ∈ ds, p.2 ≠ s) → ρ' s = ρ s) (hn : (ds.map (·.2)).Nodup) : ρ' = iB ρ f ds := funext fun s => by
 obtain ⟨h3, h4⟩ := eS (ρ := ρ) f ds s hn
 by_cases h : ∃ p ∈ ds, p.2 = s
 ·obtain ⟨p, hp, rfl⟩ := h
  rw [h3 p.1 hp]
  exact h1 p hp
 ·rw [h4 fun i hi => h ⟨(i, s), hi, rfl⟩]
  exact h2 s fun p hp e => h ⟨p, hp, e⟩
theorem OG.imp {ops : Array Oper} {o : Oper} {K K' : Value → World → Prop} (h : OG P ops o ρ w K) (hk : ∀ v w', K v w' → K' v w') : OG P ops o ρ w K' := ⟨fun a next Q ha hn => h.out a next Q ha fun v w' hv => hn v w' (hk v w' hv)⟩
theorem iC {L : Array Bool} {i j : Nat} (h : i < L.size) : (L.setIfInBounds i true).getD j false = (decide (j = i) || L.getD j false) := by
 rw [Array.getD_eq_getD_getElem?, Array.getD_eq_getD_getElem?, Array.getElem?_setIfInBounds]
 by_cases e : i = j
 ·subst e
  simp [h]
 ·rw [if_neg e, decide_eq_false (fun e2 => e e2.symm), Bool.false_or]
theorem xl {L : Array Bool} {i : Nat} (h : i < L.size) (hu : L.getD i false = false) : ∀ m, i < m → (List.range m).countP (fun j => (L.setIfInBounds i true).getD j false) = (List.range m).countP (fun j => L.getD j false) + 1 := by
 have hlow : ∀ m, m ≤ i → (List.range m).countP (fun j => (L.setIfInBounds i true).getD j false) = (List.range m).countP (fun j => L.getD j false) := fun m hm => by
  refine List.countP_congr fun j hj => ?_
  have := List.mem_range.1 hj
  rw [iC h, decide_eq_false (by omega), Bool.false_or]
 intro m
 induction m with
 | zero => intro h; omega
 | succ m ih =>
  intro hm
  rw [List.range_succ, List.countP_append, List.countP_append]
  by_cases e : i = m
  ·subst e
   rw [hlow i (Nat.le_refl _), List.countP_singleton, List.countP_singleton, iC h, hu]
   simp
  ·rw [ih (by omega), List.countP_singleton, List.countP_singleton, iC h, decide_eq_false (by omega), Bool.false_or]
   omega
theorem oM {L : Array Bool} {m : Nat} (h : ∀ i, i < m → L.getD i false = true) : (List.range m).countP (fun j => L.getD j false) = m := by
 rw [List.countP_eq_length.2 fun j hj => h j (List.mem_range.1 hj), List.length_range]
theorem mQ {α β : Type} {f g : α → List β} : ∀ {l : List α}, (∀ x ∈ l, f x = g x) → l.flatMap f = l.flatMap g
 | [], _ => rfl
 | x :: l, h => by rw [List.flatMap_cons, List.flatMap_cons, h x List.mem_cons_self, mQ fun y hy => h y (List.mem_cons_of_mem _ hy)]
theorem tM {m : Nat} {p : Nat → Bool} (h : (List.range m).all p = true) {i : Nat} (hi : i < m) : p i = true := List.all_eq_true.1 h i (List.mem_range.2 hi)
theorem Bp {l : List Oper} {w0 : World} {m : Nat} {dst : Nat → Nat} {S : Lv} {pre : Nat → List HE} {rest : List HE} {ds : List (Nat × Nat)} (hds : ∀ p ∈ ds, p.1 < m ∧ p.2 = dst p.1) (hds2 : ∀ i, i < m → (i, dst i) ∈ ds) (hnd : (ds.map (·.2)).Nodup) (hinj : ∀ i j, i < m → j < m → dst i = dst j → i = j)
  (hml : m ≤ l.length) (hop : ∀ i, i < m → ∃ o, l[i]? = some o ∧ o.dst = some (dst i) ∧ dst i < N ∧ ∀ e ∈ o.after, Region.binds .any e = true → e.on < i)
  (htl : ∀ k, m ≤ k → k < l.length → ∃ o, l[k]? = some o ∧ ∀ j, j < m → waits o j = true)
  (hrd : ((List.range (l.length - m)).all fun k => Region.ready .any l.toArray (fF l.length (m + k)) == [m + k]) = true) (hend : Region.ready .any l.toArray (fF l.length l.length) = [])
  (hs : AE m (Spec P l w0 ρ dst m S pre rest))
  (hfin : ∀ (f : Nat → Value) (R : Nat → List HE) (w' : World), (∀ i, i < m → S i (f i) (R i)) → Hp w0 ((List.range m).flatMap R ++ rest) w' → WL .plain P N l.toArray Q (l.drop m) (iB ρ f ds) w') :
  ∀ (fuel : Nat) (L : Array Bool) (ρ1 : Rf) (w1 : World) (R : Nat → List HE), L.size = l.length → (∀ j, m ≤ j → L.getD j false = false) → fuel + (List.range m).countP (fun j => L.getD j false) = l.length →
   (∀ s, (∀ j, j < m → L.getD j false = true → dst j ≠ s) → ρ1 s = ρ s) → (∀ j, j < m → L.getD j false = true → S j (ρ1 (dst j)) (R j)) → (∀ j, j < m → L.getD j false = false → R j = pre j) → Hp w0 ((List.range m).flatMap R ++ rest) w1 → WA P N l.toArray Q fuel L ρ1 w1 := by
 intro fuel
 induction fuel with
 | zero =>
  intro L ρ1 w1 R hsz htail hcnt hag hS hpre hh
  have hall : ∀ i, i < m → L.getD i false = true := by
   have h1 : (List.range m).countP (fun j => L.getD j false) ≤ m := by have := List.countP_le_length (p := fun j => L.getD j false) (l := List.range m); rwa [List.length_range] at this
   have h2 : (List.range m).countP (fun j => L.getD j false) = (List.range m).length := by rw [List.length_range]; omega
   intro i hi
   exact List.countP_eq_length.1 h2 i (List.mem_range.2 hi)
  have hL := kg hsz hml hall htail
  have hρ : ρ1 = iB ρ (fun i => ρ1 (dst i)) ds := ti (f := fun i => ρ1 (dst i)) (fun p hp => by rw [(hds p hp).2]) (fun s hs2 => hag s fun j hj _ => hs2 _ (hds2 j hj)) hnd
  refine dY m hml hL (by have := oM hall; omega) hrd hend ?_
  have := hfin (fun i => ρ1 (dst i)) R w1 (fun i hi => hS i hi (hall i hi)) hh
  rwa [← hρ] at this
 | succ fuel ih =>
  intro L ρ1 w1 R hsz htail hcnt hag hS hpre hh
  by_cases hall : ∀ i, i < m → L.getD i false = true
  ·have hL := kg hsz hml hall htail
   have hρ : ρ1 = iB ρ (fun i => ρ1 (dst i)) ds := ti (f := fun i => ρ1 (dst i)) (fun p hp => by rw [(hds p hp).2]) (fun s hs2 => hag s fun j hj _ => hs2 _ (hds2 j hj)) hnd
   refine dY m hml hL (by have := oM hall; omega) hrd hend ?_
   have := hfin (fun i => ρ1 (dst i)) R w1 (fun i hi => hS i hi (hall i hi)) hh
   rwa [← hρ] at this
  ·have und : ∀ i, i < l.length → (L.getD i true = false ↔ L.getD i false = false) := fun i hi => by
    have h1 : i < L.size := by rw [hsz]; exact hi
    rw [Array.getD_eq_getD_getElem?, Array.getD_eq_getD_getElem?, Array.getElem?_eq_getElem h1]
    simp
   refine xR (fun hnil => ?_) fun i hi => ?_
   ·obtain ⟨i, h1, h2, h3⟩ := rD hall
    obtain ⟨o, ho, _, _, he⟩ := hop i h1
    have : i ∈ Region.ready .any l.toArray L := qi.2 ⟨by omega, (und i (by omega)).2 h2, o, ho, fun e he1 he2 => h3 _ (he e he1 he2)⟩
    rw [hnil] at this
    cases this
   ·obtain ⟨hil, hun, o, ho, hed⟩ := qi.1 hi
    rw [und i hil] at hun
    have hwait : ∀ j, waits o j = true → L.getD j false = true := fun j hj => by
     obtain ⟨e, he1, he2⟩ := List.any_eq_true.1 hj
     rw [Bool.and_eq_true, beq_iff_eq] at he2
     rw [← he2.1]
     exact hed e (by simpa using he1) he2.2
    have him : i < m := by
     rcases Nat.lt_or_ge i m with h | h
     ·exact h
     ·obtain ⟨o2, ho2, h2⟩ := htl i h hil
      rw [ho] at ho2
      cases ho2
      exact absurd (fun j hj => hwait j (h2 j hj)) hall
    obtain ⟨o2, ho2, hd, hN, hlt⟩ := hop i him
    rw [ho] at ho2
    cases ho2
    obtain ⟨o3, ho3, hsp⟩ := hs.get i him
    rw [ho] at ho3
    cases ho3
    refine ⟨o, dst i, by simpa using ho, hd, hN, ?_⟩
    have hiL : i < L.size := by rw [hsz]; exact hil
    refine (hsp ρ1 w1 (((List.range m).filter (· != i)).flatMap R ++ rest) R (fun s hs2 => hag s fun j hj _ => hs2 j hj) (fun j hj => ?_) (fun x hx => List.mem_append_right _ hx) ?_).imp fun v w' ⟨R', h1, h2⟩ => ?_
    ·have hjd := hwait j hj
     have hjm : j < m := by
      obtain ⟨e, he1, he2⟩ := List.any_eq_true.1 hj
      rw [Bool.and_eq_true, beq_iff_eq] at he2
      have := hlt e (by simpa using he1) he2.2
      omega
     refine ⟨hS j hjm hjd, fun x hx => List.mem_append_left _ (List.mem_flatMap.2 ⟨j, List.mem_filter.2 ⟨List.mem_range.2 hjm, ?_⟩, hx⟩)⟩
     have : j ≠ i := fun e => by rw [e, hun] at hjd; cases hjd
     simpa using this
    ·rw [← hpre i him hun]
     exact hh.perm (nT him rest)
    ·refine ih _ _ _ (fun j => if j = i then R' else R j) (by rw [Array.size_setIfInBounds]; exact hsz) (fun j hj => ?_) (by rw [xl hiL hun m him]; omega) (fun s hs2 => ?_) (fun j hj hjd => ?_) (fun j hj hjd => ?_) ?_
     ·rw [iC hiL, decide_eq_false (by omega), Bool.false_or]
      exact htail j hj
     ·have hne : dst i ≠ s := hs2 i him (by rw [iC hiL]; simp)
      rw [gB _ (fun e => hne e.symm)]
      exact hag s fun j hj hjd => hs2 j hj (by rw [iC hiL, hjd]; simp)
     ·by_cases e : j = i
      ·subst e
       rw [if_pos rfl, lO]
       exact h1
      ·rw [iC hiL, decide_eq_false e, Bool.false_or] at hjd
       rw [if_neg e, gB _ (fun e2 => e (hinj j i hj him e2))]
       exact hS j hj hjd
     ·rw [iC hiL] at hjd
      have e : j ≠ i := fun e => by rw [e] at hjd; simp at hjd
      rw [decide_eq_false e, Bool.false_or] at hjd
      rw [if_neg e]
      exact hpre j hj hjd
     ·refine Hp.perm h2 (List.Perm.trans ?_ (nT (R := fun j => if j = i then R' else R j) him rest).symm)
      rw [if_pos rfl]
      have : ((List.range m).filter (· != i)).flatMap (fun j => if j = i then R' else R j) = ((List.range m).filter (· != i)).flatMap R := by
       refine mQ fun j hj => ?_
       have := (List.mem_filter.1 hj).2
       rw [if_neg (by simpa using this)]
      rw [this]
theorem xS {id : Nat} {l : List Oper} {w0 : World} {H : List HE} (m : Nat) (dst : Nat → Nat) (S : Lv) (pre : Nat → List HE) (rest : List HE) (ds : List (Nat × Nat)) (hh : Hp w0 H w) (hH : H.Perm ((List.range m).flatMap pre ++ rest)) (hm : P.follows .mixedOrders = true)
  (hok : AF l m N dst = true) (hds : ds = ((List.range m).map fun i => (i, dst i)).reverse) (hs : AE m (Spec P l w0 ρ dst m S pre rest))
  (hfin : ∀ (f : Nat → Value) (R : Nat → List HE) (w' : World), AE m (fun i => S i (f i) (R i)) → Hp w0 ((List.range m).flatMap R ++ rest) w' → WL .plain P N l.toArray Q (l.drop m) (iB ρ f ds) w') : WC .plain P N (.region id l.toArray true) Q ρ w := by
 refine jI hh hm fun w' hj => ?_
 simp only [AF, Bool.and_eq_true, decide_eq_true_eq] at hok
 obtain ⟨⟨⟨⟨⟨hml, h1⟩, h2⟩, h3⟩, h4⟩, h5⟩ := hok
 have hop : ∀ i, i < m → ∃ o, l[i]? = some o ∧ o.dst = some (dst i) ∧ dst i < N ∧ ∀ e ∈ o.after, Region.binds .any e = true → e.on < i := fun i hi => by
  have := tM h1 hi
  split at this
  ·rename_i o ho
   simp only [Bool.and_eq_true, beq_iff_eq, decide_eq_true_eq] at this
   refine ⟨o, ho, this.1.1, this.1.2, fun e he hb => ?_⟩
   have h6 := List.all_eq_true.1 this.2 e (by simpa using he)
   simpa [hb] using h6
  ·cases this
 have hmem : ∀ i, i < m → (i, dst i) ∈ ds := fun i hi => by rw [hds, List.mem_reverse]; exact List.mem_map.2 ⟨i, List.mem_range.2 hi, rfl⟩
 have hmap : ds.map (·.2) = ((List.range m).map dst).reverse := by rw [hds, List.map_reverse, List.map_map]; rfl
 refine Bp (w0 := w0) (pre := pre) (rest := rest) (S := S) (ds := ds) (fun p hp => ?_) hmem (by rw [hmap]; exact (List.reverse_perm _).nodup_iff.2 h2) (fun i j hi hj he => ?_) hml hop (fun k hk hkl => ?_) h4 (eq_of_beq h5) hs (fun f R w2 hS hh2 => hfin f R w2 (xO hS) hh2) l.length (Array.replicate l.length false) ρ w' pre (by simp) (fun j _ => ?_) ?_ (fun s _ => rfl) (fun j hj hjd => ?_) (fun j _ _ => rfl) (Hp.perm hj.hp hH)
 ·rw [hds, List.mem_reverse] at hp
  obtain ⟨i, hi, rfl⟩ := List.mem_map.1 hp
  exact ⟨List.mem_range.1 hi, rfl⟩
 ·have hi2 : ((List.range m).map dst)[i]? = some (dst i) := by rw [List.getElem?_map, List.getElem?_range hi]; rfl
  have hj2 : ((List.range m).map dst)[j]? = some (dst j) := by rw [List.getElem?_map, List.getElem?_range hj]; rfl
  exact (List.getElem?_inj (by rw [List.length_map, List.length_range]; exact hi) h2).1 (by rw [hi2, hj2, he])
 ·have := tM h3 (show k - m < l.length - m by omega)
  rw [show m + (k - m) = k by omega] at this
  split at this
  ·rename_i o ho
   exact ⟨o, ho, fun j hj => tM this hj⟩
  ·cases this
 ·exact kO _ _
 ·rw [List.countP_eq_zero.2 fun j _ => by rw [kO]; decide]
  rfl
 ·rw [kO] at hjd
  cases hjd
def jr (v : Value) : Value → List HE → Prop := fun x R => x = v ∧ R = []
theorem pX {ops : Array Oper} {w0 : World} {H : List HE} (hh : Hp w0 H w) {d : Option Nat} {ty : TypeId} {pos : String} {af : Array Edge} {t e : TypeId} {len sz by' : Nat} {ag : Bool} {parts : Array (Nat × Operand)} {ps : List (Nat × Value)} {zc cs : List Value} (ht : P.underlying t = some (.slice e)) (hte : cR P e = some (sz, ag, by', zc))
  (hp : pf ρ parts.toList = ps) (hzl : zc.length = sz) (hf : iJ (fun i => some (i * sz, sz)) (eV len zc) ps = some cs) (h0 : ¬ len * sz = 0) (hle : len ≤ 1000) (hsl : len * sz ≤ 16777216) (hl : cs.length = len * sz) {K : Value → World → Prop}
  (hk : ∀ b w2, Hp w0 (.row (some ⟨b, 0, none⟩) len len e sz cs :: H) w2 → K (.slice (some ⟨b, 0, none⟩) len len) w2) : OG P ops ⟨d, .buildSlice t len parts, ty, pos, af, none⟩ ρ w K := by
 obtain ⟨z, hz, hzc⟩ := cP (w := w) hte
 refine bY rfl (w' := w.alloc (.cells cs.toArray e)) (v := .slice (some ⟨w.heap.size, 0, none⟩) len len) ?_ (hk _ _ (hh.rr e sz len cs hl (by unfold maxLen; omega)))
 have h16 : ¬ 2 ^ 24 < len * sz := by omega
 have hf' := lr _ _ _ hf
 rw [← ik, hzl] at hf'
 have hzs : zc.toArray.size = sz := by simpa using hzl
 have hp' := ns parts hp
 simp only [execOp, hp', Instr.buildSlice, Sem.run_bind, run_underlying ht, Result.andThen_ok, dP hte, gt_iff_lt, if_neg h16, if_neg h0, hz, hzc, Sem.run_pure, hzs, hf']
 simp [newRow]
theorem wX {ops : Array Oper} {w0 : World} {H : List HE} (hh : Hp w0 H w) {d : Option Nat} {ty : TypeId} {pos : String} {af : Array Edge} {t : TypeId} {n by' : Nat} {ag : Bool} {zc : List Value} (ht : cR P t = some (n, ag, by', zc)) {K : Value → World → Prop}
  (hk : ∀ b w2, Hp w0 (.blk b t zc (0, 0) :: H) w2 → K (.pointer (some ⟨b, 0, none⟩)) w2) : OG P ops ⟨d, .alloc t, ty, pos, af, none⟩ ρ w K := by
 obtain ⟨z, hz, hzc⟩ := cP (w := w) ht
 exact bY rfl (w' := w.alloc (.cells zc.toArray t)) (v := .pointer (some ⟨w.heap.size, 0, none⟩)) (by simp [execOp, Instr.alloc, newVar, newRow, hz, hzc]) (hk _ _ (hh.ra t zc))
theorem Hp.uV {w0 w : World} {H : List HE} (h : Hp w0 H w) {b o n : Nat} {t : TypeId} {cs vs : List Value} {fz : Nat × Nat} (hm : HE.blk b t cs fz ∈ H) (hv : (cs.drop o).take n = vs) : Rd w ⟨b, o, none⟩ vs := let ⟨_, hi⟩ := List.mem_iff_getElem?.1 hm; h.av hi hv
theorem Hp.xD {w0 w : World} {H : List HE} (h : Hp w0 H w) {b o : Nat} {t : TypeId} {cs : List Value} {fz : Nat × Nat} {v : Value} (hm : HE.blk b t cs fz ∈ H) (hv : cs[o]? = some v) : w.cell? ⟨b, o, none⟩ = some v := let ⟨_, hi⟩ := List.mem_iff_getElem?.1 hm; h.dh hi hv
theorem Hp.x4 {w0 w : World} {H : List HE} (h : Hp w0 H w) {A : Option Addr} {n c sz : Nat} {t : TypeId} {xs : List Value} (hm : HE.row A n c t sz xs ∈ H) : Sl w A n sz xs := let ⟨_, hi⟩ := List.mem_iff_getElem?.1 hm; h.aJ hi
end
end Go.Proofs.YtaapkaefelhfcaaGreatDoor
/- The walk through calc.Face. -/
namespace Go.Proofs.YtaapkaefelhfcaaGreatDoor
open Go.RowKit
def oO (j : Nat) (y : Dyadic) (t : TR) : TR := ⟨str (t.m.data.toList.take j ++ t.m.data.toList.drop (j + 1)), nR (t.c.d * y ^ (match t.m.data.toList[j]? with | some e => e.toNat | none => 0))⟩
def iA (j : Nat) (y : Dyadic) (l : List TR) : List TR := l.map (oO j y)
theorem rK {s : ByteArray} {j : Nat} (h : j ≤ s.size) : s.extract 0 j = str (s.data.toList.take j) := by
 apply md
 rw [db]
 show (s.extract 0 j).data.toList = _
 rw [ByteArray.data_extract]
 simp
theorem tn {s : ByteArray} {j : Nat} : s.extract j s.size = str (s.data.toList.drop j) := by
 apply md
 rw [db, ByteArray.data_extract, Array.toList_extract, List.extract_eq_take_drop]
 refine List.take_of_length_le ?_
 rw [List.length_drop, bZ]
 exact Nat.le_refl _
theorem yr {v : Int} {j : Nat} {y : Dyadic} {t : TR} (hj : (j : Int) < v) (ht : ew v t = true) : ew (v - 1) (oO j y t) = true := by
 unfold ew at ht ⊢
 rw [Bool.and_eq_true, decide_eq_true_eq] at ht
 rw [Bool.and_eq_true, decide_eq_true_eq]
 have h1 := ht.2
 rw [bZ] at h1
 refine ⟨?_, ?_⟩
 ·show ef (str _).data.toList = true
  rw [db, jf]
  intro c hc
  rcases List.mem_append.1 hc with hc | hc
  ·exact jf.1 ht.1 c (List.mem_of_mem_take hc)
  ·exact jf.1 ht.1 c (List.mem_of_mem_drop hc)
 ·show ((str _).size : Int) = v - 1
  rw [dT, List.length_append, List.length_take, List.length_drop]
  omega
theorem u7 {v : Int} {ts : List TR} {j k : Nat} {y : Dyadic} (h : fy v ts = 0) (ho : fT k ts) (hz : ∀ t ∈ ts, t.m.size ≤ 100000) (h0 : (j : Int) < v) (hk0 : k ≤ 1000) (hy : Sz k y) (hk : k ≤ 1000) : iT (v - 1) (iA j y ts) = 0 ∧ fT (k + 128000) (iA j y ts) ∧ ∀ t ∈ iA j y ts, t.m.size ≤ 100000 := by
 obtain ⟨h1, h2, h3, _⟩ := dW h
 have hf := eB.1 h1
 have hl : (iA j y ts).length ≤ 4096 := by unfold iA; rw [List.length_map]; exact h2
 have hm : ∀ s ∈ iA j y ts, ∃ t ∈ ts, oO j y t = s := fun s hs => List.mem_map.1 hs
 refine ⟨?_, fun s hs => ?_, fun s hs => ?_⟩
 ·unfold iT
  rw [if_neg, if_neg (by omega)]
  ·unfold fe
   have := gy (iA j y ts)
   rw [if_neg (by omega)]
  ·rintro (h5 | h5)
   ·rw [eB.2 (by omega)] at h5; cases h5
   ·obtain ⟨s, hs, h6⟩ := List.any_eq_true.1 h5
    obtain ⟨t, ht, h7⟩ := hm s hs
    rw [← h7, yr h0 (h3 t ht)] at h6
    cases h6
 ·obtain ⟨t, ht, rfl⟩ := hm s hs
  have hmx := Bool.and_eq_true_iff.1 (h3 t ht)
  have hxz : (t.m.size : Int) = v := of_decide_eq_true hmx.2
  obtain ⟨e, he⟩ := aE (l := t.m.data.toList) (k := j) (by rw [← bZ]; omega)
  have he8 := g9 hmx.1 he
  have hs1 : Sz (k + 128000) (t.c.d * y ^ e.toNat) := ((ho t ht).2.mul ((hy.pow e.toNat).mono (show _ ≤ 128000 by have := Nat.mul_le_mul hk (show e.toNat ≤ 127 by omega); omega))).mono (by omega)
  have e1 : (oO j y t).c = nR (t.c.d * y ^ e.toNat) := by unfold oO; rw [he]
  rw [e1]
  exact ⟨hs1.ok (by omega), by rw [dy]; exact hs1⟩
 ·obtain ⟨t, ht, rfl⟩ := hm s hs
  have := hz t ht
  show (str _).size ≤ _
  rw [dT, List.length_append, List.length_take, List.length_drop, ← bZ]
  omega
theorem m9 (p : PX) (which : Int) (y : NR) (k : Nat) (w : World) (hT : gW w) (hp : p.at_ w) (lp : p.lk k) (hy : y.ok ∧ Sz k y.d) (hk : k ≤ 1000) :
  Calls Tryz.prog 24 #[.agg #[.int .i64 p.v, .slice p.A p.n p.c], .int .i64 which, .agg #[.bool y.neg, .string y.bu, .int .i64 y.e]] w fun r w' => ∃ g : PX, cZ (gf p which) (p.v - 1) (aZ (iA which.toNat y.d p.ts)) g ∧ r = .returned (.tuple #[.agg #[.int .i64 g.v, .slice g.A g.n g.c], .int .i64 (gf p which)]) ∧ Hp w [g.row] w' := by
 have hh := Hp.start w
 have hck := fun w1 hT1 hb => qy p which k w1 hT1 (hp.ext hb) lp
 by_cases h0 : gf p which = 0
 ·obtain ⟨hpe, hi0, hiv⟩ := nn h0
  rw [h0] at hck ⊢
  obtain ⟨hf, h4, hmy, _⟩ := dW hpe
  replace hf := eB.1 hf
  obtain ⟨pv, pA, pn, pc, ts⟩ := p
  replace hpl : ts.length = pn := hp.ln
  replace hp : Sl w pA pn 4 (aP TR.cells ts) := hp
  have okp : fT k ts := lp.ok
  have szp : ∀ t ∈ ts, t.m.size ≤ 100000 := lp.sz
  replace hmy : ∀ t ∈ ts, ew pv t = true := hmy
  replace h4 : ts.length ≤ 4096 := h4
  replace hf : 0 ≤ pv ∧ pv ≤ 12 := hf
  replace hiv : which < pv := hiv
  obtain ⟨j, rfl⟩ : ∃ j : Nat, which = (j : Int) := ⟨which.toNat, by omega⟩
  rw [show ((j : Int)).toNat = j from rfl]
  show Calls _ _ _ _ fun r w' => ∃ g : PX, cZ 0 (pv - 1) (aZ (iA j y.d ts)) g ∧ r = .returned (.tuple #[.agg #[.int .i64 g.v, .slice g.A g.n g.c], .int .i64 0]) ∧ Hp w [g.row] w'
  refine aj (N := 62) (l := [.agg #[.int .i64 pv, .slice pA pn pc], .int .i64 j, .agg #[.bool y.neg, .string y.bu, .int .i64 y.e]]) Tryz.func24 rfl rfl (by simp) ?_
  refine sr ?_
  refine cz hh [_,_] ?_
  intro b3 w3 hh
  refine cz hh [_,_,_] ?_
  intro b5 w5 hh
  refine cj hh ?_
  intro b6 w6 hh
  refine aI (ae (ah (sr ?_)))
  refine cB hh 2 [_,_] (mI ?_)
  refine bA hh (hck _ (hT.hp hh) hh.below) rfl ?_
  intro w16 hh
  refine aI (ae (sr (mI ?_)))
  refine cQ (ae (cF (ak (ai (sr ?_)))))
  refine cj hh ?_
  intro b9 w9 hh
  refine ae (sr (aL (ae (ah (sr (bB ?_))))))
  refine bE hh 3 ?_
  refine a0 (mI (ae (ao ?_)))
  replace hh := (hh.dK 29 3).dK 55 4
  refine cE [10, 12, 13, 24, 25, 26, 27, 28, 29, 30, 31, 32, 33, 34, 35, 36, 37, 38, 39, 40, 41, 42, 43, 44, 45, 46, 47, 48, 49, 50, 51, 52, 53, 54] 10 24
   (fun a v w' => ∃ (i : Nat) (M : List TR) (A : Option Addr) (c : Nat) (PA : Option Addr) (pm c2 : Nat), i ≤ pn ∧ v = .int .i64 i ∧ M = iA j y.d (ts.take i) ∧ a = .slice A M.length c ∧ pm ≤ 1000 ∧ Hp w [.row A M.length c 55 4 (aP TR.cells M), .blk b9 109 [.slice PA pm c2] (0, 0), .row PA pm c2 29 3 (aP NR.cells (l6 y.d pm)), .blk b6 24 [.int .i64 0, .slice none 0 0] (0, 0), .blk b5 29 [.bool y.neg, .string y.bu, .int .i64 y.e] (0, 0), .blk b3 24 [.int .i64 pv, .slice pA pn pc] (0, 0)] w')
   (fun _ v _ => pn - (intOf v).toNat) ?_ ?_
  ·refine ⟨0, [], none, 0, none, 0, 0, Nat.zero_le _, rfl, rfl, rfl, Nat.zero_le _, hh.perm (.cons _ (.swap _ _ _))⟩
  ·clear hh
   rintro ρ' a_ v w' ⟨i, M, A, c, PA, pm, c2, hi, rfl, hM, rfl, hpm, hh⟩
   have hMl : M.length = i := by rw [hM]; unfold iA; rw [List.length_map, List.length_take]; omega
   by_cases hlt : i < pn
   ·obtain ⟨x, hx⟩ := aE (l := ts) (k := i) (by omega)
    obtain ⟨ad, rfl, hr⟩ := hp.at_ (by omega)
    have hxo := okp x (List.mem_of_getElem? hx)
    have hmx := Bool.and_eq_true_iff.1 (hmy x (List.mem_of_getElem? hx))
    have hxz : (x.m.size : Int) = pv := of_decide_eq_true hmx.2
    obtain ⟨e, he⟩ := aE (l := x.m.data.toList) (k := j) (by rw [← bZ]; omega)
    have he8 := g9 hmx.1 he
    have zp : Sz 128000 (y.d ^ e.toNat) := (hy.2.pow e.toNat).mono (by have := Nat.mul_le_mul hk (show e.toNat ≤ 127 by omega); omega)
    have hdm := fun A cc w1 hT1 hS1 => gC A 2 cc [x.c, nR (y.d ^ e.toNat)] w1 hT1 hS1 (by simpa using ⟨hxo.1, zp.ok (by decide)⟩) 130000 (by simpa [dy] using ⟨hxo.2.mono (by omega), zp.mono (by decide)⟩) (by decide) (by decide)
    rw [show gU ([x.c, nR (y.d ^ e.toNat)].map NR.d) = x.c.d * y.d ^ e.toNat by show 1 * x.c.d * (nR _).d = _; rw [dy, Dyadic.one_mul]] at hdm
    refine sr ?_
    refine aW (ae (ah (cT (ak (ai (ah (ao (sr ?_))))))))
    refine aQ (k := i) aF.out aA.size rfl rfl (by omega) (by omega) (by decide) ?_
    refine bR (vs := [_, _, _, _]) aA.out rfl ((hr.ext hh.below).recAt TR.len hx) rfl (by decide) ?_
    refine cj hh ?_
    intro b12 w12 hh
    refine bD hh 0 [_,_,_,_] ?_
    intro ws hh
    replace hh : Hp _ (.blk _ _ [_, _, _, _] _ :: _) _ := hh
    refine ae (ah ?_)
    have mb12 : (.blk b12 55 [.string x.m, .bool x.c.neg, .string x.c.bu, .int .i64 x.c.e] (0, 0) : HE) ∈ [.blk b12 55 [.string x.m, .bool x.c.neg, .string x.c.bu, .int .i64 x.c.e] (0, 0), .row A M.length c 55 4 (aP TR.cells M), .blk b6 24 [.int .i64 0, .slice none 0 0] (0, 0), .blk b5 29 [.bool y.neg, .string y.bu, .int .i64 y.e] (0, 0), .blk b3 24 [.int .i64 pv, .slice (some ad) pn pc] (0, 0)] := by simp
    have mb5 : (.blk b5 29 [.bool y.neg, .string y.bu, .int .i64 y.e] (0, 0) : HE) ∈ [.blk b12 55 [.string x.m, .bool x.c.neg, .string x.c.bu, .int .i64 x.c.e] (0, 0), .row A M.length c 55 4 (aP TR.cells M), .blk b6 24 [.int .i64 0, .slice none 0 0] (0, 0), .blk b5 29 [.bool y.neg, .string y.bu, .int .i64 y.e] (0, 0), .blk b3 24 [.int .i64 pv, .slice (some ad) pn pc] (0, 0)] := by simp
    refine xS 12 (fun i => [28, 29, 30, 31, 32, 33, 34, 35, 36, 37, 38, 13].getD i 0) (fun i => [jr (.pointer (some ⟨b12, 0 + 1, none⟩)), jr (.agg #[.bool x.c.neg, .string x.c.bu, .int .i64 x.c.e]), jr (.agg #[.bool y.neg, .string y.bu, .int .i64 y.e]), jr (.pointer (some ⟨b12, 0 + 0, none⟩)), jr (.string x.m), jr (.int .i64 j), jr (.int .u8 e.toNat), jr (.int .i64 e.toNat), fun v R => v = .agg #[.bool (nR (y.d ^ e.toNat)).neg, .string (nR (y.d ^ e.toNat)).bu, .int .i64 (nR (y.d ^ e.toNat)).e] ∧ ∃ (A2 : Option Addr) (m2 c3 : Nat), m2 ≤ 1000 ∧ R = [.blk b9 109 [.slice A2 m2 c3] (0, 0), .row A2 m2 c3 29 3 (aP NR.cells (l6 y.d m2))], fun v R => ∃ b : Nat, v = .slice (some ⟨b, 0, none⟩) 2 2 ∧ R = [.row (some ⟨b, 0, none⟩) 2 2 29 3 (aP NR.cells [x.c, nR (y.d ^ e.toNat)])], jr (.agg #[.bool (nR (x.c.d * y.d ^ e.toNat)).neg, .string (nR (x.c.d * y.d ^ e.toNat)).bu, .int .i64 (nR (x.c.d * y.d ^ e.toNat)).e]), fun v R => ∃ b : Nat, v = .pointer (some ⟨b, 0, none⟩) ∧ R = [.blk b 29 [.bool false, .string (ByteArray.mk #[]), .int .i64 0] (0, 0)]].getD i (jr undef)) (fun i => [[], [], [], [], [], [], [], [], [.blk b9 109 [.slice PA pm c2] (0, 0), .row PA pm c2 29 3 (aP NR.cells (l6 y.d pm))], [], [], []].getD i []) [.blk b12 55 [.string x.m, .bool x.c.neg, .string x.c.bu, .int .i64 x.c.e] (0, 0), .row A M.length c 55 4 (aP TR.cells M), .blk b6 24 [.int .i64 0, .slice none 0 0] (0, 0), .blk b5 29 [.bool y.neg, .string y.bu, .int .i64 y.e] (0, 0), .blk b3 24 [.int .i64 pv, .slice (some ad) pn pc] (0, 0)] _ hh ((List.perm_append_comm (l₁ := [_, _]) (l₂ := [_, _])).append_right _) mixed (by kernel_rfl) rfl ⟨⟨⟨⟨⟨⟨⟨⟨⟨⟨⟨⟨trivial, ?s0⟩, ?s1⟩, ?s2⟩, ?s3⟩, ?s4⟩, ?s5⟩, ?s6⟩, ?s7⟩, ?s8⟩, ?s9⟩, ?s10⟩, ?s11⟩ ?fin
    case s0 => exact ⟨_, rfl, fun ρ1 w1 F R ha hd hr (hh : Hp w F w1) => bY rfl (iF (b := b12) (o := 0) (off := 1) dE.out (ha 12 (by decide))) ⟨[], ⟨rfl, rfl⟩, hh⟩⟩
    case s1 => exact ⟨_, rfl, fun ρ1 w1 F R ha hd hr (hh : Hp w F w1) => bY rfl (kX (vs := [_, _, _]) aA.out (show jr (.pointer (some ⟨b12, 0 + 1, none⟩)) (ρ1 28) (R 0) from (hd 0 rfl).1).1 (hh.uV (n := 3) (hr _ mb12) rfl) rfl) ⟨[], ⟨rfl, rfl⟩, hh⟩⟩
    case s2 => exact ⟨_, rfl, fun ρ1 w1 F R ha hd hr (hh : Hp w F w1) => bY rfl (kX (vs := [_, _, _]) aA.out (ha 5 (by decide)) (hh.uV (n := 3) (hr _ mb5) rfl) rfl) ⟨[], ⟨rfl, rfl⟩, hh⟩⟩
    case s3 => exact ⟨_, rfl, fun ρ1 w1 F R ha hd hr (hh : Hp w F w1) => bY rfl (iF (b := b12) (o := 0) (off := 0) dE.out (ha 12 (by decide))) ⟨[], ⟨rfl, rfl⟩, hh⟩⟩
    case s4 => exact ⟨_, rfl, fun ρ1 w1 F R ha hd hr (hh : Hp w F w1) => bY rfl (g8 aA.out (show jr (.pointer (some ⟨b12, 0 + 0, none⟩)) (ρ1 31) (R 3) from (hd 3 rfl).1).1 (hh.xD (o := 0) (hr _ mb12) rfl)) ⟨[], ⟨rfl, rfl⟩, hh⟩⟩
    case s5 => exact ⟨_, rfl, fun ρ1 w1 F R ha hd hr (hh : Hp w F w1) => bY rfl (df (ha 1 (by decide))) ⟨[], ⟨rfl, rfl⟩, hh⟩⟩
    case s6 => exact ⟨_, rfl, fun ρ1 w1 F R ha hd hr (hh : Hp w F w1) => bY rfl (iD aF.out (show jr (.string x.m) (ρ1 32) (R 4) from (hd 4 rfl).1).1 (show jr (.int .i64 j) (ρ1 33) (R 5) from (hd 5 rfl).1).1 (by omega) he) ⟨[], ⟨rfl, rfl⟩, hh⟩⟩
    case s7 => exact ⟨_, rfl, fun ρ1 w1 F R ha hd hr (hh : Hp w F w1) => bY rfl (jF aF.out aF.out (show jr (.int .u8 e.toNat) (ρ1 34) (R 6) from (hd 6 rfl).1).1 (by omega) (by omega)) ⟨[], ⟨rfl, rfl⟩, hh⟩⟩
    case s8 => exact ⟨_, rfl, fun ρ1 w1 F R ha hd hr hh => bU rfl (a3 ar.out (az (show ρ1 9 = Value.pointer (some ⟨b9, 0, none⟩) from ha 9 (by decide)) (az (show jr (.agg #[.bool y.neg, .string y.bu, .int .i64 y.e]) (ρ1 30) (R 2) from (hd 2 rfl).1).1 (az (show jr (.int .i64 e.toNat) (ρ1 35) (R 7) from (hd 7 rfl).1).1 a7)))) (o5 dh y e.toNat pm PA c2 k w1 hT hh (by omega) hpm hy hk) fun r w2 ⟨h1, A2, m2, c3, h2, h3⟩ => ⟨_, h1, [_, _], ⟨rfl, A2, m2, c3, h2, rfl⟩, h3⟩⟩
    case s9 => exact ⟨_, rfl, fun ρ1 w1 F R ha hd hr (hh : Hp w F w1) => pX (sz := 3) (cs := aP NR.cells [x.c, nR (y.d ^ e.toNat)]) hh aF.out aA.out (show pf ρ1 [(0, .tmp 29), (1, .tmp 36)] = [(0, .agg #[.bool x.c.neg, .string x.c.bu, .int .i64 x.c.e]), (1, .agg #[.bool (nR (y.d ^ e.toNat)).neg, .string (nR (y.d ^ e.toNat)).bu, .int .i64 (nR (y.d ^ e.toNat)).e])] from br (show ρ1 29 = _ from (show jr (.agg #[.bool x.c.neg, .string x.c.bu, .int .i64 x.c.e]) (ρ1 29) (R 1) from (hd 1 rfl).1).1) (br (show ρ1 36 = _ from (hd 8 rfl).1.1) ct)) rfl rfl (by decide) (by decide) (by decide) rfl fun b w2 h2 => ⟨[_], ⟨b, rfl, rfl⟩, h2⟩⟩
    case s10 => exact ⟨_, rfl, fun ρ1 w1 F R ha hd hr (hh : Hp w F w1) => let ⟨b, e9, r9⟩ := (show ∃ b : Nat, ρ1 37 = .slice (some ⟨b, 0, none⟩) 2 2 ∧ R 9 = [.row (some ⟨b, 0, none⟩) 2 2 29 3 (aP NR.cells [x.c, nR (y.d ^ e.toNat)])] from (hd 9 rfl).1); bU rfl (a3 ar.out (az e9 a7)) (hdm _ _ w1 (hT.hp hh) (hh.x4 ((hd 9 rfl).2 _ (r9 ▸ List.mem_cons_self)))) fun r w2 hq => ⟨_, hq.1, [], ⟨rfl, rfl⟩, hh.ext hq.2⟩⟩
    case s11 => exact ⟨_, rfl, fun ρ1 w1 F R ha hd hr (hh : Hp w F w1) => wX hh aA.out fun b w2 h2 => ⟨[_], ⟨b, rfl, rfl⟩, h2⟩⟩
    clear hh
    rintro f R W ⟨⟨⟨⟨⟨⟨⟨⟨⟨⟨⟨⟨-, s0⟩, s1⟩, s2⟩, s3⟩, s4⟩, s5⟩, s6⟩, s7⟩, s8⟩, s9⟩, s10⟩, s11⟩ hh
    obtain ⟨e0, r0⟩ := s0
    obtain ⟨e1, r1⟩ := s1
    obtain ⟨e2, r2⟩ := s2
    obtain ⟨e3, r3⟩ := s3
    obtain ⟨e4, r4⟩ := s4
    obtain ⟨e5, r5⟩ := s5
    obtain ⟨e6, r6⟩ := s6
    obtain ⟨e7, r7⟩ := s7
    obtain ⟨e8, A2, m2, c3, hm2, r8⟩ := s8
    obtain ⟨b37, e9, r9⟩ := s9
    obtain ⟨e10, r10⟩ := s10
    obtain ⟨b13, e11, r11⟩ := s11
    rw [show List.range 12 = [0, 1, 2, 3, 4, 5, 6, 7, 8, 9, 10, 11] from rfl] at hh
    simp only [List.flatMap_cons, List.flatMap_nil, r0, r1, r2, r3, r4, r5, r6, r7, r8, r9, r10, r11, List.nil_append, List.append_nil, List.cons_append] at hh
    refine aK (a4 (aa e11 (aa e10 (aa e9 (aa e8 (aa e7 (aa e6 (aa e5 (aa e4 (aa e3 (aa e2 (aa e1 (aa e0 aM))))))))))))) ?_
    dsimp only [bX]
    refine bD hh 3 [_,_,_] ?_
    intro ws hh
    replace hh : Hp _ (_ :: _ :: _ :: .blk _ _ [_, _, _] _ :: _) _ := hh
    refine ae ?_
    have hjl : j < x.m.data.toList.length := (List.getElem?_eq_some_iff.1 he).1
    have hjs : j + 1 ≤ x.m.size := by rw [bZ]; omega
    have hsz100 := szp x (List.mem_of_getElem? hx)
    have hc1 : (str (x.m.data.toList.take j)).size + (str (x.m.data.toList.drop (j + 1))).size ≤ 9223372036854775807 := by rw [dT, dT, List.length_take, List.length_drop, ← bZ]; omega
    refine aU 14 [[(10, none)], [(12, none)], [(40, some 1)], [(1, none)], [(41, some 2), (42, some 3)], [(12, none)], [(44, some 5)], [(1, none)], [(46, some 7)], [(45, some 6), (47, some 8)], [(43, some 4), (48, some 9)], [(13, none)], [(49, some 10), (50, some 11)], [(51, some 12)]] [(13, 52), (12, 51), (11, 50), (10, 49), (9, 48), (8, 47), (7, 46), (6, 45), (5, 44), (4, 43), (3, 42), (2, 41), (1, 40), (0, 39)] hh mixed (by kernel_rfl) ?_
    refine fX ?_
    refine cw ?_
    refine dI 4 ?_
    refine ej ?_
    refine bk (i := 4) (Is (.string (str (x.m.data.toList.take j)))) (Is.ext) ?_ ?_
    ·intro ρ1 w1 hj hR
     exact bY rfl ((gL (ρ := ρ1) (x := .tmp 41) (lo := none) (hi := some (.tmp 42)) (l := 0) (h := j) aF.out (show ρ1 41 = Value.string x.m from hR.1) rfl ⟨.i64, j, hR.2.1, rfl⟩ (Nat.zero_le _) (by omega)).trans (by rw [rK (by omega)])) ⟨Below.refl _ _, rfl⟩
    refine cw ?_
    refine dI 4 ?_
    refine ej ?_
    refine uX ?_
    refine bk (i := 9) (Is (.string (str (x.m.data.toList.drop (j + 1))))) (Is.ext) ?_ ?_
    ·intro ρ1 w1 hj hR
     exact bY rfl ((gL (ρ := ρ1) (x := .tmp 45) (lo := some (.tmp 47)) (hi := none) (l := j + 1) (h := x.m.size) aF.out (show ρ1 45 = Value.string x.m from hR.1) ⟨.i64, (j : Int) + 1, hR.2.1, rfl⟩ rfl hjs (Nat.le_refl _)).trans (by rw [tn])) ⟨Below.refl _ _, rfl⟩
    refine bk (i := 10) (Is (.string (str (x.m.data.toList.take j ++ x.m.data.toList.drop (j + 1))))) (Is.ext) ?_ ?_
    ·intro ρ1 w1 hj hR
     exact bY rfl ((AA (ρ := ρ1) (x := .tmp 43) (y := .tmp 48) (show ρ1 43 = Value.string _ from hR.1) (show ρ1 48 = Value.string _ from hR.2.1) hc1).trans (by rw [nV])) ⟨Below.refl _ _, rfl⟩
    refine dZ 3 [_,_,_] ?_
    refine dB [_,_,_,_] ?_
    refine px [_,_,_,_] ?_
    refine a6 ?_
    intro f W hJ hV
    have hb_10 := hJ.bl
    obtain ⟨v52, v51, v50, v49, v48, v47, v46, v45, v44, v43, v42, v41, v40, v39, _⟩ := hV
    obtain ⟨A52, c52, e52, f52⟩ : Rows _ _ _ (f 13) W := v52
    replace hh := hJ.hp
    refine aK (a4 (aa e52 (aa v51 (aa v50 (aa v49 (aa v48 (aa v47 (aa v46 (aa v45 (aa v44 (aa v43 (aa v42 (aa v41 (aa v40 (aa v39 aM))))))))))))))) ?_
    dsimp only [bX]
    clear e52 hJ
    refine bG hh (i := 5) rfl rfl rfl (f52) aF.out aA.out rfl (by decide) (by first | rfl | exact bQ _ | exact bF _ | exact oneCells_i64s _ | exact bf NR.one _) (by omega) (by omega) (by decide) ?_
    intro A53 c53 w53 hh
    simp only [List.set_cons_zero, List.set_cons_succ] at hh
    refine aL (aC (aT (ai (aq ?_))))
    refine bL (mI (aC (ai ?_)))
    replace hh := hh.sub (List.Sublist.cons_cons _ (List.Sublist.cons_cons _ (List.Sublist.cons _ (List.Sublist.cons _ (List.Sublist.cons _ (List.Sublist.cons_cons _ (List.Sublist.cons_cons _ (List.Sublist.cons_cons _ (List.Sublist.cons_cons _ List.Sublist.slnil)))))))))
    replace hh := hh.perm (List.perm_middle (l₁ := [_, _]))
    simp only [List.cons_append, List.nil_append] at hh
    have hft : oO j y.d x = ⟨str (x.m.data.toList.take j ++ x.m.data.toList.drop (j + 1)), nR (x.c.d * y.d ^ e.toNat)⟩ := by unfold oO; rw [he]
    refine ⟨⟨i + 1, M ++ [oO j y.d x], A53, c53, A2, m2, c3, by omega, rfl, by rw [hM]; unfold iA; rw [aN hx, List.map_append]; rfl, by rw [List.length_append]; rfl, hm2, by rw [List.length_append, bS, gk, hft]; exact hh⟩, by show pn - (i + 1) < pn - i; omega, ?_⟩
    (repeat (first | exact aw _ _ _ | refine ax rfl ?_ | refine au rfl ?_))
   ·obtain rfl : i = pn := by omega
    rw [List.take_of_length_le (by omega)] at hM
    have hmk : iT (pv - 1) M = 0 ∧ fT (k + 128000) M ∧ ∀ t ∈ M, t.m.size ≤ 100000 := by
     rw [hM]
     exact u7 hpe okp szp (by omega) (by omega) hy.2 hk
    have hmc := fun A c w1 hT1 hS1 => j0 (pv - 1) A M.length c M (k + 128000) w1 hT1 hS1 (by omega) (by omega) hmk.2.1 hmk.2.2
    rw [hmk.1] at hmc
    refine sr ?_
    refine aW (ae (ah (cF ?_)))
    refine aO ?_
    refine ay (ay (a8 (ai (sr (bB ?_)))))
    refine bE hh 5 ?_
    refine eA (mL ?_)
    refine aR (hmc _ _ _ (hT.hp hh) (hh.aJ (i := 0) rfl)) ar.out rfl (by decide) ?_
    rintro e_ w59 ⟨g, og, rfl, h3⟩
    refine ⟨_, rfl, ?_⟩
    replace hh := hh.join h3
    simp only [List.cons_append, List.nil_append] at hh
    refine dx ?_
    refine dx ?_
    refine bD hh 4 [_,_] ?_
    intro ws hh
    replace hh : Hp _ (_ :: _ :: _ :: _ :: .blk _ _ [_, _] _ :: _) _ := hh
    refine aI (ae (al ?_))
    refine iV (aH rfl (aG (vs := [_, _]) aA.out (hh.av (i := 4) (n := 2) rfl rfl) rfl) (cb (cv rfl) a9)) ?_
    rw [hM] at og
    exact ⟨g, og, rfl, hh.sub (List.Sublist.cons_cons _ (List.nil_sublist _))⟩
 ·generalize gf p which = e at *
  refine aj (N := 62) (l := [.agg #[.int .i64 p.v, .slice p.A p.n p.c], .int .i64 which, .agg #[.bool y.neg, .string y.bu, .int .i64 y.e]]) Tryz.func24 rfl rfl (by simp) ?_
  refine sr ?_
  refine cz hh [_,_] ?_
  intro b3 w3 hh
  refine cz hh [_,_,_] ?_
  intro b5 w5 hh
  refine cj hh ?_
  intro b6 w6 hh
  refine aI (ae (ah (sr ?_)))
  refine cB hh 2 [_,_] (mI ?_)
  refine bA hh (hck _ (hT.hp hh) hh.below) rfl ?_
  intro w16 hh
  refine aI (ae (sr (mI ?_)))
  refine cQ (ae (cT (sr ?_)))
  refine eH [_,_] (mI ?_)
  refine bD hh 0 [_,_] ?_
  intro ws hh
  replace hh : Hp _ (.blk _ _ [_, _] _ :: _) _ := hh
  refine aI (ae (al (aD ?_)))
  refine iV (aH rfl (aG (vs := [_, _]) aA.out (hh.av (i := 0) (n := 2) rfl rfl) rfl) (cb (cv rfl) a9)) ?_
  exact ⟨PX.nil, cZ.err h0, rfl, (hh.sub (List.nil_sublist _)).iW⟩
end Go.Proofs.YtaapkaefelhfcaaGreatDoor
/- The walk through calc.Eval. -/
namespace Go.Proofs.YtaapkaefelhfcaaGreatDoor
open Go.RowKit
def wi (xs : List NR) (m : ByteArray) (k : Nat) : Dyadic := match xs[k]?, m.data.toList[k]? with | some x, some e => x.d ^ e.toNat | _, _ => 1
def uu (c : Dyadic) (xs : List NR) (m : ByteArray) : Nat → Dyadic
 | 0 => c
 | k + 1 => uu c xs m k * wi xs m k
def ja (xs : List NR) (ts : List TR) : Nat → Dyadic
 | 0 => 0
 | i + 1 => ja xs ts i + (match ts[i]? with | some t => uu t.c.d xs t.m xs.length | none => 0)
def il (p : PX) (n : Nat) : Int := if p.e = 0 then (if (n : Int) = p.v then 0 else 1) else p.e
def gX (p : PX) (xs : List NR) : NR := if il p xs.length = 0 then nR (ja xs p.ts p.ts.length) else nR 0
abbrev xx := Option Addr × Nat × Nat
def tE (ks : List xx) : List Value := ks.map fun k => .slice k.1 k.2.1 k.2.2
def B8 (y : NR) (k : xx) : HE := .row k.1 k.2.1 k.2.2 29 3 (aP NR.cells (l6 y.d k.2.1))
def xt (ys : List NR) (ks : List xx) : List HE := List.zipWith B8 ys ks
theorem vQ {w0 w : World} {H : List HE} (hh : Hp w0 H w) : ∀ ys : List NR, Hp w0 (xt ys (List.replicate ys.length (none, 0, 0)) ++ H) w
 | [] => hh
 | y :: ys => (vQ hh ys).dK 29 3
theorem z6 (ks : List xx) : (tE ks).length = ks.length := List.length_map ..
theorem Ag (ks : List xx) (i : Nat) (k : xx) : tE (ks.set i k) = (tE ks).set i (.slice k.1 k.2.1 k.2.2) := by unfold tE; rw [List.map_set]
theorem mr {α : Type} : ∀ {l : List α} {i : Nat} {a : α}, l[i]? = some a → l.Perm (a :: l.eraseIdx i)
 | [], i, a, h => by cases h
 | b :: l, 0, a, h => by cases h; exact List.Perm.refl _
 | b :: l, i + 1, a, h => ((mr (l := l) (i := i) h).cons b).trans (.swap _ _ _)
theorem yj {ys : List NR} {ks : List xx} {i : Nat} {y : NR} {k : xx} (hy : ys[i]? = some y) (hk : ks[i]? = some k) : (xt ys ks)[i]? = some (B8 y k) := by
 unfold xt
 rw [List.getElem?_zipWith, hy, hk]
theorem qo : ∀ {ys : List NR} {ks : List xx} {i : Nat} {k : xx}, (xt ys (ks.set i k)).eraseIdx i = (xt ys ks).eraseIdx i
 | [], _, _, _ => by unfold xt; simp
 | _ :: _, [], _, _ => by unfold xt; simp
 | y :: ys, k0 :: ks, 0, k => rfl
 | y :: ys, k0 :: ks, i + 1, k => by
  show B8 y k0 :: (xt ys (ks.set i k)).eraseIdx i = B8 y k0 :: (xt ys ks).eraseIdx i
  rw [qo]
theorem vU {xs : List NR} {m : ByteArray} {k : Nat} {x : NR} {e : UInt8} (hx : xs[k]? = some x) (he : m.data.toList[k]? = some e) : wi xs m k = x.d ^ e.toNat := by
 unfold wi
 rw [hx, he]
theorem nB {xs : List NR} {m : ByteArray} {c : Dyadic} {q : Nat} (hc : Sz q c) (hq : q ≤ 1000) (hx : ∀ x ∈ xs, Sz q x.d) (hm : ef m.data.toList = true) : ∀ k, Sz (q + 128000 * k) (uu c xs m k)
 | 0 => hc
 | k + 1 => by
  refine ((nB hc hq hx hm k).mul (l := 128000) ?_).mono (by omega)
  unfold wi
  split
  ·rename_i x e h1 h2
   have he := g9 hm h2
   exact ((hx x (List.mem_of_getElem? h1)).pow e.toNat).mono (by have := Nat.mul_le_mul hq (show e.toNat ≤ 127 by omega); omega)
  ·exact Sz.one.mono (by omega)
theorem uS {xs : List NR} {ts : List TR} {q : Nat} (hq : q ≤ 1000) (hx : ∀ x ∈ xs, Sz q x.d) (ht : fT q ts) (hm : ∀ t ∈ ts, ef t.m.data.toList = true) (hl : xs.length ≤ 12) : ∀ i, Sz (1600000 + i) (ja xs ts i)
 | 0 => Sz.zero _
 | i + 1 => by
  show Sz (1600000 + i + 1) (ja xs ts i + _)
  refine (uS hq hx ht hm hl i).add ?_
  split
  ·rename_i t h
   exact (nB (ht t (List.mem_of_getElem? h)).2 hq hx (hm t (List.mem_of_getElem? h)) xs.length).mono (by omega)
  ·exact Sz.zero _
def Cm (w : World) (b : Nat) : Nat := match w.heap[b]? with | some (.stringIter _ p) => p | _ => 0
theorem yh {w0 w : World} {H : List HE} (hh : Hp w0 H w) {i b p : Nat} {s : ByteArray} (hi : H[i]? = some (.it b s p)) : Cm w b = p := by
 unfold Cm
 rw [(hh.at_ hi).2]
theorem j8 (p : PX) (ys : List NR) (xA : Option Addr) (xn xc : Nat) (k : Nat) (w : World) (hT : gW w) (hp : p.at_ w) (lp : p.lk k) (hS : Sl w xA xn 3 (aP NR.cells ys)) (hl : ys.length = xn) (hy : ∀ y ∈ ys, y.ok ∧ Sz k y.d) (hk : k ≤ 1000) :
  Calls Tryz.prog 20 #[.agg #[.int .i64 p.v, .slice p.A p.n p.c], .slice xA xn xc] w fun r w' => r = .returned (.tuple #[.agg #[.bool (gX p ys).neg, .string (gX p ys).bu, .int .i64 (gX p ys).e], .int .i64 (il p xn)]) ∧ Below w.heap.size w w' := by
 have hh := Hp.start w
 subst hl
 have hck := fun w1 hT1 hb => lB p k w1 hT1 (hp.ext hb) lp
 unfold gX il
 by_cases h0 : p.e = 0
 ·rw [h0] at hck
  simp only [if_pos h0]
  by_cases h1 : (ys.length : Int) = p.v
  ·simp only [if_pos h1]
   obtain ⟨hf, h4, hmy, _⟩ := dW h0
   replace hf := eB.1 hf
   obtain ⟨pv, pA, pn, pc, ts⟩ := p
   replace hpl : ts.length = pn := hp.ln
   replace hp : Sl w pA pn 4 (aP TR.cells ts) := hp
   have okp : fT k ts := lp.ok
   have szp : ∀ t ∈ ts, t.m.size ≤ 100000 := lp.sz
   replace hmy : ∀ t ∈ ts, ew pv t = true := hmy
   replace h4 : ts.length ≤ 4096 := h4
   replace hf : 0 ≤ pv ∧ pv ≤ 12 := hf
   replace h1 : (ys.length : Int) = pv := h1
   subst h1
   have hyl : ys.length ≤ 12 := by omega
   have ow : ∀ i, i ≤ 4096 → Sz 1700000 (ja ys ts i) := fun i hi => (uS hk (fun y h => (hy y h).2) okp (fun t h => (Bool.and_eq_true_iff.1 (hmy t h)).1) hyl i).mono (by omega)
   show Calls _ _ _ _ fun r w' => r = .returned (.tuple #[.agg #[.bool (nR (ja ys ts ts.length)).neg, .string (nR (ja ys ts ts.length)).bu, .int .i64 (nR (ja ys ts ts.length)).e], .int .i64 0]) ∧ Below w.heap.size w w'
   refine aj (N := 64) (l := [.agg #[.int .i64 ys.length, .slice pA pn pc], .slice xA ys.length xc]) Tryz.func20 rfl rfl (by simp) ?_
   refine sr ?_
   refine cz hh [_,_] ?_
   intro b2 w2 hh
   refine cj hh ?_
   intro b4 w4 hh
   refine aI (ae (ah (sr ?_)))
   refine cB hh 1 [_,_] ?_
   refine bA hh (hck _ (hT.hp hh) hh.below) rfl ?_
   intro w15 hh
   refine aI (ae (sr (mI ?_)))
   refine cQ (ae (cF (ak (ai (ah (sr (mL (a0 (bB ?_)))))))))
   refine bE hh 1 ?_
   refine cQ (ae (cF (ak (ai (sr (mL (a0 ?_)))))))
   refine gI (n := ys.length) hh rfl rfl (by omega) (by omega) aF.out aA.out rfl (by omega) (by omega) (by decide) ?_
   intro b28 w28 hh
   refine aL (ae (sr ?_))
   refine cj hh ?_
   intro b8 w8 hh
   refine ae (ah (sr (bB ?_)))
   refine bE hh 3 ?_
   refine a0 (mI (ae (ao ?_)))
   rw [nH, show List.replicate ys.length (Value.slice none 0 0) = tE (List.replicate ys.length (none, 0, 0)) by unfold tE; rw [List.map_replicate]] at hh
   replace hh := (vQ hh ys).perm List.perm_append_comm
   simp only [List.cons_append, List.nil_append] at hh
   refine bs [10, 11, 12, 13, 32, 33, 34, 35, 36, 37, 38, 39, 40, 41, 42, 43, 44, 45, 46, 47, 48, 49, 50, 51, 52, 53, 54, 55, 56, 57, 58, 59, 60, 61, 62] 32
    (fun v w' => ∃ (i : Nat) (ks : List xx), i ≤ pn ∧ v = .int .i64 i ∧ ks.length = ys.length ∧ (∀ q ∈ ks, q.2.1 ≤ 1000) ∧ Hp w (.blk b8 29 [.bool (nR (ja ys ts i)).neg, .string (nR (ja ys ts i)).bu, .int .i64 (nR (ja ys ts i)).e] (0, 0) :: .row (some ⟨b28, 0, none⟩) ys.length ys.length 109 1 (tE ks) :: .blk b4 29 [.bool false, .string (ByteArray.mk #[]), .int .i64 0] (0, 0) :: .blk b2 24 [.int .i64 ys.length, .slice pA pn pc] (0, 0) :: xt ys ks) w')
    (fun v _ => pn - (intOf v).toNat) ?_ ?_
   ·exact ⟨0, _, Nat.zero_le _, rfl, List.length_replicate, fun q hq => by rw [List.eq_of_mem_replicate hq]; exact Nat.zero_le _, hh⟩
   ·clear hh
    rintro ρ' v w' ⟨i, ks, hi, rfl, hkl, hkm, hh⟩
    by_cases hlt : i < pn
    ·obtain ⟨x, hx⟩ := aE (l := ts) (k := i) (by omega)
     obtain ⟨ad, rfl, hr⟩ := hp.at_ (by omega)
     have hxo := okp x (List.mem_of_getElem? hx)
     have hmx := Bool.and_eq_true_iff.1 (hmy x (List.mem_of_getElem? hx))
     have hxz : (x.m.size : Int) = ys.length := of_decide_eq_true hmx.2
     refine sr ?_
     refine aW (ae (ah (cT (ak (ai (ah (ao (sr ?_))))))))
     refine aQ (k := i) aF.out aA.size rfl rfl (by omega) (by omega) (by decide) ?_
     refine bR (vs := [_, _, _, _]) aA.out rfl ((hr.ext hh.below).recAt TR.len hx) rfl (by decide) ?_
     refine cj hh ?_
     intro b10 w10 hh
     refine bD hh 0 [_,_,_,_] ?_
     intro ws hh
     replace hh : Hp _ (.blk _ _ [_, _, _, _] _ :: _) _ := hh
     refine ae (sr (bB ?_))
     refine cB hh 0 [_,_,_] ?_
     refine cj hh ?_
     intro b11 w11 hh
     refine bD hh 0 [_,_,_] ?_
     intro ws hh
     replace hh : Hp _ (.blk _ _ [_, _, _] _ :: _) _ := hh
     refine ae (ah (sr (bB ?_)))
     refine bE hh 1 ?_
     refine lR hh aF.out rfl (by decide) ?_
     intro b40 w40 hh
     skip
     refine ae (ao ?_)
     refine n4 [12, 13, 41, 42, 43, 44, 45, 46, 47, 48, 49, 50, 51, 52, 53, 54, 55, 56, 57]
      (fun w' => ∃ (q : Nat) (z : NR) (ks : List xx), q ≤ ys.length ∧ z.ok ∧ z.d = uu x.c.d ys x.m q ∧ ks.length = ys.length ∧ (∀ q ∈ ks, q.2.1 ≤ 1000) ∧ Hp w (.it b40 x.m q :: .blk b11 29 [.bool z.neg, .string z.bu, .int .i64 z.e] (0, 0) :: .blk b10 55 [.string x.m, .bool x.c.neg, .string x.c.bu, .int .i64 x.c.e] (0, 0) :: .blk b8 29 [.bool (nR (ja ys ts i)).neg, .string (nR (ja ys ts i)).bu, .int .i64 (nR (ja ys ts i)).e] (0, 0) :: .row (some ⟨b28, 0, none⟩) ys.length ys.length 109 1 (tE ks) :: .blk b4 29 [.bool false, .string (ByteArray.mk #[]), .int .i64 0] (0, 0) :: .blk b2 24 [.int .i64 ys.length, .slice (some ad) pn pc] (0, 0) :: xt ys ks) w')
      (fun w' => ys.length - Cm w' b40) ?_ ?_
     ·exact ⟨0, x.c, ks, Nat.zero_le _, hxo.1, rfl, hkl, hkm, hh⟩
     ·clear hh hkl hkm
      rintro ρ' w' ⟨q, z, ks, hq, hzo, hzd, hkl, hkm, hh⟩
      have hit := yh hh (i := 0) rfl
      have hzs : Sz 1600000 z.d := by rw [hzd]; exact (nB hxo.2 hk (fun y h => (hy y h).2) hmx.1 q).mono (by omega)
      by_cases hlq : q < ys.length
      ·obtain ⟨y, hyq⟩ := aE (l := ys) (k := q) hlq
       obtain ⟨⟨ka, km, kc⟩, hkq⟩ := aE (l := ks) (k := q) (by omega)
       obtain ⟨xad, rfl, hxr⟩ := hS.at_ (by omega)
       obtain ⟨e, he⟩ := aE (l := x.m.data.toList) (k := q) (by rw [← bZ]; omega)
       have he8 := g9 hmx.1 he
       have hyo := hy y (List.mem_of_getElem? hyq)
       have hkm0 : km ≤ 1000 := hkm _ (List.mem_of_getElem? hkq)
       have hqk : q < (tE ks).length := by rw [z6]; omega
       have zp : Sz 128000 (y.d ^ e.toNat) := (hyo.2.pow e.toNat).mono (by have := Nat.mul_le_mul hk (show e.toNat ≤ 127 by omega); omega)
       have hdm := fun A cc w1 hT1 hS1 => gC A 2 cc [z, nR (y.d ^ e.toNat)] w1 hT1 hS1 (by simpa using ⟨hzo, zp.ok (by decide)⟩) 1600000 (by simpa [dy] using ⟨hzs, zp.mono (by decide)⟩) (by decide) (by decide)
       rw [show gU ([z, nR (y.d ^ e.toNat)].map NR.d) = z.d * y.d ^ e.toNat by show 1 * z.d * (nR _).d = _; rw [dy, Dyadic.one_mul]] at hdm
       have hcq : (tE ks)[q]? = some (.slice ka km kc) := by unfold tE; rw [List.getElem?_map, hkq]; rfl
       refine sr ?_
       refine l4 hh (i := 0) rfl rfl he he8 (by decide) ?_
       intro w41 hh
       simp only [List.set_cons_zero] at hh
       skip
       refine dx ?_
       refine ae (ah (cT (ak (ai (ao (sr ?_))))))
       refine dx ?_
       refine dx ?_
       refine aI (aI (ae ?_))
       replace hh := hh.perm (List.perm_middle (l₁ := [_, _, _, _]))
       simp only [List.cons_append, List.nil_append] at hh
       replace hh := hh.perm (((mr (yj hyq hkq)).append_left [_, _, _, _, _, _, _]).trans (List.perm_middle.trans (.swap _ _ _)))
       rw [← nY hcq] at hh
       have mb11 : (.blk b11 29 [.bool z.neg, .string z.bu, .int .i64 z.e] (0, 0) : HE) ∈ (.it b40 x.m (q + 1) :: .blk b11 29 [.bool z.neg, .string z.bu, .int .i64 z.e] (0, 0) :: .blk b10 55 [.string x.m, .bool x.c.neg, .string x.c.bu, .int .i64 x.c.e] (0, 0) :: .blk b8 29 [.bool (nR (ja ys ts i)).neg, .string (nR (ja ys ts i)).bu, .int .i64 (nR (ja ys ts i)).e] (0, 0) :: .blk b4 29 [.bool false, .string (ByteArray.mk #[]), .int .i64 0] (0, 0) :: .blk b2 24 [.int .i64 ys.length, .slice (some ad) pn pc] (0, 0) :: (xt ys ks).eraseIdx q) := by simp
       refine xS 13 (fun i => [45, 46, 47, 48, 49, 50, 51, 52, 53, 54, 55, 56, 57].getD i 0) (fun i => [jr (.agg #[.bool z.neg, .string z.bu, .int .i64 z.e]), jr (.slice (some ⟨b28, 0, none⟩) ys.length ys.length), jr (.int .i64 q), jr (.pointer (some ⟨b28, q * 1, none⟩)), jr (.slice (some xad) ys.length xc), jr (.int .i64 q), jr (.pointer (some (xad.add (q * 3)))), jr (.agg #[.bool y.neg, .string y.bu, .int .i64 y.e]), jr (.int .i32 e.toNat), jr (.int .i64 e.toNat), fun v R => v = .agg #[.bool (nR (y.d ^ e.toNat)).neg, .string (nR (y.d ^ e.toNat)).bu, .int .i64 (nR (y.d ^ e.toNat)).e] ∧ ∃ (A2 : Option Addr) (m2 c3 : Nat), m2 ≤ 1000 ∧ R = [.row (some ⟨b28, 0, none⟩) ys.length ys.length 109 1 ((tE ks).set q (.slice A2 m2 c3)), .row A2 m2 c3 29 3 (aP NR.cells (l6 y.d m2))], fun v R => ∃ b : Nat, v = .slice (some ⟨b, 0, none⟩) 2 2 ∧ R = [.row (some ⟨b, 0, none⟩) 2 2 29 3 (aP NR.cells [z, nR (y.d ^ e.toNat)])], jr (.agg #[.bool (nR (z.d * y.d ^ e.toNat)).neg, .string (nR (z.d * y.d ^ e.toNat)).bu, .int .i64 (nR (z.d * y.d ^ e.toNat)).e])].getD i (jr undef)) (fun i => [[], [], [], [], [], [], [], [], [], [], [.row (some ⟨b28, 0, none⟩) ys.length ys.length 109 1 ((tE ks).set q (.slice ka km kc)), .row ka km kc 29 3 (aP NR.cells (l6 y.d km))], [], []].getD i []) (.it b40 x.m (q + 1) :: .blk b11 29 [.bool z.neg, .string z.bu, .int .i64 z.e] (0, 0) :: .blk b10 55 [.string x.m, .bool x.c.neg, .string x.c.bu, .int .i64 x.c.e] (0, 0) :: .blk b8 29 [.bool (nR (ja ys ts i)).neg, .string (nR (ja ys ts i)).bu, .int .i64 (nR (ja ys ts i)).e] (0, 0) :: .blk b4 29 [.bool false, .string (ByteArray.mk #[]), .int .i64 0] (0, 0) :: .blk b2 24 [.int .i64 ys.length, .slice (some ad) pn pc] (0, 0) :: (xt ys ks).eraseIdx q) _ hh (List.Perm.refl _) mixed (by kernel_rfl) rfl ⟨⟨⟨⟨⟨⟨⟨⟨⟨⟨⟨⟨⟨trivial, ?s0⟩, ?s1⟩, ?s2⟩, ?s3⟩, ?s4⟩, ?s5⟩, ?s6⟩, ?s7⟩, ?s8⟩, ?s9⟩, ?s10⟩, ?s11⟩, ?s12⟩ ?fin
       case s0 => exact ⟨_, rfl, fun ρ1 w1 F R ha hd hr (hh : Hp w F w1) => bY rfl (kX (vs := [_, _, _]) aA.out (ha 11 (by decide)) (hh.uV (n := 3) (hr _ mb11) rfl) rfl) ⟨[], ⟨rfl, rfl⟩, hh⟩⟩
       case s1 => exact ⟨_, rfl, fun ρ1 w1 F R ha hd hr (hh : Hp w F w1) => bY rfl (df (ha 7 (by decide))) ⟨[], ⟨rfl, rfl⟩, hh⟩⟩
       case s2 => exact ⟨_, rfl, fun ρ1 w1 F R ha hd hr (hh : Hp w F w1) => bY rfl (df (ha 12 (by decide))) ⟨[], ⟨rfl, rfl⟩, hh⟩⟩
       case s3 => exact ⟨_, rfl, fun ρ1 w1 F R ha hd hr (hh : Hp w F w1) => bY rfl (kV (k := q) aF.out aA.size (show jr (.slice (some ⟨b28, 0, none⟩) ys.length ys.length) (ρ1 46) (R 1) from (hd 1 rfl).1).1 (show jr (.int .i64 q) (ρ1 47) (R 2) from (hd 2 rfl).1).1 (by omega) (by omega)) ⟨[], ⟨rfl, rfl⟩, hh⟩⟩
       case s4 => exact ⟨_, rfl, fun ρ1 w1 F R ha hd hr (hh : Hp w F w1) => bY rfl (df (ha 1 (by decide))) ⟨[], ⟨rfl, rfl⟩, hh⟩⟩
       case s5 => exact ⟨_, rfl, fun ρ1 w1 F R ha hd hr (hh : Hp w F w1) => bY rfl (df (ha 12 (by decide))) ⟨[], ⟨rfl, rfl⟩, hh⟩⟩
       case s6 => exact ⟨_, rfl, fun ρ1 w1 F R ha hd hr (hh : Hp w F w1) => bY rfl (ea (k := q) aF.out aA.size (show jr (.slice (some xad) ys.length xc) (ρ1 49) (R 4) from (hd 4 rfl).1).1 (show jr (.int .i64 q) (ρ1 50) (R 5) from (hd 5 rfl).1).1 (by omega) (by omega)) ⟨[], ⟨rfl, rfl⟩, hh⟩⟩
       case s7 => exact ⟨_, rfl, fun ρ1 w1 F R ha hd hr (hh : Hp w F w1) => bY rfl (kX (vs := [_, _, _]) aA.out (show jr (.pointer (some (xad.add (q * 3)))) (ρ1 51) (R 6) from (hd 6 rfl).1).1 ((hxr.ext hh.below).recAt NR.len hyq) rfl) ⟨[], ⟨rfl, rfl⟩, hh⟩⟩
       case s8 => exact ⟨_, rfl, fun ρ1 w1 F R ha hd hr (hh : Hp w F w1) => bY rfl (df (ha 13 (by decide))) ⟨[], ⟨rfl, rfl⟩, hh⟩⟩
       case s9 => exact ⟨_, rfl, fun ρ1 w1 F R ha hd hr (hh : Hp w F w1) => bY rfl (jF aF.out aF.out (show jr (.int .i32 e.toNat) (ρ1 53) (R 8) from (hd 8 rfl).1).1 (by omega) (by omega)) ⟨[], ⟨rfl, rfl⟩, hh⟩⟩
       case s10 => exact ⟨_, rfl, fun ρ1 w1 F R ha hd hr hh => bU rfl (a3 ar.out (az (show jr (.pointer (some ⟨b28, q * 1, none⟩)) (ρ1 48) (R 3) from (hd 3 rfl).1).1 (az (show jr (.agg #[.bool y.neg, .string y.bu, .int .i64 y.e]) (ρ1 52) (R 7) from (hd 7 rfl).1).1 (az (show jr (.int .i64 e.toNat) (ρ1 54) (R 9) from (hd 9 rfl).1).1 a7)))) (o5 (cC (g := b28) (m := ys.length) (c := ys.length) (i := q) (t := 109) (xs := tE ks) hqk) y e.toNat km ka kc k w1 hT hh (by omega) hkm0 hyo hk) fun r w2 ⟨h1, A2, m2, c3, h2, h3⟩ => ⟨_, h1, [_, _], ⟨rfl, A2, m2, c3, h2, rfl⟩, h3⟩⟩
       case s11 => exact ⟨_, rfl, fun ρ1 w1 F R ha hd hr (hh : Hp w F w1) => pX (sz := 3) (cs := aP NR.cells [z, nR (y.d ^ e.toNat)]) hh aF.out aA.out (show pf ρ1 [(0, .tmp 45), (1, .tmp 55)] = [(0, .agg #[.bool z.neg, .string z.bu, .int .i64 z.e]), (1, .agg #[.bool (nR (y.d ^ e.toNat)).neg, .string (nR (y.d ^ e.toNat)).bu, .int .i64 (nR (y.d ^ e.toNat)).e])] from br (show ρ1 45 = _ from (show jr (.agg #[.bool z.neg, .string z.bu, .int .i64 z.e]) (ρ1 45) (R 0) from (hd 0 rfl).1).1) (br (show ρ1 55 = _ from (hd 10 rfl).1.1) ct)) rfl rfl (by decide) (by decide) (by decide) rfl fun b w2 h2 => ⟨[_], ⟨b, rfl, rfl⟩, h2⟩⟩
       case s12 => exact ⟨_, rfl, fun ρ1 w1 F R ha hd hr (hh : Hp w F w1) => let ⟨b, e9, r9⟩ := (show ∃ b : Nat, ρ1 56 = .slice (some ⟨b, 0, none⟩) 2 2 ∧ R 11 = [.row (some ⟨b, 0, none⟩) 2 2 29 3 (aP NR.cells [z, nR (y.d ^ e.toNat)])] from (hd 11 rfl).1); bU rfl (a3 ar.out (az e9 a7)) (hdm _ _ w1 (hT.hp hh) (hh.x4 ((hd 11 rfl).2 _ (r9 ▸ List.mem_cons_self)))) fun r w2 hq => ⟨_, hq.1, [], ⟨rfl, rfl⟩, hh.ext hq.2⟩⟩
       clear hh
       rintro f R W ⟨⟨⟨⟨⟨⟨⟨⟨⟨⟨⟨⟨⟨-, s0⟩, s1⟩, s2⟩, s3⟩, s4⟩, s5⟩, s6⟩, s7⟩, s8⟩, s9⟩, s10⟩, s11⟩, s12⟩ hh
       obtain ⟨e0, r0⟩ := s0
       obtain ⟨e1, r1⟩ := s1
       obtain ⟨e2, r2⟩ := s2
       obtain ⟨e3, r3⟩ := s3
       obtain ⟨e4, r4⟩ := s4
       obtain ⟨e5, r5⟩ := s5
       obtain ⟨e6, r6⟩ := s6
       obtain ⟨e7, r7⟩ := s7
       obtain ⟨e8, r8⟩ := s8
       obtain ⟨e9, r9⟩ := s9
       obtain ⟨e10, A2, m2, c3, hm2, r10⟩ := s10
       obtain ⟨b56, e11, r11⟩ := s11
       obtain ⟨e12, r12⟩ := s12
       rw [show List.range 13 = [0, 1, 2, 3, 4, 5, 6, 7, 8, 9, 10, 11, 12] from rfl] at hh
       simp only [List.flatMap_cons, List.flatMap_nil, r0, r1, r2, r3, r4, r5, r6, r7, r8, r9, r10, r11, r12, List.nil_append, List.append_nil, List.cons_append] at hh
       refine aK (a4 (aa e12 (aa e11 (aa e10 (aa e9 (aa e8 (aa e7 (aa e6 (aa e5 (aa e4 (aa e3 (aa e2 (aa e1 (aa e0 aM)))))))))))))) ?_
       dsimp only [bX]
       refine bD hh 4 [_,_,_] ?_
       intro ws hh
       replace hh : Hp _ (_ :: _ :: _ :: _ :: .blk _ _ [_, _, _] _ :: _) _ := hh
       refine aC (aT (ai ?_))
       have hz2 : Sz 1728000 (z.d * y.d ^ e.toNat) := (hzs.mul zp).mono (by omega)
       have e1 : (tE ks).set q (.slice A2 m2 c3) = tE (ks.set q (A2, m2, c3)) := (Ag ks q (A2, m2, c3)).symm
       have hpk := mr (yj hyq (show (ks.set q (A2, m2, c3))[q]? = some (A2, m2, c3) from List.getElem?_set_self (by omega)))
       rw [qo] at hpk
       rw [e1] at hh
       replace hh := hh.perm (List.perm_middle (l₁ := [_]))
       simp only [List.cons_append, List.nil_append] at hh
       replace hh := hh.perm (List.perm_middle (l₁ := [_, _, _, _, _, _, _, _]))
       simp only [List.cons_append, List.nil_append] at hh
       replace hh := hh.perm (List.perm_middle (l₁ := [_, _, _, _, _, _, _, _]))
       simp only [List.cons_append, List.nil_append] at hh
       replace hh := hh.perm (List.perm_middle (l₁ := [_, _, _]))
       simp only [List.cons_append, List.nil_append] at hh
       replace hh := hh.perm (List.perm_middle (l₁ := [_, _, _, _, _, _, _, _]))
       simp only [List.cons_append, List.nil_append] at hh
       replace hh := hh.perm (List.perm_middle (l₁ := [_, _, _, _, _, _, _, _]))
       simp only [List.cons_append, List.nil_append] at hh
       replace hh := hh.perm (List.perm_middle (l₁ := [_, _, _, _, _, _, _, _]))
       simp only [List.cons_append, List.nil_append] at hh
       replace hh := hh.perm (List.perm_middle (l₁ := [_, _, _, _, _, _, _, _]))
       simp only [List.cons_append, List.nil_append] at hh
       replace hh := hh.sub (.cons_cons _ (.cons_cons _ (.cons_cons _ (.cons_cons _ (.cons_cons _ (.cons_cons _ (.cons_cons _ (.cons_cons _ (.cons _ (List.Sublist.refl _))))))))))
       have hit2 := yh hh (i := 0) rfl
       refine ⟨⟨q + 1, nR (z.d * y.d ^ e.toNat), ks.set q (A2, m2, c3), by omega, hz2.ok (by decide), by rw [dy]; show _ = uu x.c.d ys x.m q * wi ys x.m q; rw [← hzd, vU hyq he], by rw [List.length_set]; exact hkl, fun r hr => ?_, hh.perm (hpk.symm.append_left [_, _, _, _, _, _, _])⟩, by rw [hit, hit2]; omega, ?_⟩
       ·rcases List.mem_or_eq_of_mem_set hr with h | rfl
        ·exact hkm r h
        ·exact hm2
       ·(repeat (first | exact aw _ _ _ | refine ax rfl ?_ | refine au rfl ?_))
      ·obtain rfl : q = ys.length := by omega
       have hsm := fun A cc w1 hT1 hS1 => oZ A 2 cc [nR (ja ys ts i), z] w1 hT1 hS1 (by simpa using ⟨(ow i (by omega)).ok (by decide), hzo⟩) 1700000 (by simpa [dy] using ⟨ow i (by omega), hzs.mono (by decide)⟩) (by decide)
       rw [show mn ([nR (ja ys ts i), z].map NR.d) = ja ys ts (i + 1) by simp only [List.map_cons, List.map_nil, sg, dy]; show _ = ja ys ts i + _; rw [hx, hzd]] at hsm
       refine sr ?_
       refine lQ hh (i := 0) rfl rfl (by omega) (by decide) ?_
       skip
       refine dx ?_
       refine ae (ah (cF ?_))
       refine aO ?_
       refine ay (ay (a8 (ai (aq ?_))))
       refine cB hh 3 [_,_,_] ?_
       refine cB hh 1 [_,_,_] ?_
       refine bO hh (cs := [_, _, _, _, _, _]) aF.out aA.out (br (ez rfl) (br (ez rfl) ct)) rfl rfl (by decide) (by decide) (by decide) rfl (by decide) ?_
       intro b60 w60 hh
       refine bA hh (hsm _ _ _ (hT.hp hh) (hh.aJ (i := 0) rfl)) rfl ?_
       intro w61 hh
       refine bD hh 4 [_,_,_] ?_
       intro ws hh
       replace hh : Hp _ (_ :: _ :: _ :: _ :: .blk _ _ [_, _, _] _ :: _) _ := hh
       refine aC (aT (ai (aq ?_)))
       refine bL (mI (aC (ai ?_)))
       replace hh := hh.sub (List.Sublist.cons _ (List.Sublist.cons _ (List.Sublist.cons _ (List.Sublist.cons _ (List.Sublist.cons_cons _ (List.Sublist.cons_cons _ (List.Sublist.cons_cons _ (List.Sublist.cons_cons _ (List.Sublist.refl _)))))))))
       refine ⟨⟨i + 1, ks, by omega, rfl, hkl, hkm, hh⟩, by show pn - (i + 1) < pn - i; omega, ?_⟩
       (repeat (first | exact aw _ _ _ | refine ax rfl ?_ | refine au rfl ?_))
    ·obtain rfl : i = pn := by omega
     refine sr ?_
     refine aW (ae (ah (cF ?_)))
     refine aO ?_
     refine ay (ay (a8 (ai (sr ?_))))
     refine cB hh 0 [_,_,_] ?_
     refine bD hh 2 [_,_,_] ?_
     intro ws hh
     replace hh : Hp _ (_ :: _ :: .blk _ _ [_, _, _] _ :: _) _ := hh
     refine aI (ae (al ?_))
     refine iV (aH rfl (aG (vs := [_, _, _]) aA.out (hh.av (i := 2) (n := 3) rfl rfl) rfl) (cb (cv rfl) a9)) ?_
     exact ⟨by rw [hpl], hh.below⟩
  ·simp only [if_neg h1]
   rw [if_neg (by decide)]
   refine aj (N := 64) (l := [.agg #[.int .i64 p.v, .slice p.A p.n p.c], .slice xA ys.length xc]) Tryz.func20 rfl rfl (by simp) ?_
   refine sr ?_
   refine cz hh [_,_] ?_
   intro b2 w2 hh
   refine cj hh ?_
   intro b4 w4 hh
   refine aI (ae (ah (sr ?_)))
   refine cB hh 1 [_,_] ?_
   refine bA hh (hck _ (hT.hp hh) hh.below) rfl ?_
   intro w15 hh
   refine aI (ae (sr (mI ?_)))
   refine cQ (ae (cF (ak (ai (ah (sr (mL (a0 (bB ?_)))))))))
   refine bE hh 1 ?_
   refine cQ (ae (cT (sr ?_)))
   refine eH [_,_,_] ?_
   refine bD hh 0 [_,_,_] ?_
   intro ws hh
   replace hh : Hp _ (.blk _ _ [_, _, _] _ :: _) _ := hh
   refine aI (ae (al (aD ?_)))
   refine iV (aH rfl (aG (vs := [_, _, _]) aA.out (hh.av (i := 0) (n := 3) rfl rfl) rfl) (cb (cv rfl) a9)) ?_
   exact ⟨rfl, hh.below⟩
 ·simp only [if_neg h0]
  generalize p.e = e at *
  refine aj (N := 64) (l := [.agg #[.int .i64 p.v, .slice p.A p.n p.c], .slice xA ys.length xc]) Tryz.func20 rfl rfl (by simp) ?_
  refine sr ?_
  refine cz hh [_,_] ?_
  intro b2 w2 hh
  refine cj hh ?_
  intro b4 w4 hh
  refine aI (ae (ah (sr ?_)))
  refine cB hh 1 [_,_] ?_
  refine bA hh (hck _ (hT.hp hh) hh.below) rfl ?_
  intro w15 hh
  refine aI (ae (sr (mI ?_)))
  refine cQ (ae (cT (sr ?_)))
  refine eH [_,_,_] (mI ?_)
  refine bD hh 0 [_,_,_] ?_
  intro ws hh
  replace hh : Hp _ (.blk _ _ [_, _, _] _ :: _) _ := hh
  refine aI (ae (al (aD ?_)))
  refine iV (aH rfl (aG (vs := [_, _, _]) aA.out (hh.av (i := 0) (n := 3) rfl rfl) rfl) (cb (cv rfl) a9)) ?_
  exact ⟨rfl, hh.below⟩
end Go.Proofs.YtaapkaefelhfcaaGreatDoor
/- The chapter's examples of ogeelaw09, plain. -/
namespace Go.Proofs.YtaapkaefelhfcaaGreatDoor
open Go.RowKit
def qZ : ZT := [([0, 0], 2), ([2, 1], 1)]
def qS : ZT := [([0, 1], 1), ([1, 0], 1)]
theorem yX : ja [nR ((3 : Int) : Dyadic), nR ((-1 : Int) : Dyadic)] (zT qZ) 2 = ((-7 : Int) : Dyadic) := by decide +kernel
theorem zj : iU 0 (zT qZ) = zT [([1, 1], 2)] := by kernel_rfl
theorem yW : iU 1 (zT qZ) = zT [([2, 0], 1)] := by kernel_rfl
theorem zA : iA 0 ((3 : Int) : Dyadic) (zT qZ) = zT [([0], 2), ([1], 9)] := by kernel_rfl
theorem Bq : jd 2 [zT qS] 0 (zT [([2], 1)]) = (0, zT [([0, 2], 1), ([1, 1], 2), ([2, 0], 1)]) := by kernel_rfl
end Go.Proofs.YtaapkaefelhfcaaGreatDoor
/- The chapter's examples of ogeelaw09, each by its contract. -/
namespace Go.Proofs.YtaapkaefelhfcaaGreatDoor
open Go.RowKit
def mm (v : Int) (n : Nat) (ts : List TR) : VP := fun x W => ∃ g : Nat, x = .agg #[.int .i64 v, .slice (some ⟨g, 0, none⟩) n n] ∧ Sl W (some ⟨g, 0, none⟩) n 4 (aP TR.cells ts)
theorem mm.ext {v : Int} {n : Nat} {ts : List TR} (x : Value) (w w' : World) (h : mm v n ts x w) (hb : Below w.heap.size w w') : mm v n ts x w' := let ⟨g, h1, h2⟩ := h; ⟨g, h1, h2.ext hb⟩
def fG (v : Int) (n : Nat) (ts : List TR) : VP := fun x W => ∃ g : Option Addr × Nat, x = .agg #[.int .i64 v, .slice g.1 n g.2] ∧ Sl W g.1 n 4 (aP TR.cells ts)
theorem fG.ext {v : Int} {n : Nat} {ts : List TR} (x : Value) (w w' : World) (h : fG v n ts x w) (hb : Below w.heap.size w w') : fG v n ts x w' := let ⟨g, h1, h2⟩ := h; ⟨g, h1, h2.ext hb⟩
theorem BT : fy 2 (zT qZ) = 0 := rm rfl rfl (by decide)
theorem BP : fy 2 (zT qS) = 0 := rm rfl rfl (by decide)
theorem Cr : fy 1 (zT [([2], 1)]) = 0 := rm rfl rfl (by decide)
theorem vj (n : Int) (h : n.natAbs < 256) : (nR (n : Dyadic)).ok ∧ Sz 24 (nR (n : Dyadic)).d := by
 have z : Sz 24 ((n : Int) : Dyadic) := xC (m := n) (e := 0) h (by decide) (by decide)
 exact ⟨z.ok (by decide), by rw [dy]; exact z⟩
theorem B1 (A : Option Addr) (c : Nat) (B : Option Addr) (d : Nat) (w : World) (hT : gW w) (hS : Sl w A 2 4 (aP TR.cells (zT qZ))) (hc : 2 ≤ c) (hB : Sl w B 2 3 (aP NR.cells [nR ((3 : Int) : Dyadic), nR ((-1 : Int) : Dyadic)])) :
  Calls Tryz.prog 20 #[.agg #[.int .i64 2, .slice A 2 c], .slice B 2 d] w fun r w' => r = .returned (.tuple #[.agg #[.bool (nR ((-7 : Int) : Dyadic)).neg, .string (nR ((-7 : Int) : Dyadic)).bu, .int .i64 (nR ((-7 : Int) : Dyadic)).e], .int .i64 0]) ∧ Below w.heap.size w w' := by
 have h := j8 ⟨2, A, 2, c, zT qZ⟩ [nR ((3 : Int) : Dyadic), nR ((-1 : Int) : Dyadic)] B 2 d 24 w hT hS (mu rfl (by decide) hc) hB rfl (fun y hy => by
  rcases List.mem_cons.1 hy with rfl | hy
  ·exact vj 3 (by decide)
  ·rw [List.mem_singleton.1 hy]; exact vj (-1) (by decide)) (by decide)
 have he : il ⟨2, A, 2, c, zT qZ⟩ 2 = 0 := by
  unfold il
  rw [if_pos (show PX.e ⟨2, A, 2, c, zT qZ⟩ = 0 from BT)]
  rfl
 have hv : gX ⟨2, A, 2, c, zT qZ⟩ [nR ((3 : Int) : Dyadic), nR ((-1 : Int) : Dyadic)] = nR ((-7 : Int) : Dyadic) := by
  unfold gX
  rw [if_pos (show il ⟨2, A, 2, c, zT qZ⟩ [nR ((3 : Int) : Dyadic), nR ((-1 : Int) : Dyadic)].length = 0 from he)]
  exact congrArg nR yX
 rw [hv, he] at h
 exact h
theorem xW (A : Option Addr) (c : Nat) (B : Option Addr) (d : Nat) (w : World) (hT : gW w) (hS : Sl w A 2 4 (aP TR.cells (zT qS))) (hc : 2 ≤ c) (hB : Sl w B 1 3 (aP NR.cells [nR ((1 : Int) : Dyadic)])) :
  Calls Tryz.prog 20 #[.agg #[.int .i64 2, .slice A 2 c], .slice B 1 d] w fun r w' => r = .returned (.tuple #[.agg #[.bool (nR 0).neg, .string (nR 0).bu, .int .i64 (nR 0).e], .int .i64 1]) ∧ Below w.heap.size w w' := by
 have h := j8 ⟨2, A, 2, c, zT qS⟩ [nR ((1 : Int) : Dyadic)] B 1 d 24 w hT hS (mu rfl (by decide) hc) hB rfl (fun y hy => by
  rw [List.mem_singleton.1 hy]; exact vj 1 (by decide)) (by decide)
 have he : il ⟨2, A, 2, c, zT qS⟩ 1 = 1 := by
  unfold il
  rw [if_pos (show PX.e ⟨2, A, 2, c, zT qS⟩ = 0 from BP)]
  rfl
 have hv : gX ⟨2, A, 2, c, zT qS⟩ [nR ((1 : Int) : Dyadic)] = nR 0 := by
  unfold gX
  rw [show il _ [nR ((1 : Int) : Dyadic)].length = 1 from he]
  rfl
 rw [hv, he] at h
 exact h
theorem vW {A : Option Addr} {c i : Nat} : i < 2 → gf ⟨2, A, 2, c, zT qZ⟩ (i : Int) = 0 := fun hi => by
 unfold gf
 rw [if_pos (show PX.e ⟨2, A, 2, c, zT qZ⟩ = 0 from BT), if_neg]
 show ¬ ((i : Int) < 0 ∨ (2 : Int) ≤ i)
 omega
theorem B2 (K : ZT) (i : Nat) (A : Option Addr) (c : Nat) (w : World) (hT : gW w) (hS : Sl w A 2 4 (aP TR.cells (zT qZ))) (hc : 2 ≤ c) (hi : i < 2) (hd : iU i (zT qZ) = zT K) (hz : zC K = true) :
  Calls Tryz.prog 22 #[.agg #[.int .i64 2, .slice A 2 c], .int .i64 i] w fun r w' => ∃ A' c', r = .returned (.tuple #[.agg #[.int .i64 2, .slice A' K.length c'], .int .i64 0]) ∧ Hp w [.row A' K.length c' 55 4 (aP TR.cells (zT K))] w' := by
 have h := iP ⟨2, A, 2, c, zT qZ⟩ (i : Int) 24 w hT hS (mu rfl (by decide) hc) (by decide)
 rw [vW hi, show ((i : Int)).toNat = i from rfl] at h
 have e : aZ (iU i (zT qZ)) = zT K := by rw [hd, m0 (nZ hz)]
 replace h : Calls Tryz.prog 22 #[.agg #[.int .i64 2, .slice A 2 c], .int .i64 i] w fun r w' => ∃ g : PX, cZ 0 2 (aZ (iU i (zT qZ))) g ∧ r = .returned (.tuple #[.agg #[.int .i64 g.v, .slice g.A g.n g.c], .int .i64 0]) ∧ Hp w [g.row] w' := h
 rw [e] at h
 refine h.mono fun r w' ⟨g, og, hr, h3⟩ => ?_
 obtain ⟨A', c', rfl⟩ := og.zT (h3.aJ (i := 0) rfl)
 exact ⟨A', c', hr, h3⟩
theorem y3 (w : World) (hT : gW w) : Calls Tryz.prog 22 #[.agg #[.int .i64 0, .slice none 0 0], .int .i64 0] w fun r w' => ∃ g : PX, r = .returned (.tuple #[.agg #[.int .i64 g.v, .slice g.A g.n g.c], .int .i64 1]) ∧ Below w.heap.size w w' := by
 have h := iP ⟨0, none, 0, 0, []⟩ 0 24 w hT (Sl.nil _ _ _) ⟨by decide, Nat.le_refl _, (fun _ h => nomatch h), (fun _ h => nomatch h)⟩ (by decide)
 rw [show gf ⟨0, none, 0, 0, []⟩ 0 = 1 from rfl] at h
 exact h.mono fun r w' ⟨g, _, hr, h3⟩ => ⟨g, hr, h3.below⟩
theorem BU (A : Option Addr) (c : Nat) (w : World) (hT : gW w) (hS : Sl w A 2 4 (aP TR.cells (zT qZ))) (hc : 2 ≤ c) :
  Calls Tryz.prog 24 #[.agg #[.int .i64 2, .slice A 2 c], .int .i64 0, .agg #[.bool (nR ((3 : Int) : Dyadic)).neg, .string (nR ((3 : Int) : Dyadic)).bu, .int .i64 (nR ((3 : Int) : Dyadic)).e]] w fun r w' => ∃ g : PX, cZ 0 1 (zT [([0], 2), ([1], 9)]) g ∧ r = .returned (.tuple #[.agg #[.int .i64 g.v, .slice g.A g.n g.c], .int .i64 0]) ∧ Hp w [g.row] w' := by
 have h := m9 ⟨2, A, 2, c, zT qZ⟩ ((0 : Nat) : Int) (nR ((3 : Int) : Dyadic)) 24 w hT hS (mu rfl (by decide) hc) (vj 3 (by decide)) (by decide)
 rw [vW (by decide), dy, show (((0 : Nat) : Int)).toNat = 0 from rfl] at h
 have e : aZ (iA 0 ((3 : Int) : Dyadic) (zT qZ)) = zT [([0], 2), ([1], 9)] := by rw [zA, m0 (nZ rfl)]
 replace h : Calls Tryz.prog 24 #[.agg #[.int .i64 2, .slice A 2 c], .int .i64 0, .agg #[.bool (nR ((3 : Int) : Dyadic)).neg, .string (nR ((3 : Int) : Dyadic)).bu, .int .i64 (nR ((3 : Int) : Dyadic)).e]] w fun r w' => ∃ g : PX, cZ 0 1 (aZ (iA 0 ((3 : Int) : Dyadic) (zT qZ))) g ∧ r = .returned (.tuple #[.agg #[.int .i64 g.v, .slice g.A g.n g.c], .int .i64 0]) ∧ Hp w [g.row] w' := h
 rw [e] at h
 exact h
theorem Cu (b d e : Nat) (w : World) (hT : gW w) (hS : Sl w (some ⟨b, 0, none⟩) 1 4 (aP TR.cells (zT [([2], 1)]))) (hL : Sl w (some ⟨d, 0, none⟩) 1 2 (aP PX.cells [⟨2, some ⟨e, 0, none⟩, 2, 2, zT qS⟩])) (hQ : Sl w (some ⟨e, 0, none⟩) 2 4 (aP TR.cells (zT qS))) :
  Calls Tryz.prog 28 #[.agg #[.int .i64 1, .slice (some ⟨b, 0, none⟩) 1 1], .slice (some ⟨d, 0, none⟩) 1 1] w fun r w' => ∃ g : PX, cZ 0 2 (zT [([0, 2], 1), ([1, 1], 2), ([2, 0], 1)]) g ∧ r = .returned (.tuple #[.agg #[.int .i64 g.v, .slice g.A g.n g.c], .int .i64 0]) ∧ Hp w [g.row] w' := by
 have hf : CD ⟨1, some ⟨b, 0, none⟩, 1, 1, zT [([2], 1)]⟩ [⟨2, some ⟨e, 0, none⟩, 2, 2, zT qS⟩] 24 24 2 16408 [2] := by
  refine ⟨rfl, fun i x hx => ?_, ?_, by decide, by decide, fun g hg => ?_, fun g hg => ?_⟩
  ·cases i with
   | zero =>
    cases hx
    refine ⟨by decide, fun t ht => ?_⟩
    rw [List.mem_singleton.1 ht]
    decide
   | succ i => cases hx
  ·rw [k5, mg]
   decide
  ·rw [List.mem_singleton.1 hg]
   exact mu rfl (by decide) (by decide)
  ·rw [List.mem_singleton.1 hg]
   exact Nat.le_refl 2
 have h := qF ⟨1, some ⟨b, 0, none⟩, 1, 1, zT [([2], 1)]⟩ (some ⟨d, 0, none⟩) 1 [⟨2, some ⟨e, 0, none⟩, 2, 2, zT qS⟩] 24 24 2 16408 [2] w hT hS (mu rfl (by decide) (by decide)) hL (fun g hg => by rw [List.mem_singleton.1 hg]; exact hQ) (Nat.le_refl 1) hf
 have he : PX.e ⟨2, some ⟨e, 0, none⟩, 2, 2, zT qS⟩ = 0 := BP
 have hlk : gp [⟨2, some ⟨e, 0, none⟩, 2, 2, zT qS⟩] = 0 := by
  unfold gp
  rw [gF (List.any_eq_false.2 fun x hx => by rw [List.mem_singleton.1 hx]; simp [he])]
  rfl
 have e1 : wU ⟨1, some ⟨b, 0, none⟩, 1, 1, zT [([2], 1)]⟩ [⟨2, some ⟨e, 0, none⟩, 2, 2, zT qS⟩] = (0, zT [([0, 2], 1), ([1, 1], 2), ([2, 0], 1)]) := by
  unfold wU
  rw [if_neg (fun h => h (show PX.e ⟨1, some ⟨b, 0, none⟩, 1, 1, zT [([2], 1)]⟩ = 0 from Cr)), if_neg (fun h => h rfl), if_neg (fun h => h.2 hlk)]
  exact Bq
 rw [e1] at h
 exact h
theorem vk (K : ZT) (v : Int) (A : Option Addr) (n c : Nat) (B : Option Addr) (d : Nat) (w : World) (hA : Sl w A n 4 (aP TR.cells (zT K))) (hB : Sl w B n 4 (aP TR.cells (zT K))) (hn : n ≤ 60) :
  Calls Tryz.prog 26 #[.agg #[.int .i64 v, .slice A n c], .agg #[.int .i64 v, .slice B n d]] w fun r w' => r = .returned (.bool true) ∧ Below w.heap.size w w' :=
 (mZ ⟨v, A, n, c, zT K⟩ ⟨v, B, n, d, zT K⟩ w hA hB (by show n ≤ 1000000; omega) (by show n ≤ 1000000; omega)).mono fun r w' ⟨x, hr, hv, hb⟩ => ⟨by rw [hr, hv.2 ⟨rfl, rfl⟩], hb⟩
end Go.Proofs.YtaapkaefelhfcaaGreatDoor
