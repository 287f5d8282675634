/- Lemmas for castSame, part 6. -/
import Derived.Test.YteeckcbbnegmcaaGreatDoorZ5
namespace Go.Proofs.YteeckcbbnegmcaaGreatDoor
variable {p : List TR}
open Go.RowKit
theorem F9 {q : List TR} (h : 65536 < p.length * q.length) : e6 p q = 3 := by unfold e6; rw [Sj h]
theorem Kl {q : List TR} {e : Int} (h6 : ¬ 65536 < p.length * q.length) {a b : List Int} (h : qt p q = a ++ e :: b) (ha : ∀ x ∈ a, x = 0) (he : e ≠ 0) : e6 p q = e := by
 unfold e6;rw [Si h6, h, List.find?_append, iQ (TA.2 fun x hx => by simp [ha x hx]), List.find?_cons_of_pos (p := fun e : Int => decide (e ≠ 0)) (by simpa using he)]
 rfl
theorem yi {q : List TR} (h6 : ¬ 65536 < p.length * q.length) (h : ∀ x ∈ qt p q, x = 0) : e6 p q = fY (bR p q) := by
 unfold e6 fY;rw [Si h6, iQ (TA.2 fun x hx => by simp [h x hx])]
theorem wQ (p q : PX) (k k2 : Nat) (w : World) (hT : dD w) (hp : p.at_ w) (hq : q.at_ w) (lp : p.kq k) (lq : q.kq k2) (hk : k + k2 ≤ 900000) :
  Calls Tryz.prog 80 #[.agg #[.int .i64 p.v, .slice p.A p.n p.c], .agg #[.int .i64 q.v, .slice q.A q.n q.c]] w fun r w' => ∃ g : PX, gh (e6 p.ts q.ts) p.v (aF (bR p.ts q.ts)) g ∧ r = .returned (.tuple #[.agg #[.int .i64 g.v, .slice g.A g.n g.c], .int .i64 (e6 p.ts q.ts)]) ∧ Hp w [g.row] w' := by
 have hh := Hp.start w;obtain ⟨pv, pA, pn, pc, ps⟩ := p;obtain ⟨qv, qA, qn, qc, qs⟩ := q;have hpl : ps.length = pn := hp.ln;have hql : qs.length = qn := hq.ln;have hpn : pn ≤ 1000000 := lp.n;have hqn : qn ≤ 1000000 := lq.n;have okp : iA k ps := lp.ok;have okq : iA k2 qs := lq.ok;have szp : ∀ t ∈ ps, t.m.size ≤ 100000 := lp.sz;have szq : ∀ t ∈ qs, t.m.size ≤ 100000 := lq.sz;replace hp : Sl w pA pn 4 (aw TR.cells ps) := hp;replace hq : Sl w qA qn 4 (aw TR.cells qs) := hq;clear lp lq;show Calls _ _ _ _ fun r w' => ∃ g : PX, gh (e6 ps qs) pv (aF (bR ps qs)) g ∧ r = .returned (.tuple #[.agg #[.int .i64 g.v, .slice g.A g.n g.c], .int .i64 (e6 ps qs)]) ∧ Hp w [g.row] w';have hmm : pn * qn ≤ 1000000 * 1000000 := Tw hpn hqn;obtain ⟨m, hm⟩ : ∃ m, m = pn * qn := ⟨_, rfl⟩;have hmi : (pn : Int) * (qn : Int) = (m : Int) := by rw [hm]; exact (Tv _ _).symm
 by_cases h6 : 65536 < m
 ·rw [F9 (by rw [hpl, hql, ← hm]; exact h6)];refine aj (N := 67) (l := [.agg #[.int .i64 pv, .slice pA pn pc], .agg #[.int .i64 qv, .slice qA qn qc]]) Tryz.func80 rfl rfl (by simp) ?_;refine sr ?_;refine cq hh [_,_] ?_;intro b2 w2 hh;refine cq hh [_,_] ?_;intro b3 w3 hh;refine bJ hh ?_;intro b4 w4 hh;refine aI (aa (ah (sr (bF ?_))));refine bE hh 2 ?_;refine aK (bF ?_);refine bE hh 1 ?_;refine aK ?_;refine mulC ?_;refine cg (aa (cT (sr ?_)));exact KL
 ·have hbig : ¬ 65536 < ps.length * qs.length := by rw [hpl, hql, ← hm]; exact h6
  refine aj (N := 67) (l := [.agg #[.int .i64 pv, .slice pA pn pc], .agg #[.int .i64 qv, .slice qA qn qc]]) Tryz.func80 rfl rfl (by simp) ?_;refine sr ?_;refine cq hh [_,_] ?_;intro b2 w2 hh;refine cq hh [_,_] ?_;intro b3 w3 hh;refine bJ hh ?_;intro b4 w4 hh;refine aI (aa (ah (sr (bF ?_))));refine bE hh 2 ?_;refine aK (bF ?_);refine bE hh 1 ?_;refine aK ?_;refine mulC ?_;refine cg (aa (cF (aq (ai (sr (aL (aa (ah (sr (bF ?_))))))))));refine bE hh 2 ?_;refine aK (mI (aa (ao ?_)));replace hh := hh.dL 96 4;have hall : ∀ i, ((ps.take i).flatMap fun x => qs.map (pQ x)).length ≤ 65536 := fun i => by
   have h1 : (bR ps qs).length = ((ps.take i).flatMap fun x => qs.map (pQ x)).length + ((ps.drop i).flatMap fun x => qs.map (pQ x)).length := by
    unfold bR;rw [← Sr, ← Vf, To]
   rw [jE] at h1;omega
  refine bP [5, 6, 8, 10, 11, 12, 25, 26, 27, 28, 29, 30, 31, 32, 33, 34, 35, 36, 37, 38, 39, 40, 41, 42, 43, 44, 45, 46, 47, 48, 49, 50, 51, 52, 53, 54, 55, 56, 57, 58, 59, 60] 6 25
   (fun a x w' => ∃ (i : Nat) (M : List TR) (A' : Option Addr) (c' : Nat), i ≤ pn ∧ x = .int .i64 i ∧ a = .slice A' M.length c' ∧ M = ((ps.take i).flatMap fun x => qs.map (pQ x)) ∧ (∀ e ∈ ((ps.take i).flatMap fun x => qs.map fun y => l8 x.m y.m), e = 0) ∧ Hp w [.row A' M.length c' 96 4 (aw TR.cells M), .blk b4 24 [.int .i64 0, .slice none 0 0] (0, 0), .blk b3 24 [.int .i64 qv, .slice qA qn qc] (0, 0), .blk b2 24 [.int .i64 pv, .slice pA pn pc] (0, 0)] w')
   (fun _ x _ => pn - (intOf x).toNat) ?_ ?_
  ·exact ⟨0, [], none, 0, Sn _, rfl, rfl, rfl, fun e he => (nomatch he), hh⟩
  ·clear hh;rintro ρ' a_ x_ w' ⟨i, M, A', c', hi, rfl, rfl, hM, hz, hh⟩;have hMl := hall i;rw [← hM] at hMl;by_cases hlt : i < pn
   ·obtain ⟨x, hx⟩ := av (l := ps) (k := i) Sd;obtain ⟨ad, rfl, hr⟩ := hp.at_ Sd;have hxm := Sp hx;have hxo := okp x hxm;have hxs := szp x hxm;refine sr ?_;refine dq ?_;refine bX ?_;refine qJ ?_;refine bJ hh ?_;intro b8 w8 hh;refine bK hh 0 [_,_,_,_] ?_;intro ws hh;replace hh : Hp _ (.blk _ _ [_, _, _, _] _ :: _) _ := hh;refine aa (sr (bF ?_));refine bE hh 3 ?_;refine aK (mI (aa (ao ?_)));replace hh := hh.perm (Tr (l₁ := [_]));simp only [Sv, Ss] at hh;refine bP [5, 6, 10, 11, 12, 32, 33, 34, 35, 36, 37, 38, 39, 40, 41, 42, 43, 44, 45, 46, 47, 48, 49, 50, 51, 52, 53, 54, 55, 56, 57, 58, 59] 6 32
     (fun a z w' => ∃ (j : Nat) (N : List TR) (A' : Option Addr) (c' : Nat), j ≤ qn ∧ z = .int .i64 j ∧ a = .slice A' N.length c' ∧ N = M ++ (qs.take j).map (pQ x) ∧ (∀ e ∈ (qs.take j).map (fun y => l8 x.m y.m), e = 0) ∧ Hp w [.row A' N.length c' 96 4 (aw TR.cells N), .blk b8 96 [.string x.m, .bool x.c.neg, .string x.c.bf, .int .i64 x.c.e] (0, 0), .blk b4 24 [.int .i64 0, .slice none 0 0] (0, 0), .blk b3 24 [.int .i64 qv, .slice qA qn qc] (0, 0), .blk b2 24 [.int .i64 pv, .slice (some ad) pn pc] (0, 0)] w')
     (fun _ z _ => qn - (intOf z).toNat) ?_ ?_
    ·refine ⟨0, M, A', c', Sn _, rfl, rfl, by simp, fun e he => (nomatch he), hh⟩
    ·clear hh;rintro ρ2 a2 x2 w2 ⟨j, N, A2, c2, hj, rfl, rfl, hN, hz2, hh⟩;by_cases hjn : j < qn
     ·obtain ⟨y, hy⟩ := av (l := qs) (k := j) Sd;obtain ⟨ad2, rfl, hr2⟩ := hq.at_ Sd;have hym := Sp hy;have hyo := okq y hym;have hys := szq y hym;have hmul : ∀ w1, Calls Tryz.prog 165 #[.string x.m, .string y.m] w1 fun r w' => r = .returned (.tuple #[.string (mulM x.m y.m), .int .i64 (l8 x.m y.m)]) ∧ Below w1.heap.size w1 w' := fun w1 => EH x.m y.m w1 hxs hys;have hdm := fun A cc w1 hT1 hS1 => iD A 2 cc [x.c, y.c] w1 hT1 hS1 (by simpa using ⟨hxo.1, hyo.1⟩) (k + k2) (by simpa using ⟨hxo.2.mono Sd, hyo.2.mono Sd⟩) Sd Se;rw [show iX ([x.c, y.c].map NR.d) = x.c.d * y.c.d by show 1 * x.c.d * y.c.d = _; rw [Uz]] at hdm;obtain ⟨R, hR⟩ := Ap (f := fun x y => l8 x.m y.m) hx hy;have hzz : ∀ e ∈ ((ps.take i).flatMap fun x => qs.map fun y => l8 x.m y.m) ++ (qs.take j).map (fun y => l8 x.m y.m), e = 0 := fun e he => by
       rcases S2.1 he with he | he
       ·exact hz e he
       ·exact hz2 e he
      have hNl : N.length < 65536 := by
       have h1 := hall (i + 1);rw [pY hx, Sr, ← hM] at h1;rw [hN, Sr];simp at h1 ⊢;omega
      by_cases he : l8 x.m y.m = 0
      ·refine sr ?_;refine dq ?_;refine oL ?_;refine ct (vs := [_, _, _, _]) aP.out rfl ((hr2.ext hh.below).recAt TR.len hy) rfl Se ?_;refine bJ hh ?_;intro b10 w10 hh;refine bK hh 0 [_,_,_,_] ?_;intro ws hh;replace hh : Hp _ (.blk _ _ [_, _, _, _] _ :: _) _ := hh;refine aa (sr (bF ?_));refine bE hh 2 ?_;refine bF ?_;refine bE hh 0 ?_;refine br hh (hmul _) rfl ?_;intro w41 hh;refine mT ?_;refine cE ?_;refine cE ?_;refine aS (aI (aa (ah (sr (mI ?_)))));refine cX (aa (cF (aq (ai (al (mL (mS (bF ?_))))))));refine cu hh 2 [_,_,_] (bF ?_);refine cu hh 0 [_,_,_] ?_;refine u2 ?_;intro b54 w54 hh;refine br hh (hdm _ _ _ (hT.hp hh) (hh.aD (i := 0) rfl)) rfl ?_;intro w55 hh;refine gg [_,_,_,_] ?_;refine BI ?_;intro b57 w57 hh;refine cR hh (i := 3) rfl rfl rfl (hh.aD (i := 0) rfl) bq.out aP.out rfl Se (by first | rfl | exact ez _ | exact du _ | exact bU _ | exact cw NR.one _) Sd Sd Se ?_;intro A58 c58 w58 hh;simp only [Sy, Tb] at hh;replace hh := hh.sub (Th _ _);refine na ?_;refine a9 (mI (az (ai ?_)))
       have e1 : aw TR.cells N ++ [.string (mulM x.m y.m), .bool (nR (x.c.d * y.c.d)).neg, .string (nR (x.c.d * y.c.d)).bf, .int .i64 (nR (x.c.d * y.c.d)).e] = aw TR.cells (N ++ [pQ x y]) := by rw [cA, sy]; rfl
       replace hh := show Hp w (_ :: _ :: .row A58 (N.length + 1) c58 96 4 (aw TR.cells N ++ [.string (mulM x.m y.m), .bool (nR (x.c.d * y.c.d)).neg, .string (nR (x.c.d * y.c.d)).bf, .int .i64 (nR (x.c.d * y.c.d)).e]) :: _) w58 from hh;rw [e1] at hh;replace hh := hh.sub (Sm _ (Sm _ (Sk _ (Sk _ (Sk _ (Sk _ (Sk _ SD)))))));refine ⟨⟨j + 1, N ++ [pQ x y], _, _, Sd, rfl, by rw [Sr]; rfl, by rw [hN, ay hy, Tt, S5]; rfl, fun e h => ?_, ?_⟩, by show qn - (j + 1) < qn - j; omega, ?_⟩
       ·rw [ay hy, Tt, S2] at h
        rcases h with h | h
        ·exact hz2 e h
        ·rw [SN.1 h]; exact he
       ·rw [Sr]; exact hh
       ·exact eB
      ·rw [Kl hbig hR hzz he];generalize l8 x.m y.m = e at *;refine sr ?_;refine dq ?_;refine oL ?_;refine ct (vs := [_, _, _, _]) aP.out rfl ((hr2.ext hh.below).recAt TR.len hy) rfl Se ?_;refine bJ hh ?_;intro b10 w10 hh;refine bK hh 0 [_,_,_,_] ?_;intro ws hh;replace hh : Hp _ (.blk _ _ [_, _, _, _] _ :: _) _ := hh;refine aa (sr (bF ?_));refine bE hh 2 ?_;refine bF ?_;refine bE hh 0 ?_;refine br hh (hmul _) rfl ?_;intro w41 hh;refine mT ?_;refine cE ?_;refine cE ?_;refine aS (aI (aa (ah (sr (mI ?_)))));refine cX (aa (cT (sr ?_)));refine gg [_,_] (mI ?_);refine bK hh 3 [_,_] ?_;intro ws hh;replace hh : Hp _ (_ :: _ :: _ :: .blk _ _ [_, _] _ :: _) _ := hh;refine aI (aa (au (aG (bQ (aG (aG (bQ (bQ (aG (aG (bQ (aG ?_))))))))))));refine FA ?_;exact My
     ·obtain rfl : j = qn := Sd;rw [Su Sd] at hz2 hN;refine sr ?_;refine te ?_;refine a9 (mI (az (ai ?_)));replace hh := hh.sub (Sk _ (Sm _ (Sk _ (Sk _ (Sk _ SD)))));refine ⟨⟨i + 1, N, A2, c2, Sd, rfl, rfl, by rw [pY hx, ← hM, Su Sd]; exact hN, fun e h => ?_, hh⟩, by show pn - (i + 1) < pn - i; omega, ?_⟩
      ·rw [pY (f := fun (x y : TR) => l8 x.m y.m) hx, S2, Vl] at h
       rcases h with h | h
       ·exact hz e h
       ·exact hz2 e h
      ·exact eB
   ·obtain rfl : i = pn := Sd;rw [Su Sd] at hz hM;have hMp : M = bR ps qs := hM;rw [yi hbig hz, ← hMp];have hpo := oO okp okq Sd;rw [← hMp] at hpo;refine sr ?_;refine a6 (aa (ah (cF (aV (aE (aE (bo (ai (sr (bF ?_))))))))));refine bE hh 3 ?_;refine mL ?_;refine aC (ke pv A' M.length c' M (k + k2) _ hT hh rfl Sd Sd hpo) ak.out rfl Se ?_;rintro e_ w64 ⟨g, og, rfl, hh⟩;refine ⟨_, rfl, ?_⟩;refine cE ?_;refine cE ?_;exact CP
variable {E : Int} {W w1 : World} {base j k : Nat} {fz : Nat × Nat} {ts : List TR}
def kX (base : Nat) (E v : Int) (ts : List TR) : VP := fun x W => ∃ (g : PX) (w1 : World), x = .agg #[.int .i64 g.v, .slice g.A g.n g.c] ∧ gh E v ts g ∧ base ≤ w1.heap.size ∧ Hp w1 [g.row] W
theorem kX.ext {v : Int} (x : Value) (w w' : World) (h : kX base E v ts x w) (hb : Below w.heap.size w w') : kX base E v ts x w' := let ⟨g, w1, h1, h2, h3, h4⟩ := h; ⟨g, w1, h1, h2, h3, h4.ext hb⟩
def ma (base : Nat) (E v : Int) (ts : List TR) : VP := fun x W => ∃ (g : PX) (w1 : World), x = .tuple #[.agg #[.int .i64 g.v, .slice g.A g.n g.c], .int .i64 E] ∧ gh E v ts g ∧ base ≤ w1.heap.size ∧ Hp w1 [g.row] W
theorem ma.ext {v : Int} (x : Value) (w w' : World) (h : ma base E v ts x w) (hb : Below w.heap.size w w') : ma base E v ts x w' := let ⟨g, w1, h1, h2, h3, h4⟩ := h; ⟨g, w1, h1, h2, h3, h4.ext hb⟩
def xQ (base : Nat) (v : Int) (ts : List TR) : VP := fun x W => ∃ (g : PX) (w1 : World), x = .slice g.A g.n g.c ∧ gh 0 v ts g ∧ base ≤ w1.heap.size ∧ Hp w1 [g.row] W
theorem xQ.ext {v : Int} (x : Value) (w w' : World) (h : xQ base v ts x w) (hb : Below w.heap.size w w') : xQ base v ts x w' := let ⟨g, w1, h1, h2, h3, h4⟩ := h; ⟨g, w1, h1, h2, h3, h4.ext hb⟩
theorem PX.ne {g : PX} {b : Nat} {t : TypeId} {cs : Array Value} (h : Hp w1 [g.row] W) (h3 : W.heap[b]? = some (.cells cs t fz)) (h1 : 96 ≠ t) : ∀ x ∈ [g.row], x.id ≠ some b := fun x hx => by
 have hx2 := h.own x hx;obtain rfl := SN.1 hx;exact vX hx2 h3 h1
def jk (a : List TR × Int) (g : PX) : List TR × Int := if a.2 = 0 then (aF (bR a.1 g.ts), e6 a.1 g.ts) else a
def Pe (ps : List PX) : List TR × Int := match ps with | [] => ([], 0) | g :: l => l.foldl jk (g.ts, 0)
def C9 (ps : List PX) : Int := if fi ps = 0 then (Pe ps).2 else fi ps
theorem zi {a : List TR × Int} (h : a.2 ≠ 0) : ∀ l : List PX, l.foldl jk a = a
 | [] => rfl
 | g :: l => by
  rw [Vq, show jk a g = a by unfold jk; rw [Si h]];exact zi h l
theorem Er {l : List PX} {a : List TR × Int} {i : Nat} {g : PX} (hx : l[i]? = some g) (h0 : ((l.take i).foldl jk a).2 = 0) (h : e6 ((l.take i).foldl jk a).1 g.ts ≠ 0) : (l.foldl jk a).2 = e6 ((l.take i).foldl jk a).1 g.ts := by
 have e : l = l.take i ++ g :: l.drop (i + 1) := by rw [← gE hx, To]
 have e2 : l.foldl jk a = (l.drop (i + 1)).foldl jk (jk ((l.take i).foldl jk a) g) := by
  conv => lhs; rw [e]
  rw [UI, Vq]
 rw [e2];have e3 : jk ((l.take i).foldl jk a) g = (aF (bR ((l.take i).foldl jk a).1 g.ts), e6 ((l.take i).foldl jk a).1 g.ts) := Sj h0;rw [e3, zi h]
theorem DU {l : List PX} {a : List TR × Int} {i : Nat} {g : PX} (hx : l[i]? = some g) (h0 : ((l.take i).foldl jk a).2 = 0) : (l.take (i + 1)).foldl jk a = (aF (bR ((l.take i).foldl jk a).1 g.ts), e6 ((l.take i).foldl jk a).1 g.ts) := by
 rw [ay hx, UI, Vq, List.foldl_nil];exact Sj h0
theorem Cb {q : List TR} (hp : iA k p) (hq : iA j q) (sq : ∀ t ∈ q, t.m.size ≤ 100000) (h : e6 p q = 0) (hk : k + j ≤ 900000) : iA (k + j + 65536) (aF (bR p q)) ∧ ∀ t ∈ aF (bR p q), t.m.size ≤ 100000 := by
 obtain ⟨h6, _, h4⟩ := jZ h;have ho := oO hp hq Sd;have hz := mD fun t ht => (ho t ht).2;rw [jE] at hz;refine ⟨fun t ht => ?_, fun t ht => ?_⟩
 ·have : Sz (k + j + 65536) t.c.d := (hz t ht).mono Sd;refine ⟨?_, this⟩;rw [(eZ _).nf t ht];exact this.ok Sd
 ·obtain ⟨s, hs, e⟩ := jT t ht;obtain ⟨x, hx, hs⟩ := Uw.1 hs;obtain ⟨y, hy, rfl⟩ := SB.1 hs;rw [← e];exact SK (Ec _ _) (sq y hy)
theorem xL (L : Option Addr) (n c : Nat) (ps : List PX) (k s : Nat) (w : World) (hT : dD w) (hL : Sl w L n 2 (aw PX.cells ps)) (hcn : n ≤ c) (hn : n ≤ 8) (hf : ∀ g ∈ ps, g.at_ w) (hl : ∀ g ∈ ps, g.kq k) (hs : k + 65536 ≤ s) (hk : k + k + (n - 2) * s ≤ 900000) :
  Calls Tryz.prog 17 #[.slice L n c] w fun r w' => ∃ g : PX, gh (C9 ps) (ff ps) (Pe ps).1 g ∧ r = .returned (.tuple #[.agg #[.int .i64 g.v, .slice g.A g.n g.c], .int .i64 (C9 ps)]) ∧ Hp w [g.row] w' := by
 have hh := Hp.start w;have hln := hL.bz PX.len Se;have hlk := fun w1 hT1 hb => qz L n c ps k w1 hT1 (hL.ext hb) Sd (fun g hg => (hf g hg).ext hb) hl;unfold C9;by_cases h0 : fi ps = 0
 ·rw [Sj h0];rw [h0] at hlk;obtain ⟨hne, nX, hvv⟩ := xg h0;obtain ⟨g0, pt, rfl⟩ := List.exists_cons_of_ne_nil hne;rw [kD (g := g0) rfl];have hnp : pt.length + 1 = n := hln;obtain ⟨ad, rfl, hr⟩ := hL.at_ Sd;have hm0 : g0 ∈ g0 :: pt := Sq;have hg0 := hl g0 hm0;have h00 : (g0 :: pt)[0]? = some g0 := rfl;show Calls _ _ _ _ fun r w' => ∃ g : PX, gh (pt.foldl jk (g0.ts, 0)).2 g0.v (pt.foldl jk (g0.ts, 0)).1 g ∧ r = .returned (.tuple #[.agg #[.int .i64 g.v, .slice g.A g.n g.c], .int .i64 (pt.foldl jk (g0.ts, 0)).2]) ∧ Hp w [g.row] w';refine aj (N := 46) (l := [.slice (some ad) n c]) Tryz.func17 rfl rfl (by simp) ?_;refine sr ?_;refine bJ hh ?_;intro b2 w2 hh;refine aI (aa (ah (sr (mL ?_))));refine br hh (hlk _ (hT.hp hh) hh.below) rfl ?_;intro w11 hh;refine aI (aa (sr (mI ?_)));refine cX (aa (cF (aq (ai (ah ?_)))));refine aU 11 [[(0, none)], [(16, some 0)], [(17, some 1)], [(18, some 2)], [(0, none)], [(20, some 4)], [(21, some 5)], [(22, some 6)], [(23, some 7)], [(19, some 3), (24, some 8)], []] [(10, 5), (9, 25), (8, 24), (7, 23), (6, 22), (5, 21), (4, 20), (3, 19), (2, 18), (1, 17), (0, 16)] hh mixed Sf ?_;refine iw ?_;refine qe (0) ?_;refine NM ?_
  refine wJ (fun _ hj => cj hj.hp.below ((hr.recAt PX.len h00) 0 _ rfl)) ?_;refine iw ?_;refine qe (0) ?_;refine NM ?_;refine wJ (fun _ hj => cj hj.hp.below ((hr.recAt PX.len h00) 1 _ rfl)) ?_;refine a8 (i := 8) (xQ w11.heap.size g0.v g0.ts) (xQ.ext) ?_ ?_
  ·intro ρ1 w1 hj hR;exact bA rfl (aZ ak.out (aA (show ρ1 23 = Value.slice _ _ _ from hR.1) a7)) (lr g0.A g0.n g0.c g0.ts w1 ((hf g0 hm0).ext hj.hp.below) hg0.n) (fun _ _ ⟨A, c, hq, ho, hb⟩ => ⟨_, hq, hb, ⟨g0.v, A, g0.n, c, g0.ts⟩, w1, rfl, ⟨rfl, rfl⟩, hj.bl.size, (Hp.start w1).aO (x := .row _ _ _ _ _ _) hb ho⟩)
  refine a8 (i := 9) (kX w11.heap.size 0 g0.v g0.ts) (kX.ext) ?_ ?_
  ·intro ρ1 w1 hj hR;exact let ⟨g, u, e, o, q, h⟩ := hR.2.1; gK rfl (q9 (cs := [_, _]) aP.out kr.out (bC (show ρ1 19 = Value.int _ _ from hR.1) (bC e dF)) rfl) ⟨Below.refl _ _, g, u, by rw [show g.v = g0.v from o.v], o, q, h⟩
  refine a8 (i := 10) (di _ 24 _) di.ext (fun ρ1 w1 hj hR => jU aP.out hj.bl (fun v w2 h hb => ⟨hb, h⟩)) ?_;refine aR ?_;intro f W hJ hV;have hb_4 := hJ.bl;obtain ⟨v5, v25, v24, v23, v22, v21, v20, v19, v18, v17, v16, _⟩ := hV;obtain ⟨g24, u24, e24, -⟩ := v24;obtain ⟨g25, u25, e25, o25, q25, h25⟩ := v25;obtain ⟨b5, e5, hl5, hc5⟩ : di _ _ _ (f 10) W := v5;replace hh := hJ.pW hh hl5 hc5 q25 h25 (PX.ne h25 hc5 Se);refine aX (bp (ae e5 (ae e25 (ae e24 (ae v23 (ae v22 (ae v21 (ae v20 (ae v19 (ae v18 (ae v17 (ae v16 aW)))))))))))) ?_;dsimp only [ck];clear e24 e25 e5 hJ;simp only [Sv, Ss] at hh;obtain ⟨gv, gA, gn, gc, gts⟩ := g25;obtain rfl : g0.v = gv := o25.v.symm;obtain rfl : g0.ts = gts := o25.ts.symm;replace hh := show Hp w (_ :: .row gA gn gc 96 4 (aw TR.cells g0.ts) :: _) W from hh;have hgn : g0.ts.length = gn := (hh.aD (i := 1) rfl).bz TR.len Se;have hgc : gn ≤ gc := hh.fH (i := 1) rfl;refine bK hh 0 [_,_] ?_;intro ws hh;replace hh : Hp _ (.blk _ _ [_, _] _ :: _) _ := hh;refine aa (ah (sr (mL ?_)));refine aM rfl rfl Se (ik bq.out aP.size rfl rfl (l := 1) rfl Sd Sd) ?_;refine aK (mI (aa (ao ?_)));replace hh := hh.perm (Tr (l₁ := [_]))
  simp only [Sv, Ss] at hh;refine aN [3, 7, 8, 9, 29, 30, 31, 32, 33, 34, 35, 36, 37, 38, 39, 40, 41, 42, 43, 44] 29
   (fun v w' => ∃ (i : Nat) (g : PX), i ≤ n - 1 ∧ v = .int .i64 i ∧ ((pt.take i).foldl jk (g0.ts, 0)).2 = 0 ∧ g.v = g0.v ∧ g.ts = ((pt.take i).foldl jk (g0.ts, 0)).1 ∧ g.kq (k + i * s) ∧ Hp w [.row g.A g.n g.c 96 4 (aw TR.cells g.ts), .blk b5 24 [.int .i64 g.v, .slice g.A g.n g.c] (0, 0), .blk b2 24 [.int .i64 0, .slice none 0 0] (0, 0)] w')
   (fun v _ => n - 1 - (intOf v).toNat) ?_ ?_
  ·exact ⟨0, ⟨g0.v, gA, gn, gc, g0.ts⟩, Sn _, rfl, rfl, rfl, rfl, ⟨by show gn ≤ 1000000; have := hg0.n; have h9 := (hf g0 hm0).ln; omega, hgc, hg0.ok.mono (by rw [UE]; omega), hg0.sz⟩, hh⟩
  ·clear hh;rintro ρ' v w' ⟨i, g, hi, rfl, hz, hgv, hts, hgl, hh⟩;by_cases hlt : i < n - 1
   ·obtain ⟨f, hx⟩ := av (l := pt) (k := i) Sd;have hmem : f ∈ g0 :: pt := SA _ (Sp hx);have his : i * s ≤ (n - 2) * s := S9 _ Sd;have his1 := Tl i s;have hbk : Sl w (if c = 1 then some ad else (some ad : Option Addr).map (·.add (1 * 2))) (n - 1) 2 (aw PX.cells pt) := hL.back Sd hcn;obtain ⟨ab, hAb, sb⟩ := hbk.at_ Sd;have nX : Value.slice (if c = 1 then some ad else (some ad : Option Addr).map (·.add (1 * 2))) (n - 1) (c - 1) = .slice (some ab) (n - 1) (c - 1) := by rw [hAb]
    have hfl := hl f hmem;have hnx := DU (a := (g0.ts, 0)) hx hz;have hsp := Er (a := (g0.ts, 0)) hx hz;rw [← hts] at hnx hsp;refine sr ?_;refine dq ?_;refine db (k := i) bq.out aP.size nX rfl Sd Sd Se ?_;refine ct (vs := [_, _]) aP.out rfl (show Rd _ _ [.int .i64 f.v, .slice f.A f.n f.c] from (sb.ext hh.below).recAt PX.len hx) rfl Se ?_;refine bJ hh ?_;intro b7 w7 hh;refine bK hh 0 [_,_] ?_;intro ws hh;replace hh : Hp _ (.blk _ _ [_, _] _ :: _) _ := hh;refine aa (sr ?_);refine cu hh 2 [_,_] ?_;refine cu hh 0 [_,_] ?_;refine aC (wQ g f (k + i * s) k _ (hT.hp hh) (hh.aD (i := 1) rfl) ((hf f hmem).ext hh.below) hgl hfl Sd) ak.out rfl Se ?_;rintro e_ w36 ⟨h, oh, rfl, h3⟩;refine ⟨_, rfl, ?_⟩;replace hh := hh.join h3;simp only [Sv, Ss] at hh;by_cases he : e6 g.ts f.ts = 0
    ·obtain ⟨hv, hA, hn2, hc2, hts2⟩ := h;rw [he] at oh;obtain rfl : g.v = hv := oh.v.symm;obtain rfl : aF (bR g.ts f.ts) = hts2 := oh.ts.symm;replace hh := show Hp w (.row hA hn2 hc2 96 4 (aw TR.cells (aF (bR g.ts f.ts))) :: _) w36 from hh;have hhn : (aF (bR g.ts f.ts)).length = hn2 := (hh.aD (i := 0) rfl).bz TR.len Se;have hhc : hn2 ≤ hc2 := hh.fH (i := 0) rfl;have h4 := (jZ he).2.2;have htl := Cb hgl.ok hfl.ok hfl.sz he Sd;refine mT ?_;refine cE ?_;refine cE ?_;refine bJ hh ?_;intro b8 w8 hh;refine bK hh 0 [_,_] ?_;intro ws hh;replace hh : Hp _ (.blk _ _ [_, _] _ :: _) _ := hh;refine aI (aa (ah (sr (mI ?_))));refine cX (aa (cF (aq (ai (al ?_)))));refine cu hh 0 [_,_] ?_;refine bK hh 4 [_,_] ?_;intro ws hh;replace hh : Hp _ (_ :: _ :: _ :: _ :: .blk _ _ [_, _] _ :: _) _ := hh;refine fG ?_;refine a9 (mI (az (ai ?_)));replace hh := hh.sub (Sm _ (Sk _ (Sm _ (Sm _ (Sk _ (Sk _ SD))))))
     refine ⟨⟨i + 1, ⟨g.v, hA, hn2, hc2, aF (bR g.ts f.ts)⟩, Sd, rfl, by rw [hnx]; exact he, hgv, by rw [hnx], ⟨by show hn2 ≤ 1000000; omega, hhc, htl.1.mono (by rw [Tl]; omega), htl.2⟩, hh⟩, by show n - 1 - (i + 1) < n - 1 - i; omega, ?_⟩;exact eB
    ·rw [hsp he];refine mT ?_;refine cE ?_;refine cE ?_;refine bJ hh ?_;intro b8 w8 hh;refine bK hh 0 [_,_] ?_;intro ws hh;replace hh : Hp _ (.blk _ _ [_, _] _ :: _) _ := hh;refine aI (aa (ah (sr (mI ?_))));refine cX (aa (cT (sr ?_)));refine gg [_,_] (mI ?_);refine bK hh 5 [_,_] ?_;intro ws hh;replace hh : Hp _ (_ :: _ :: _ :: _ :: _ :: .blk _ _ [_, _] _ :: _) _ := hh;refine aI (aa (au (aG (bQ (aG (aG (bQ (aG ?_))))))));refine PR (dy rfl (dz (vs := [_, _]) aP.out (hh.bH (i := 5) (n := 2) rfl rfl) rfl) (jq (j6 rfl) fq)) ?_;exact My
   ·obtain rfl : i = n - 1 := Sd;rw [Su Sd] at hz hts;refine sr ?_;refine mq ?_;refine cu hh 1 [_,_] ?_;refine bK hh 2 [_,_] ?_;intro ws hh;replace hh : Hp _ (_ :: _ :: .blk _ _ [_, _] _ :: _) _ := hh;refine aI (aa (au ?_));refine sj ?_;rw [hz];exact ⟨g, ⟨hgv, hts⟩, rfl, hh.sub (Sk _ (TN _))⟩
 ·rw [Si h0];generalize fi ps = e at *;refine aj (N := 46) (l := [.slice L n c]) Tryz.func17 rfl rfl (by simp) ?_;refine sr ?_;refine bJ hh ?_;intro b2 w2 hh;refine aI (aa (ah (sr (mL ?_))));refine br hh (hlk _ (hT.hp hh) hh.below) rfl ?_;intro w11 hh;exact Kr
variable {l : List TR}
def ef (v : Int) : ByteArray := ⟨(List.replicate v.toNat 0).toArray⟩
theorem lH {v : Int} (h : 0 ≤ v) : ((ef v).size : Int) = v := by
 have : (ef v).size = v.toNat := by unfold ef; show (List.replicate v.toNat (0 : UInt8)).toArray.size = _; rw [US, TP]
 omega
theorem pX (v : Int) : eI (ef v).data.toList = true := by
 unfold eI ef;rw [SU];intro c hc;have : (⟨(List.replicate v.toNat (0 : UInt8)).toArray⟩ : ByteArray).data.toList = List.replicate v.toNat 0 := rfl;rw [this] at hc;rw [(List.mem_replicate.1 hc).2];decide
theorem Il (h : l.length ≤ 4096) : fY l = 0 := by
 unfold fY;have := cI l;rw [Si Sd]
theorem xZ {v : Int} {t : TR} (hf : iJ v = true) (h : fK v t = true) : q7 v [t] = 0 := by
 unfold q7;rw [Si (by rw [hf]; simp [h]), Si (by simp), Il (by simp)]
def xM (v : Int) : Int := if iJ v = false then 1 else 0
theorem lB (v : Int) (c : NR) (k : Nat) (w : World) (hT : dD w) (hc : c.ok ∧ Sz k c.d) (hk : k ≤ 2999980) :
  Calls Tryz.prog 45 #[.int .i64 v, .agg #[.bool c.neg, .string c.bf, .int .i64 c.e]] w fun r w' => ∃ g : PX, gh (xM v) v (aF [⟨ef v, c⟩]) g ∧ r = .returned (.tuple #[.agg #[.int .i64 g.v, .slice g.A g.n g.c], .int .i64 (xM v)]) ∧ Hp w [g.row] w' := by
 have hh := Hp.start w;have hfw := fun w1 => mJ v w1
 cases hf : iJ v with
 | false =>
  rw [hf] at hfw;rw [show xM v = 1 by unfold xM; rw [Sj hf]];refine aj (N := 20) (l := [.int .i64 v, .agg #[.bool c.neg, .string c.bf, .int .i64 c.e]]) Tryz.func45 rfl rfl (by simp) ?_;refine sr ?_;refine cq hh [_,_,_] ?_;intro b3 w3 hh;refine bJ hh ?_;intro b4 w4 hh;refine aI (aa (ah (sr (mI ?_))));refine br hh (hfw _) rfl ?_;intro w7 hh;refine fF ?_;refine aa (cT (sr ?_));exact KL
 | true =>
  rw [hf] at hfw;obtain ⟨h0, h12⟩ := gu.1 hf;have hm : q7 v [⟨ef v, c⟩] = 0 := xZ hf (by unfold fK; rw [pX, SF (lH h0)]; rfl);have hmk := fun A cc w1 hT1 hS1 => qo v A 1 cc [⟨ef v, c⟩] k w1 hT1 hS1 Se Sd (fun t ht => by rw [SN.1 ht]; exact hc) (fun t ht => by rw [SN.1 ht]; have := lH h0; show (ef v).size ≤ _; omega);rw [hm] at hmk;rw [show xM v = 0 by unfold xM; rw [Si (by rw [hf]; decide)]];refine aj (N := 20) (l := [.int .i64 v, .agg #[.bool c.neg, .string c.bf, .int .i64 c.e]]) Tryz.func45 rfl rfl (by simp) ?_;refine sr ?_;refine cq hh [_,_,_] ?_;intro b3 w3 hh;refine bJ hh ?_;intro b4 w4 hh;refine aI (aa (ah (sr (mI ?_))));refine br hh (hfw _) rfl ?_;intro w7 hh;refine fF ?_;refine aa (cF (aq (ai (ah ?_))));refine mR [] [0, 0, 2, 6, 0, 30, 62, 127, 255, 255, 1023, 2047] 7 [[(0, none)], [(0, none)], [(11, some 1)], [(12, some 2)], [(3, none)], [(13, some 3), (14, some 4)], [(15, some 5)]] [(6, 16), (5, 15), (4, 14), (3, 13), (2, 12), (1, 11), (0, 10)] [([], 4, [(6, 16), (5, 15), (4, 14), (3, 13), (2, 12), (1, 11), (0, 10)])] hh mixed Sf Sf Se ?_;refine eH ?_;refine eH ?_
  refine a8 (i := 2) (ki v.toNat 1 (nQ (List.replicate v.toNat 0))) (ki.ext) ?_ ?_
  ·intro ρ1 w1 hj hR;exact su v.toNat ▸ KJ (n := v.toNat) (show ρ1 11 = Value.int _ _ from hR.1) (show ρ1 11 = Value.int _ _ from hR.1) Sd Sd bq.out aP.out rfl Sd Sd (fun _ _ h1 h2 => ⟨h2, h1⟩)
  refine a8 (i := 3) (Is (.string (ef v))) (Is.ext) ?_ ?_
  ·intro ρ1 w1 hj hR;obtain ⟨g12, e12, o12⟩ := hR.1;exact let ⟨g, e, o⟩ := hR.1; gK rfl (me (l := List.replicate v.toNat 0) bq.out bq.out bq.out e o) ⟨Below.refl _ _, rfl⟩
  refine eX 1 [_,_,_] ?_;refine dB [_,_,_,_] ?_;refine z7 [_,_,_,_] ?_;refine aR ?_;intro p_ hp_;simp only [SH, Vm, or_false] at hp_
  rcases hp_ with rfl
  intro f W hJ hV;have hb_3 := hJ.bl;obtain ⟨v16, v15, v14, v13, v12, v11, v10, _⟩ := hV;simp only [k5];have e10 : f 0 = _ := v10;rw [e10];have e11 : f 1 = _ := v11;rw [e11];obtain ⟨g12, e12, o12⟩ : ki v.toNat 1 (nQ (List.replicate v.toNat 0)) (f 2) W := v12;rw [e12];have e13 : f 3 = _ := v13;rw [e13];have e14 : f 4 = _ := v14;rw [e14];have e15 : f 5 = _ := v15;rw [e15];obtain ⟨A16, c16, e16, f16⟩ : Rows _ _ _ (f 6) W := v16;rw [e16];replace hh := hJ.hp;clear e10 e11 e12 e13 e14 e15 e16 hJ;refine aC (hmk _ _ _ (hT.hp hh) f16) ak.out rfl Se ?_; rintro e_ w17 ⟨g, og, rfl, h3⟩; refine ⟨_, rfl, ?_⟩; replace hh := hh.join h3;refine eN ?_;simp only [Sv, Ss] at hh;refine cd (i := 8) (by repeat (first | exact bT | refine bG ?_ | refine bW ?_ | refine np_scope ?_)) rfl Sf Sf Sf (fun _ => de (show _ = Value.tuple (List.toArray _) from rfl) rfl) Se ?_;refine cd (i := 9) (by repeat (first | exact bT | refine bG ?_ | refine bW ?_ | refine np_scope ?_)) rfl Sf Sf Sf (fun _ => de (show _ = Value.tuple (List.toArray _) from rfl) rfl) Se ?_;refine lL 10 Se Sf Se Sf Sf ?_;exact CP
def kv (v : Int) (x : Nat) : ByteArray := ⟨((List.replicate v.toNat (0 : UInt8)).set x 1).toArray⟩
theorem pD {v : Int} {x : Nat} (h : 0 ≤ v) : ((kv v x).size : Int) = v := by
 have : (kv v x).size = v.toNat := by unfold kv; show ((List.replicate v.toNat (0 : UInt8)).set x 1).toArray.size = _; rw [US, TL, TP]
 omega
theorem yE (v : Int) (x : Nat) : eI (kv v x).data.toList = true := by
 unfold eI;rw [SU];intro c hc;have : (kv v x).data.toList = (List.replicate v.toNat 0).set x 1 := rfl;rw [this] at hc
 rcases VE hc with h | rfl
 ·rw [(List.mem_replicate.1 h).2]; decide
 ·decide
theorem Ev {l : List UInt8} {i : Nat} {c : UInt8} (h : i < l.length) : bM (nQ l) (i * 1) [.int .u8 c.toNat] = nQ (l.set i c) := by
 unfold bM nQ;rw [SI, Vs, Sj h, Tt, SW, List.map_take, UN, S5]
 rfl
def rV (v x : Int) : Int := if iJ v = false ∨ x < 0 ∨ v ≤ x then 1 else 0
theorem z9 (v x : Int) (w : World) (hT : dD w) :
  Calls Tryz.prog 117 #[.int .i64 v, .int .i64 x] w fun r w' => ∃ g : PX, gh (rV v x) v (aF [⟨kv v x.toNat, nR ((1 : Int) : Dyadic)⟩]) g ∧ r = .returned (.tuple #[.agg #[.int .i64 g.v, .slice g.A g.n g.c], .int .i64 (rV v x)]) ∧ Hp w [g.row] w' := by
 have hh := Hp.start w;have hfw := fun w1 => mJ v w1
 cases hf : iJ v with
 | false =>
  rw [hf] at hfw;rw [show rV v x = 1 by unfold rV; rw [Sj (.inl hf)]];refine Da ?_;refine sr ?_;refine bJ hh ?_;intro b4 w4 hh;refine aI (aa (ah (sr (mI ?_))));refine br hh (hfw _) rfl ?_;intro w8 hh;refine fF ?_;refine mB ?_;refine gS (gS ?_);refine fV ?_;refine mB ?_;refine gS (gS (gS ?_));refine fV ?_;refine aa (cT (sr ?_));exact KL
 | true =>
  rw [hf] at hfw;obtain ⟨h0, h12⟩ := gu.1 hf;by_cases hx0 : x < 0
  ·rw [show rV v x = 1 by unfold rV; rw [Sj (.inr (.inl hx0))]];refine Da ?_;refine sr ?_;refine bJ hh ?_;intro b4 w4 hh;refine aI (aa (ah (sr (mI ?_))));refine br hh (hfw _) rfl ?_;intro w8 hh;refine fF ?_;refine mB (gT (mI (gT ?_)));refine a6 ?_;refine fa ?_;refine mB ?_;refine gS (gS (gS ?_));refine fV ?_;refine aa (cT (sr ?_));exact KL
  ·by_cases hx1 : v ≤ x
   ·rw [show rV v x = 1 by unfold rV; rw [Sj (.inr (.inr hx1))]];refine Da ?_;refine sr ?_;refine bJ hh ?_;intro b4 w4 hh;refine aI (aa (ah (sr (mI ?_))));refine br hh (hfw _) rfl ?_;intro w8 hh;refine fF ?_;refine mB (gT (mI (gT ?_)));refine a6 ?_;refine fa ?_;refine mB (gT (mI (gT (mI (gT ?_)))));refine ee ?_;refine fa ?_;refine aa (cT (sr ?_));exact KL
   ·rw [show rV v x = 0 by unfold rV; rw [Si (by rintro (h | h | h); exact absurd (hf.symm.trans h) Se; omega; omega)]];have hm : q7 v [⟨kv v x.toNat, nR ((1 : Int) : Dyadic)⟩] = 0 := xZ hf (by unfold fK; rw [yE, SF (pD h0)]; rfl);have z1 : Sz 24 ((1 : Int) : Dyadic) := Fv (m := 1) (e := 0) Se Se Se;have hmk := fun A cc w1 hT1 hS1 => qo v A 1 cc [⟨kv v x.toNat, nR ((1 : Int) : Dyadic)⟩] 24 w1 hT1 hS1 Se Sd (fun t ht => by rw [SN.1 ht]; exact ⟨z1.ok Se, by show Sz 24 (nR _).d; rw [cn]; exact z1⟩) (fun t ht => by rw [SN.1 ht]; have := pD (x := x.toNat) h0; show (kv v x.toNat).size ≤ _; omega);rw [hm] at hmk;refine Da ?_;refine sr ?_;refine bJ hh ?_;intro b4 w4 hh;refine aI (aa (ah (sr (mI ?_))));refine br hh (hfw _) rfl ?_;intro w8 hh;refine fF ?_;refine mB (gT (mI (gT ?_)));refine a6 ?_;refine fa ?_;refine mB (gT (mI (gT (mI (gT ?_)))));refine ee ?_;refine fa ?_;refine aa (cF (aq (ai (sr (mI ?_)))));refine gD (n := (v.toNat)) hh rfl rfl Sd Sd bq.out aP.out rfl Sd Sd Se ?_;intro b21 w21 hh;refine aL (aa (sr (mL (mI ?_))));refine cG (k := (x.toNat)) bq.out aP.size rfl rfl Sd Sd Se ?_;rw [su] at hh
    have hll : (nQ (List.replicate v.toNat 0)).length = v.toNat := by simp [nQ]
    refine He ?_;intro ws hh;simp only [Sy] at hh;rw [show bM (nQ (List.replicate v.toNat 0)) (x.toNat * 1) [.int .u8 1] = nQ ((List.replicate v.toNat 0).set x.toNat 1) from Ev (l := List.replicate v.toNat 0) (i := x.toNat) (c := 1) (by rw [TP]; omega)] at hh;refine aa (ah ?_);refine mR [] [0, 0, 2, 0, 14, 30, 63, 127, 127, 511, 1023] 6 [[(0, none)], [(6, none)], [(26, some 1)], [], [(27, some 2), (28, some 3)], [(29, some 4)]] [(5, 30), (4, 29), (3, 28), (2, 27), (1, 26), (0, 25)] [([], 4, [(5, 30), (4, 29), (3, 28), (2, 27), (1, 26), (0, 25)])] hh mixed Sf Sf Se ?_;refine eH ?_;refine iw ?_;refine a8 (i := 2) (Is (.string ⟨(((List.replicate v.toNat 0).set x.toNat 1)).toArray⟩)) Is.ext ?_ ?_
    ·intro ρ1 w1 hj hR;exact gK rfl (me (l := ((List.replicate v.toNat 0).set x.toNat 1)) bq.out bq.out bq.out (show ρ1 26 = Value.slice _ _ _ from hR.1) (hj.hp.aD (i := 0) rfl)) ⟨Below.refl _ _, rfl⟩
    refine dC (fun _ hj => kJ 1 _ (hT.hp hj.hp) Se Se) ?_;refine dB [_,_,_,_] ?_;refine z7 [_,_,_,_] ?_;refine aR ?_;intro p_ hp_;simp only [SH, Vm, or_false] at hp_
    rcases hp_ with rfl
    intro f W hJ hV;have hb_5 := hJ.bl;obtain ⟨v30, v29, v28, v27, v26, v25, _⟩ := hV;simp only [k5];have e25 : f 0 = _ := v25;rw [e25];have e26 : f 1 = _ := v26;rw [e26];have e27 : f 2 = _ := v27;rw [e27];have e28 : f 3 = _ := v28;rw [e28];have e29 : f 4 = _ := v29;rw [e29];obtain ⟨A30, c30, e30, f30⟩ : Rows _ _ _ (f 5) W := v30;rw [e30];replace hh := hJ.hp;clear e25 e26 e27 e28 e29 e30 hJ;refine aC (hmk _ _ _ (hT.hp hh) f30) ak.out rfl Se ?_; rintro e_ w31 ⟨g, og, rfl, h3⟩; refine ⟨_, rfl, ?_⟩; replace hh := hh.join h3;refine eN ?_;simp only [Sv, Ss] at hh;refine cd (i := 7) (by repeat (first | exact bT | refine bG ?_ | refine bW ?_ | refine np_scope ?_)) rfl Sf Sf Sf (fun _ => de (show _ = Value.tuple (List.toArray _) from rfl) rfl) Se ?_;refine cd (i := 8) (by repeat (first | exact bT | refine bG ?_ | refine bW ?_ | refine np_scope ?_)) rfl Sf Sf Sf (fun _ => de (show _ = Value.tuple (List.toArray _) from rfl) rfl) Se ?_;refine lL 9 Se Sf Se Sf Sf ?_;exact OH
def QH (p : PX) (n : Nat) : List TR × Int := (List.replicate n p).foldl jk (aF [⟨ef p.v, nR ((1 : Int) : Dyadic)⟩], 0)
def Ra (p : PX) (n : Int) : Int := if p.e = 0 then (if n < 0 ∨ 127 < n then 1 else (QH p n.toNat).2) else p.e
def Q2 (ps : List PX) (R : List HE) (g : PX) : Prop := (g ∈ ps ∧ R = []) ∨ R = [g.row]
section
variable {ρ : Rf} {w : World} {d : Option Nat} {ty u : TypeId} {pos : String} {af : Array Edge} {g : Option (Nat × Bool)} {x y : Operand} {s t : TR}
end
def RU (a : NR) : Bool := decide ((24 : Int) < a.bf.size ∨ a.e < -300 ∨ 300 < a.e)
structure R3 (ts : List TR) : Prop where
 n : ts.length ≤ 12
 ok : iA 492 ts
 sz : ∀ t ∈ ts, t.m.size ≤ 50
variable {w w' : World}
def PX.norm (g : PX) : PX := ⟨g.v, none, 0, 0, g.ts⟩
theorem ve (ps : List PX) : fi (ps.map PX.norm) = fi ps := by
 have h1 : (ps.map PX.norm).find? (fun g => decide (g.e ≠ 0)) = (ps.find? fun g => decide (g.e ≠ 0)).map PX.norm := List.find?_map ..;have h2 : tZ (ps.map PX.norm) = tZ ps := by
  unfold tZ;rw [List.any_map, Ty]
  rfl
 unfold fi;rw [h1, h2, Sx]
 cases ps.find? (fun g => decide (g.e ≠ 0)) <;> rfl
theorem sE (ps : List PX) : ff (ps.map PX.norm) = ff ps := by unfold ff; rw [Ty]; rfl
structure Ey (ps os : List PX) (R : List HE) : Prop where
 eq : ∀ (j : Nat) (g o : PX), ps[j]? = some g → os[j]? = some o → o.v = g.v ∧ o.ts = g.ts ∧ o.n = g.n
 my : ∀ o ∈ os, o.row ∈ R ∧ o.n ≤ o.c
theorem Ey.add {ps os : List PX} {R : List HE} {g o : PX} (h : Ey ps os R) (hx : ps[os.length]? = some g) (he : o.v = g.v ∧ o.ts = g.ts ∧ o.n = g.n) (hc : o.n ≤ o.c) : Ey ps (os ++ [o]) (o.row :: R) := by
 refine ⟨fun j g2 o2 h1 h2 => ?_, fun o2 h2 => ?_⟩
 ·by_cases hj : j < os.length
  ·rw [UM hj] at h2;exact h.eq j g2 o2 h1 h2
  ·by_cases hj2 : j = os.length
   ·subst hj2;rw [Tu (So _), Td] at h2;rw [hx] at h1
    cases h1; cases h2
    exact he
   ·rw [Sw (by rw [Sr]; simp; omega)] at h2
    cases h2
 ·rcases S2.1 h2 with h2 | h2
  ·exact ⟨SA _ (h.my o2 h2).1, (h.my o2 h2).2⟩
  ·rw [SN.1 h2];exact ⟨Sq, hc⟩
theorem Ey.key {ps os : List PX} {R : List HE} (h : Ey ps os R) (hl : os.length = ps.length) : os.map PX.norm = ps.map PX.norm := by
 apply S0;intro j;rw [St, St];by_cases hj : j < os.length
 ·obtain ⟨o, ho⟩ := av hj;obtain ⟨g, hg⟩ := av (l := ps) (k := j) Sd;obtain ⟨e1, e2, _⟩ := h.eq j g o hg ho;rw [ho, hg];show some (PX.norm o) = some (PX.norm g);unfold PX.norm;rw [e1, e2]
 ·rw [Sw Sd, Sw Sd]
theorem J5 {H : List HE} {g : PX} (hh : Hp w H w') (h : g.row ∈ H) : g.at_ w' := mV (hh.own g.row h)
def E4 (p : PX) (c : Dyadic) : Int := if p.e = 0 then fY (p.ts.map (nx c)) else p.e
theorem ER {X : List TR} {c : Dyadic} {i : Nat} {z : TR} (hz : l[i]? = some z) (hX : X = (l.take i).map (nx c) ++ l.drop i) : X[i]? = some z ∧ X.set i ⟨z.m, nR (z.c.d * c)⟩ = (l.take (i + 1)).map (nx c) ++ l.drop (i + 1) := by
 obtain ⟨h1, h2⟩ := SC.1 hz;have hl : ((l.take i).map (nx c)).length = i := by rw [Sx, SP]; omega
 refine ⟨?_, ?_⟩
 ·rw [hX, Tu Sd, hl, Td, Uo];exact hz
 ·rw [ay hz, Tt, hX, Un _ _ Sd, hl, Td, S5, gE hz]
  rfl
theorem BJ {c : Dyadic} (ho : iA k l) (hc : Sz j c) (hk : k + j ≤ 1000000) : iA (k + j) (l.map (nx c)) := fun t ht => by
 obtain ⟨z, hz, rfl⟩ := SB.1 ht;have hs := (ho z hz).2.mul hc;exact ⟨hs.ok Sd, by show Sz _ (nR _).d; rw [cn]; exact hs⟩
theorem vU (p : PX) (c : NR) (k : Nat) (w : World) (hT : dD w) (hp : p.at_ w) (lp : p.kq k) (hc : c.ok ∧ Sz k c.d) (hk : k ≤ 400000) :
  Calls Tryz.prog 53 #[.agg #[.int .i64 p.v, .slice p.A p.n p.c], .agg #[.bool c.neg, .string c.bf, .int .i64 c.e]] w fun r w' => ∃ g : PX, gh (E4 p c.d) p.v (aF (p.ts.map (nx c.d))) g ∧ r = .returned (.tuple #[.agg #[.int .i64 g.v, .slice g.A g.n g.c], .int .i64 (E4 p c.d)]) ∧ Hp w [g.row] w' := by
 have hh := Hp.start w;have hck := fun w1 hT1 hb => mZ p k w1 hT1 (hp.ext hb) lp;unfold E4;by_cases h0 : p.e = 0
 ·rw [Sj h0];rw [h0] at hck;obtain ⟨_, h4, _, _⟩ := cm h0;have hpl : p.ts.length = p.n := hp.ln;refine KV ?_;refine sr ?_;refine cq hh [_,_] ?_;intro b2 w2 hh;refine cq hh [_,_,_] ?_;intro b3 w3 hh;refine bJ hh ?_;intro b4 w4 hh;refine aI (aa (ah (sr ?_)));refine cu hh 2 [_,_] ?_;refine gW ?_;intro w10 hh;refine aI (aa (sr (mI ?_)));refine cX (aa (cF (aq (ai (sr (bF ?_))))));refine bE hh 2 ?_;refine aC (lr p.A p.n p.c p.ts _ (hp.ext hh.below) lp.n) ak.out rfl Se ?_;rintro e_ w17 ⟨A17, c17, rfl, hown_, hb_⟩;refine ⟨_, rfl, ?_⟩;replace hh := hh.aO (x := .row _ _ _ _ _ _) hb_ hown_;refine pj ?_;refine aN [8, 20, 21, 22, 23, 24, 25, 26, 27, 28, 29, 30, 31, 32, 33, 34, 35] 20
   (fun v w' => ∃ (i : Nat) (X : List TR), i ≤ p.n ∧ v = .int .i64 i ∧ X = (p.ts.take i).map (nx c.d) ++ p.ts.drop i ∧ Hp w [.row A17 p.n c17 96 4 (aw TR.cells X), .blk b4 24 [.int .i64 0, .slice none 0 0] (0, 0), .blk b3 65 [.bool c.neg, .string c.bf, .int .i64 c.e] (0, 0), .blk b2 24 [.int .i64 p.v, .slice p.A p.n p.c] (0, 0)] w')
   (fun v _ => p.n - (intOf v).toNat) ?_ ?_
  ·exact ⟨0, p.ts, Sn _, rfl, rfl, hh⟩
  ·clear hh;rintro ρ' v w' ⟨i, X, hi, rfl, hX, hh⟩;have hXl : X.length = p.n := by rw [hX, Sr, Sx, SP, TT]; omega
   by_cases hlt : i < p.n
   ·obtain ⟨z, hz⟩ := av (l := p.ts) (k := i) Sd;obtain ⟨hXz, hXn⟩ := ER hz hX;have hzo := lp.ok z (Sp hz);have hdm := fun A cc w1 hT1 hS1 => iD A 2 cc [z.c, c] w1 hT1 hS1 (by simpa using ⟨hzo.1, hc.1⟩) k (by simpa using ⟨hzo.2, hc.2⟩) Sd Se;rw [show iX ([z.c, c].map NR.d) = z.c.d * c.d by show 1 * z.c.d * c.d = _; rw [Uz]] at hdm;have hrl := dZ TR.len X;obtain ⟨g0, rfl⟩ := hh.cD (i := 0) rfl Sd;refine sr ?_;refine a6 (aa (ah (cT (aq (ai (ah (ao (sr (mI (aI (aa ?_)))))))))));refine aU 10 [[(7, none)], [(8, none)], [(7, none)], [(8, none)], [(25, some 2), (26, some 3)], [(27, some 4)], [(28, some 5)], [(3, none)], [(29, some 6), (30, some 7)], [(31, some 8)]] [(9, 32), (8, 31), (7, 30), (6, 29), (5, 28), (4, 27), (3, 26), (2, 25), (1, 24), (0, 23)] hh mixed Sf ?_;refine iw ?_;refine eH ?_;refine iw ?_;refine eH ?_;refine Df (i) ?_;refine ek ?_;refine xx [_,_,_] (fun _ hj => (hj.hp.eL (f := TR.cells) (x := z) (l := X) (i := 0) rfl TR.len Se hXz).drop 1) ?_;refine eX 2 [_,_,_] ?_;refine z7 [_,_,_,_,_,_] ?_;refine a8 (i := 9) (Is (.agg #[.bool (nR (z.c.d * c.d)).neg, .string (nR (z.c.d * c.d)).bf, .int .i64 (nR (z.c.d * c.d)).e])) Is.ext ?_ ?_
    ·intro ρ1 w1 hj hR;obtain ⟨A31, c31, h31, s31⟩ := hR.1;exact bA rfl (aZ ak.out (aA h31 a7)) (hdm A31 c31 _ (hT.hp hj.hp) s31) (fun _ _ hq => ⟨_, hq.1, hq.2, rfl⟩)
    refine aR ?_;intro f W hJ hV;have hb_8 := hJ.bl;obtain ⟨v32, v31, v30, v29, v28, v27, v26, v25, v24, v23, _⟩ := hV;obtain ⟨A31, c31, e31, f31⟩ : Rows _ _ _ (f 8) W := v31;replace hh := hJ.hp;refine aX (bp (ae v32 (ae e31 (ae v30 (ae v29 (ae v28 (ae v27 (ae v26 (ae v25 (ae v24 (ae v23 aW))))))))))) ?_;dsimp only [ck];clear e31 hJ;refine gj ?_;refine bF ?_;refine C4 ?_;intro ws hh;simp only [Sy] at hh;rw [ur hXz, hXn] at hh;refine fG ?_;refine a9 (mI (az (ai ?_)));replace hh := hh.sub (Sk _ (Sk _ (Sk _ (Sk _ SD))));refine ⟨⟨i + 1, _, Sd, rfl, rfl, hh⟩, by show p.n - (i + 1) < p.n - i; omega, ?_⟩;exact eB
   ·obtain rfl : i = p.n := Sd;rw [Su Sd, Uf Sd, S3] at hX;have hso := BJ lp.ok hc.2 Sd;rw [← hX] at hso ⊢;refine sr ?_;refine a6 (aa (ah (cF (aV (aE (aE (bo (ai (sr (bF ?_))))))))));refine bE hh 3 ?_;refine mL ?_;refine aC (ke p.v A17 p.n c17 X (k + k) _ hT hh hXl Sd Sd hso) ak.out rfl Se ?_;rintro e_ w39 ⟨g, og, rfl, hh⟩;refine ⟨_, rfl, ?_⟩;refine cE ?_;refine cE ?_;exact CP
 ·rw [Si h0];refine KV ?_;refine sr ?_;refine cq hh [_,_] ?_;intro b2 w2 hh;refine cq hh [_,_,_] ?_;intro b3 w3 hh;refine bJ hh ?_;intro b4 w4 hh;refine aI (aa (ah (sr ?_)));refine cu hh 2 [_,_] ?_;refine gW ?_;intro w10 hh;exact Kr
abbrev ZT := List (List UInt8 × Int)
def zT (L : ZT) : List TR := L.map fun x => ⟨str x.1, nR ((x.2 : Int) : Dyadic)⟩
def zS (L : ZT) (b : List UInt8) : Int := match L with | [] => 0 | x :: L => (if x.1 = b then x.2 else 0) + zS L b
def zC : ZT → Bool
 | [] => true
 | [x] => !decide (x.2 = 0)
 | x :: y :: L => !decide (x.2 = 0) && (Op.bytesLess x.1 y.1 && zC (y :: L))
def zE (L K : ZT) : Bool := (L ++ K).all fun x => decide (zS L x.1 = zS K x.1)
def zP (P Q : ZT) : ZT := P.flatMap fun x => Q.map fun y => ((mulL x.1 y.1).1, x.2 * y.2)
def RV (P Q : ZT) : List Int := P.flatMap fun x => Q.map fun y => (mulL x.1 y.1).2
def zM (v : Int) (L : ZT) : Bool := L.all fun x => eI x.1 && decide ((x.1.length : Int) = v)
def zB (L : ZT) : Bool := L.all fun x => decide (x.2.natAbs < 256) && decide (x.1.length ≤ 50)
def RC (n : Int) : ZT := [([0, 1], n), ([1, 0], 1)]
theorem r4 {g h : PX} (h1 : g.e = 0) (h2 : h.e = 0) (h3 : h.v = g.v) : fi [g, h] = 0 := by
 have e : [g, h].find? (fun g => decide (g.e ≠ 0)) = none := iQ (TA.2 fun x hx => by
  rcases SH.1 hx with rfl | hx
  ·simp [h1]
  ·rw [SN.1 hx]; simp [h2])
 unfold fi;rw [e];show (if 2 = 0 ∨ tZ [g, h] = true then (1 : Int) else 0) = 0;rw [Si];rintro (h0 | h0)
 ·cases h0
 ·obtain ⟨x, hx, hx2⟩ := Ub.1 h0;have hx3 : x.v ≠ g.v := Ug hx2
  rcases SH.1 hx with rfl | hx
  ·exact hx3 rfl
  ·rw [SN.1 hx] at hx3;exact hx3 h3
def Qo (ds : List Int) : VP := fun v W => ∃ g : Option Addr × Nat, v = .slice g.1 ds.length g.2 ∧ Sl W g.1 ds.length 1 (bm ds)
structure RR (E : Int) (g : PX) : Prop where
 bad : E ≠ 0 → g.v = 0 ∧ g.ts = []
 ok : E = 0 → g.e = 0 ∧ iA 100000 g.ts ∧ ∀ t ∈ g.ts, t.m.size ≤ 100000
theorem rg (h : fY l = 0) : (aF l).length ≤ 4096 := by
 unfold fY at h;by_cases h4 : 4096 < (aF l).length
 ·rw [Sj h4] at h; omega
 ·omega
theorem kZ (h : iA k l) (hk : k + l.length ≤ j) (hj : j ≤ 3999990) : iA j (aF l) := fun t ht => by
 have h3 : Sz j t.c.d := (mD (fun t ht => (h t ht).2) t ht).mono hk;exact ⟨by rw [(eZ l).nf t ht]; exact h3.ok hj, h3⟩
theorem nM (h : ∀ t ∈ l, t.m.size ≤ 100000) : ∀ t ∈ aF l, t.m.size ≤ 100000 := fun t ht => by
 obtain ⟨s, hs, e⟩ := jT t ht;rw [← e];exact h s hs
theorem D2 {ps : List PX} {v : Int} (h0 : ps ≠ []) (he : ∀ g ∈ ps, g.e = 0) (hv : ∀ g ∈ ps, g.v = v) : fi ps = 0 := by
 unfold fi;rw [iQ (TA.2 fun x hx => by simp [he x hx])];show (if ps.length = 0 ∨ tZ ps = true then (1 : Int) else 0) = 0;rw [Si];rintro (h | h)
 ·exact h0 (TW h)
 ·obtain ⟨x, hx, hx2⟩ := Ub.1 h;have hx3 : x.v ≠ ff ps := Ug hx2;obtain ⟨g, l, rfl⟩ := List.exists_cons_of_ne_nil h0;exact hx3 ((hv x hx).trans (hv g Sq).symm)
theorem k7 (h : l.length ≤ 4096) : fY l = 0 := by
 unfold fY;have := cI l;rw [Si Sd]
theorem gh.v0 {v : Int} {g : PX} (o : gh 0 v ts g) : g.v = v := o.v
theorem gh.t0 {v : Int} {g : PX} (o : gh 0 v ts g) : g.ts = ts := o.ts
theorem LP (p q : PX) : yv [p, q] = p.ts ++ q.ts := by show p.ts ++ (q.ts ++ []) = _; rw [S3]
variable {n : Nat}
def fD (j : Nat) (t : TR) : Nat := match t.m.data.toList[j]? with | some e => e.toNat | none => 0
theorem l0 {t : TR} {e : UInt8} (h : t.m.data.toList[j]? = some e) : fD j t = e.toNat := by unfold fD; rw [h]
def a0 (p : List TR) (j n : Nat) : List TR := p.filter fun t => decide (fD j t = n)
def gN (q : List TR) (sub : List TR → Int × List TR) (p : List TR) (j n : Nat) (a : Int × List TR) : Int × List TR :=
 if a.1 ≠ 0 then a else if a.2.length = 0 ∧ (a0 p j n).length = 0 then a else
 if e6 a.2 q ≠ 0 then (e6 a.2 q, []) else if (sub (a0 p j n)).1 ≠ 0 then ((sub (a0 p j n)).1, []) else
 if fY (aF (bR a.2 q) ++ (sub (a0 p j n)).2) ≠ 0 then (fY (aF (bR a.2 q) ++ (sub (a0 p j n)).2), []) else (0, aF (aF (bR a.2 q) ++ (sub (a0 p j n)).2))
def bh (q : List TR) (sub : List TR → Int × List TR) (p : List TR) (j : Nat) : Nat → Int × List TR
 | 0 => (0, [])
 | i + 1 => gN q sub p j (127 - i) (bh q sub p j i)
theorem iF (q : List TR) (sub : List TR → Int × List TR) (p : List TR) (j i : Nat) : bh q sub p j (i + 1) = gN q sub p j (127 - i) (bh q sub p j i) := rfl
def eh (v : Int) : List (List TR) → Nat → List TR → Int × List TR
 | [], _, p => (0, aF [⟨ef v, (p.map TR.c).headD (nR 0)⟩])
 | q :: qs, j, p => bh q (eh v qs (j + 1)) p j 128
theorem jH {q : List TR} {sub : List TR → Int × List TR} {i : Nat} (h : (bh q sub p j i).1 ≠ 0) (hk : i ≤ k) : bh q sub p j k = bh q sub p j i := by
 induction k with
 | zero =>
  obtain rfl : i = 0 := Sd
  rfl
 | succ k ih =>
  by_cases e : i = k + 1
  ·rw [e]
  ·have := ih Sd;show gN q sub p j (127 - k) (bh q sub p j k) = _;rw [this];unfold gN;rw [Sj h]
theorem yN {q : List TR} (hp : iA k p) (hq : iA j q) (sq : ∀ t ∈ q, t.m.size ≤ 100000) (h : e6 p q = 0) (hk : k + j ≤ 900000) : iA (k + j + p.length * q.length) (aF (bR p q)) ∧ ∀ t ∈ aF (bR p q), t.m.size ≤ 100000 := by
 obtain ⟨h6, _, h4⟩ := jZ h;have ho := oO hp hq Sd;have hz := mD fun t ht => (ho t ht).2;rw [jE] at hz;refine ⟨fun t ht => ?_, (Cb hp hq sq h hk).2⟩;have : Sz (k + j + p.length * q.length) t.c.d := hz t ht;refine ⟨?_, this⟩;rw [(eZ _).nf t ht];exact this.ok Sd
structure jf (v : Int) (k : Nat) (l : List TR) : Prop where
 e : fh v l = 0
 ok : iA k l
 sz : ∀ t ∈ l, t.m.size ≤ 100000
theorem jf.mono {v : Int} (h : jf v k l) (hk : k ≤ j) : jf v j l := ⟨h.e, h.ok.mono hk, h.sz⟩
theorem jf.nil {v : Int} (hv : iJ v = true) : jf v k [] := ⟨Dv hv (Sn _) (fun _ h => nomatch h) ⟨.nil, (fun _ h => nomatch h), (fun _ h => nomatch h)⟩, (fun _ h => nomatch h), (fun _ h => nomatch h)⟩
theorem jf.len {v : Int} (h : jf v k l) : l.length ≤ 4096 := (cm h.e).2.1
theorem De {v : Int} {q : List TR} {T : Nat} (hp : jf v k p) (hq : jf v j q) (hT : q.length ≤ T) (h : e6 p q = 0) (hk : k + j ≤ 900000) : jf v (k + j + 4096 * T) (aF (bR p q)) := by
 obtain ⟨h6, h5, h4⟩ := jZ h;obtain ⟨f1, f2, f3, f4⟩ := cm hp.e;have := yN hp.ok hq.ok hq.sz h hk;have hm : p.length * q.length ≤ 4096 * T := Tw hp.len hT;exact ⟨eV f1 h4 (mz f3 h5), this.1.mono Sd, this.2⟩
theorem CZ {v : Int} {a b : List TR} (ha : jf v k a) (hb : jf v k b) (h : fY (a ++ b) = 0) (hk : k ≤ 3000000) : jf v (k + 8192) (aF (a ++ b)) := by
 obtain ⟨f1, f2, f3, f4⟩ := cm ha.e;obtain ⟨g1, g2, g3, g4⟩ := cm hb.e;have hl : (a ++ b).length ≤ 8192 := by rw [Sr]; omega
 refine ⟨eV f1 (rg h) fun t ht => ?_, kZ (fun t ht => ?_) (show k + (a ++ b).length ≤ k + 8192 by omega) Sd, nM fun t ht => ?_⟩
 ·rcases S2.1 ht with h | h
  ·exact f3 t h
  ·exact g3 t h
 ·rcases S2.1 ht with h | h
  ·exact ha.ok t h
  ·exact hb.ok t h
 ·rcases S2.1 ht with h | h
  ·exact ha.sz t h
  ·exact hb.sz t h
theorem GP {v : Int} {q : List TR} {sub : List TR → Int × List TR} {a : Int × List TR} {S K T B S' : Nat} (ha : jf v S a.2) (hq : jf v K q) (hT : q.length ≤ T) (hb : (sub (a0 p j n)).1 = 0 → jf v B (sub (a0 p j n)).2) (h1 : S + K + 4096 * T + 8192 ≤ S') (h2 : B + 8192 ≤ S') (hS : S' ≤ 900000)
  (h : (gN q sub p j n a).1 = 0) : jf v S' (gN q sub p j n a).2 := by
 unfold gN at h ⊢;by_cases c0 : a.1 ≠ 0
 ·rw [Sj c0] at h; exact absurd h c0
 ·rw [Si c0] at h ⊢;by_cases c1 : a.2.length = 0 ∧ (a0 p j n).length = 0
  ·rw [Sj c1];exact ha.mono Sd
  ·rw [Si c1] at h ⊢;by_cases c2 : e6 a.2 q ≠ 0
   ·rw [Sj c2] at h; exact absurd h c2
   ·rw [Si c2] at h ⊢;by_cases c3 : (sub (a0 p j n)).1 ≠ 0
    ·rw [Sj c3] at h; exact absurd h c3
    ·rw [Si c3] at h ⊢;by_cases c4 : fY (aF (bR a.2 q) ++ (sub (a0 p j n)).2) ≠ 0
     ·rw [Sj c4] at h; exact absurd h c4
     ·rw [Si c4];exact (CZ ((De ha hq hT Sd Sd).mono (show _ ≤ S' - 8192 by omega)) ((hb Sd).mono Sd) Sd Sd).mono Sd
theorem E7 (h : ∀ t ∈ p, fD j t < n) : a0 p j n = [] := List.filter_eq_nil_iff.2 fun t ht => by
 have := h t ht;simp only [SJ];omega
theorem jd : ∀ t ∈ a0 p j n, t ∈ p := fun t ht => (TD.1 ht).1
theorem gG {q p : List TR} {sub : List TR → Int × List TR} {j D : Nat} (h : ∀ t ∈ p, fD j t ≤ D) : ∀ i, i + D ≤ 127 → bh q sub p j i = (0, [])
 | 0, _ => rfl
 | i + 1, hi => by
  show gN q sub p j (127 - i) (bh q sub p j i) = _;rw [gG h i Sd, show gN q sub p j (127 - i) (0, []) = (0, []) by
   unfold gN;rw [Si Se, Sj ⟨rfl, by rw [E7 fun t ht => by have := h t ht; omega]; rfl⟩]]
def fU (c : Nat) : List Nat → Nat → Nat
 | [], k => k
 | d :: ds, k => fU c ds k + d * c + 8192
theorem pC (c k : Nat) : fU c [] k = k := rfl
theorem nP (c d k : Nat) (ds : List Nat) : fU c (d :: ds) k = fU c ds k + d * c + 8192 := rfl
theorem sO {v : Int} {q p : List TR} {sub : List TR → Int × List TR} {j D K T B c : Nat} (hv : iJ v = true) (hq : jf v K q) (hT : q.length ≤ T) (hD : ∀ t ∈ p, fD j t ≤ D) (hD2 : D ≤ 127) (hb : ∀ n, (sub (a0 p j n)).1 = 0 → jf v B (sub (a0 p j n)).2) (hc : K + 4096 * T + 8192 ≤ c) (hS : B + D * c + 8192 ≤ 900000) :
  ∀ i, i ≤ 128 → (bh q sub p j i).1 = 0 → jf v (B + (i + D - 128) * c + 8192) (bh q sub p j i).2
 | 0, _, _ => jf.nil hv
 | i + 1, hi, h0 => by
  by_cases h1 : i + 1 + D ≤ 127
  ·rw [gG hD _ h1];exact jf.nil hv
  ·have h2 : (bh q sub p j i).1 = 0 := by
    refine T1 fun c => ?_;rw [jH c (Nat.le_succ i)] at h0;exact c h0
   have hle : (i + 1 + D - 128) * c ≤ D * c := S9 _ Sd;by_cases h3 : i + D ≤ 127
   ·have h4 := gG (q := q) (sub := sub) hD i h3;show jf v _ (gN q sub p j (127 - i) (bh q sub p j i)).2;have h5 : (gN q sub p j (127 - i) (bh q sub p j i)).1 = 0 := h0;rw [h4] at h5 ⊢;rw [show i + 1 + D - 128 = 0 by omega, UE];unfold gN at h5 ⊢;rw [Si Se] at h5 ⊢;by_cases c1 : ((0 : Int), ([] : List TR)).2.length = 0 ∧ (a0 p j (127 - i)).length = 0
    ·rw [Sj c1]; exact jf.nil hv
    ·rw [Si c1] at h5 ⊢;by_cases c2 : e6 [] q ≠ 0
     ·rw [Sj c2] at h5; exact absurd h5 c2
     ·rw [Si c2] at h5 ⊢;by_cases c3 : (sub (a0 p j (127 - i))).1 ≠ 0
      ·rw [Sj c3] at h5; exact absurd h5 c3
      ·rw [Si c3] at h5 ⊢;by_cases c4 : fY (aF (bR [] q) ++ (sub (a0 p j (127 - i))).2) ≠ 0
       ·rw [Sj c4] at h5; exact absurd h5 c4
       ·rw [Si c4];have hn : jf v B (aF (bR [] q)) := jf.nil hv;exact (CZ hn (hb _ Sd) Sd Sd).mono Sd
   ·have ih := sO hv hq hT hD hD2 hb hc hS i Sd h2;have e1 : (i + 1 + D - 128) * c = (i + D - 128) * c + c := by rw [show i + 1 + D - 128 = (i + D - 128) + 1 by omega, Tl]
    rw [e1] at hle ⊢;generalize (i + D - 128) * c = y at *;generalize D * c = z at *;exact GP ih hq hT (hb _) Sd Sd Sd h0
theorem qj {v : Int} {x : NR} (hv : iJ v = true) (hx : Sz k x.d) (hk : k ≤ 900000) : jf v (k + 1) (aF [⟨ef v, x⟩]) := by
 have h1 := gu.1 hv;have h2 := lH h1.1;refine ⟨eV hv (SK (cI _) (show 1 ≤ 4096 by decide)) fun t ht => ?_, fun t ht => ?_, fun t ht => ?_⟩
 ·rw [SN.1 ht];unfold fK;rw [SE, SJ];exact ⟨pX v, h2⟩
 ·have h1 : Sz (k + 1) t.c.d := mD (k := k) (l := [⟨ef v, x⟩]) (fun s hs => by rw [SN.1 hs]; exact hx) t ht;exact ⟨by rw [(eZ _).nf t ht]; exact h1.ok Sd, h1⟩
 ·obtain ⟨s, hs, e⟩ := jT t ht;rw [← e, SN.1 hs];show (ef v).size ≤ 100000;omega
theorem DC {v : Int} {K T c0 : Nat} (hv : iJ v = true) (hc0 : K + 4096 * T + 8192 ≤ c0) : ∀ (qs : List (List TR)) (j : Nat) (p : List TR) (ds : List Nat) (k : Nat), (∀ q ∈ qs, jf v K q ∧ q.length ≤ T) → iA k p → ds.length = qs.length → (∀ (i d : Nat), ds[i]? = some d → d ≤ 127 ∧ ∀ t ∈ p, fD (j + i) t ≤ d) → fU c0 ds (k + 1) ≤ 900000 →
  (eh v qs j p).1 = 0 → jf v (fU c0 ds (k + 1)) (eh v qs j p).2 := by
 intro qs
 induction qs with
 | nil =>
  intro j p ds k _ hok hds _ hB _;obtain rfl : ds = [] := UG.1 hds;rw [pC] at hB ⊢;refine qj hv ?_ Sd;exact NT
 | cons q qs ih =>
  intro j p ds k hq hok hds hD hB h0
  cases ds with
  | nil => cases hds
  | cons d ds =>
   have hd := hD 0 d rfl;rw [nP] at hB ⊢;have hB1 : fU c0 ds (k + 1) ≤ 900000 := Sd;have hsub : ∀ n, (eh v qs (j + 1) (a0 p j n)).1 = 0 → jf v (fU c0 ds (k + 1)) (eh v qs (j + 1) (a0 p j n)).2 := fun n hn => by
    refine ih (j + 1) (a0 p j n) ds k (fun r hr => hq r (SA _ hr)) (fun t ht => hok t (jd t ht)) (by simpa using hds) (fun i e he => ?_) hB1 hn;exact Ox
   have h1 := sO (sub := eh v qs (j + 1)) (p := p) (j := j) hv (hq q Sq).1 (hq q Sq).2 hd.2 hd.1 hsub hc0 hB 128 (So _) h0;rw [show 128 + d - 128 = d by omega] at h1;exact h1
variable {fr : Nat} {α : Type}
theorem yW : ∀ {a b : List UInt8} {j : Nat} {x y : UInt8}, Op.bytesLess a b = true → a.take j = b.take j → a[j]? = some x → b[j]? = some y → x.toNat ≤ y.toNat
 | [], _, j, x, y, _, _, hx, _ => by simp at hx
 | _, [], j, x, y, _, _, _, hy => by simp at hy
 | c :: a, d :: b, 0, x, y, h, _, hx, hy => by
  simp only [UX, T3] at hx hy;subst hx; subst hy;simp only [Op.bytesLess, Uu, SE, SJ, T0] at h
  rcases h with h | ⟨h, _⟩
  ·exact Nat.le_of_lt (UInt8.lt_iff_toNat_lt.1 h)
  ·rw [h]; exact So _
 | c :: a, d :: b, j + 1, x, y, h, ht, hx, hy => by
  simp only [List.take_succ_cons, List.cons.injEq] at ht;obtain ⟨rfl, ht⟩ := ht;simp only [UR] at hx hy;refine yW (a := a) (b := b) ?_ ht hx hy;simpa [Op.bytesLess] using h
structure Dq (v : Int) (j : Nat) (p : List TR) : Prop where
 qO : rv p
 may : ∀ t ∈ p, fK v t = true
 pre : ∀ a ∈ p, ∀ b ∈ p, a.m.data.toList.take j = b.m.data.toList.take j
theorem Dq.size {v : Int} (h : Dq v j p) : ∀ t ∈ p, (t.m.data.toList.length : Int) = v := fun t ht => by
 rw [← dE];exact Ug (Uq.1 (h.may t ht)).2
theorem Dq.get {v : Int} (h : Dq v j p) (hj : (j : Int) < v) {t : TR} (ht : t ∈ p) : ∃ e : UInt8, t.m.data.toList[j]? = some e ∧ fD j t = e.toNat ∧ e.toNat < 128 := by
 obtain ⟨e, he⟩ := av (l := t.m.data.toList) (k := j) (by have := h.size t ht; omega);exact ⟨e, he, l0 he, rb (Uq.1 (h.may t ht)).1 he⟩
theorem Dq.mono {v : Int} (h : Dq v j p) (hj : (j : Int) < v) : p.Pairwise fun a b => fD j a ≤ fD j b := by
 refine List.Pairwise.imp_of_mem (fun {a b} ha hb hl => ?_) h.qO;obtain ⟨x, hx, ex, _⟩ := h.get hj ha;obtain ⟨y, hy, ey, _⟩ := h.get hj hb;rw [ex, ey];exact yW hl (h.pre a ha b hb) hx hy
theorem Dq.with {v : Int} (h : Dq v j p) (hj : (j : Int) < v) : Dq v (j + 1) (a0 p j n) := by
 refine ⟨h.qO.filter _, fun t ht => h.may t (jd t ht), fun a ha b hb => ?_⟩;obtain ⟨ha1, ha2⟩ := TD.1 ha;obtain ⟨hb1, hb2⟩ := TD.1 hb;obtain ⟨x, hx, ex, _⟩ := h.get hj ha1;obtain ⟨y, hy, ey, _⟩ := h.get hj hb1;have exy : x = y := U2.1 (by rw [← ex, ← ey, Ug ha2, Ug hb2]);rw [ay hx, ay hy, h.pre a ha1 b hb1, exy]
theorem GZ {p : List α} {en : Nat} (h : fr ≤ en) : p.drop fr = (p.drop fr).take (en - fr) ++ p.drop en := by
 have : p.drop en = (p.drop fr).drop (en - fr) := by rw [U9]; congr 1; omega
 rw [this, To]
theorem y9 {en : Nat} (hfe : fr ≤ en) (h1 : ∀ t ∈ p.take fr, fD j t < n) (h2 : ∀ t ∈ (p.drop fr).take (en - fr), fD j t = n) (h3 : ∀ t ∈ p.drop en, n < fD j t) : a0 p j n = (p.drop fr).take (en - fr) := by
 have e : p = p.take fr ++ ((p.drop fr).take (en - fr) ++ p.drop en) := by
  have : p.drop en = (p.drop fr).drop (en - fr) := by rw [U9]; congr 1; omega
  rw [this, To, To]
 unfold a0
 conv => lhs; rw [e]
 rw [Vp, Vp, List.filter_eq_nil_iff.2, List.filter_eq_self.2, List.filter_eq_nil_iff.2, Ss, S3]
 ·intro t ht;have := h3 t ht;simp only [SJ];omega
 ·intro t ht;have := h2 t ht;simpa using this
 ·intro t ht;have := h1 t ht;simp only [SJ];omega
theorem Eh {x : TR} (h : p.Pairwise fun a b => fD j a ≤ fD j b) (hx : p[fr]? = some x) (hn : fD j x < n) : ∀ t ∈ p.take (fr + 1), fD j t < n := fun t ht => by
 rw [ay hx] at ht
 rcases S2.1 ht with ht | ht
 ·have e : p = p.take fr ++ x :: p.drop (fr + 1) := by rw [← gE hx, To]
  rw [e, List.pairwise_append] at h;have := h.2.2 t ht x Sq;omega
 ·obtain rfl := SN.1 ht;exact hn
def Ri (p : PX) (i : Int) : Int := if p.e = 0 then (if i < 0 ∨ p.v ≤ i then 1 else 0) else p.e
def Qy (i : Nat) (t : TR) : Option TR := match t.m.data.toList[i]? with | some e => if e.toNat = 0 then none else some ⟨str (t.m.data.toList.set i (e - 1)), nR (t.c.d * ((e.toNat : Int) : Dyadic))⟩ | none => none
def RM (i : Nat) (l : List TR) : List TR := l.filterMap (Qy i)
variable {next : Rf → World → Prop}
section
variable {ro : Mode} {P : Program} {N : Nat} {Q : Kq} {ρ : Rf} {w : World}
theorem HR {c : Code} {id : Nat} (mods : List Nat) (s0 : Nat) (J : Value → World → Prop) (hc : WC ro P N c (pZ id (dR (fun ρ2 w2 => J (ρ2 s0) w2 ∧ jo mods ρ2 ρ) Q)) ρ w)
  (hn : ∀ ρ' v0 w', J v0 w' → next (cx (mask mods ρ' ρ) s0 v0) w') : WC ro P N c (pZ id (dR next Q)) ρ w :=
 hc.mono fun e ρ2 w2 hq => by
  have key : J (ρ2 s0) w2 ∧ jo mods ρ2 ρ → next ρ2 w2 := fun h => by
   have := hn ρ2 (ρ2 s0) w2 h.1;rwa [jC h.2, ja] at this
  cases e with
  | normal => exact key hq
  | exit i =>
   by_cases h : i = id
   ·subst h;simp only [pZ, dR, if_true] at hq ⊢;exact key hq
   ·simp only [pZ, dR, Si h] at hq ⊢;exact hq
  | _ => exact hq
theorem uQ {a c : Code} (mods : List Nat) (J : World → Prop) (hc : WC ro P N a (dR (fun ρ2 w2 => J w2 ∧ jo mods ρ2 ρ) Q) ρ w) (hn : ∀ ρ' w', J w' → WC ro P N c Q (mask mods ρ' ρ) w') : WC ro P N (.seq a c) Q ρ w :=
 ah (hc.mono fun e ρ2 w2 hq => by
  cases e with
  | normal =>
   have := hn ρ2 w2 hq.1;rwa [jC hq.2] at this
  | _ => exact hq)
end
variable {w0 : World}
theorem JJ.JA {H L : List HE} (hJ : JJ w0 H w W) (hs : Hp w0 H w) (hb : w.heap.size ≤ w1.heap.size) (hL : Hp w1 L W) : Hp w0 (L ++ H) W :=
 hs.join (⟨hJ.bl, fun x hx => lY (hL.own x hx) hb, hL.nd⟩ : Hp w L W)
def oG (base : Nat) (E v : Int) (ts : List TR) : VP := kX base E v ts
theorem oG.ext {v : Int} (x : Value) (w w' : World) (h : oG base E v ts x w) (hb : Below w.heap.size w w') : oG base E v ts x w' := kX.ext x w w' h hb
theorem x7 (v : Int) : aF [⟨ef v, nR 0⟩] = [] := by
 unfold aF lO vL
 rfl
theorem Ax (lA : Option Addr) (lc K T c0 : Nat) (v : Int) (ls : List PX) (hv : iJ v = true) (hlc : ls.length ≤ lc) (hl12 : ls.length ≤ 12) (hls : ∀ g ∈ ls, jf v K g.ts ∧ g.v = v ∧ g.kq K ∧ g.ts.length ≤ T) (hc0 : K + 4096 * T + 8192 ≤ c0) (hc1 : c0 ≤ 440000) :
  ∀ (qs : List PX) (j : Nat) (p : List TR) (A : Option Addr) (n c : Nat) (ds : List Nat) (k : Nat) (w : World), ls.drop j = qs → j ≤ ls.length → dD w → Sl w lA ls.length 2 (aw PX.cells ls) → (∀ g ∈ ls, g.at_ w) → Sl w A n 4 (aw TR.cells p) → n ≤ c → Dq ls.length j p → iA k p → n ≤ 4096 → ds.length = qs.length → (∀ (i d : Nat), ds[i]? = some d → d ≤ 127 ∧ ∀ t ∈ p, fD (j + i) t ≤ d) → fU c0 ds (k + 1) ≤ 440000 →
  Calls Tryz.prog 156 #[.slice A n c, .int .i64 j, .slice lA ls.length lc, .int .i64 v] w fun r w' => ∃ g : PX, gh (eh v (qs.map PX.ts) j p).1 v (eh v (qs.map PX.ts) j p).2 g ∧ r = .returned (.tuple #[.agg #[.int .i64 g.v, .slice g.A g.n g.c], .int .i64 (eh v (qs.map PX.ts) j p).1]) ∧ Hp w [g.row] w' := by
 intro qs;have hK : K ≤ 440000 := Sd;have hco : xM v = 0 := Si (by rw [hv]; decide)
 induction qs with
 | nil =>
  intro j p A n c ds k w hq hj hT hL hat hS hnc hsr hok hn hds hD hB;have hh := Hp.start w;have hln := hS.bz TR.len Se;obtain rfl : j = ls.length := by
   have := Tm List.length hq;rw [TT] at this;simp only [U3] at this;omega
  obtain rfl : ds = [] := UG.1 hds;rw [pC] at hB;have hcn := fun c hc w1 hT1 => lB v c k w1 hT1 hc Sd;rw [hco] at hcn
  cases p with
  | nil =>
   obtain rfl : n = 0 := by simpa using hln.symm
   show Calls _ _ _ _ fun r w' => ∃ g : PX, gh 0 v (aF [⟨ef v, nR 0⟩]) g ∧ r = .returned (.tuple #[.agg #[.int .i64 g.v, .slice g.A g.n g.c], .int .i64 0]) ∧ Hp w [g.row] w';refine aj (N := 118) (l := [.slice A 0 c, .int .i64 ls.length, .slice lA ls.length lc, .int .i64 v]) Tryz.func156 rfl rfl (by simp) ?_;refine sr ?_;refine bJ hh ?_;intro b8 w8 hh;refine aI (aa (ah (sr (mI (mL (aK ?_))))));refine cH (aa (cT (ah (sr (mL (aK ?_))))));refine cH (aa (cT (sr (mI ?_))));refine gg [_,_,_] ?_;refine aC (hcn (nR 0) ⟨(Sz.zero k).ok Sd, by rw [cn]; exact Sz.zero k⟩ _ (hT.hp hh)) ak.out rfl Se ?_;rintro e_ w25 ⟨g, og, rfl, h3⟩;refine ⟨_, rfl, ?_⟩;replace hh := hh.join h3;simp only [Sv, Ss] at hh;refine cE ?_;refine cE ?_;refine bK hh 1 [_,_] ?_;intro ws hh;replace hh : Hp _ (_ :: .blk _ _ [_, _] _ :: _) _ := hh;refine aI (aa (au (aG (aG ?_))));exact MO
  | cons t p =>
   have hn1 : p.length + 1 = n := by simpa using hln
   have ht := hok t Sq;obtain ⟨ad, rfl, hr⟩ := hS.at_ Sd;show Calls _ _ _ _ fun r w' => ∃ g : PX, gh 0 v (aF [⟨ef v, t.c⟩]) g ∧ r = .returned (.tuple #[.agg #[.int .i64 g.v, .slice g.A g.n g.c], .int .i64 0]) ∧ Hp w [g.row] w';refine aj (N := 118) (l := [.slice (some ad) n c, .int .i64 ls.length, .slice lA ls.length lc, .int .i64 v]) Tryz.func156 rfl rfl (by simp) ?_;refine sr ?_;refine bJ hh ?_;intro b8 w8 hh;refine aI (aa (ah (sr (mI (mL (aK ?_))))));refine cH (aa (cT (ah (sr (mL (aK ?_))))));refine cH (aa (cF (aq (ai (sr (mI (mL ?_)))))));refine Dn ?_;refine nq ?_;refine ct (vs := [_, _, _]) aP.out rfl (((hr.ext hh.below).recAt TR.len (show (t :: p)[0]? = some t from rfl)).drop 1) rfl Se ?_;refine aC (hcn t.c ht _ (hT.hp hh)) ak.out rfl Se ?_;rintro e_ w33 ⟨g, og, rfl, h3⟩;refine ⟨_, rfl, ?_⟩;replace hh := hh.join h3;simp only [Sv, Ss] at hh;refine cE ?_;refine cE ?_;refine bK hh 1 [_,_] ?_;intro ws hh;replace hh : Hp _ (_ :: .blk _ _ [_, _] _ :: _) _ := hh;refine aI (aa (au (aG ?_)));exact MO
 | cons q qs ih =>
  intro j p A n c ds k w hq hj hT hL hat hS hnc hsr hok hn hds hD hB;have hh := Hp.start w;have hln := hS.bz TR.len Se
  cases ds with
  | nil => cases hds
  | cons d ds =>
   have hd := hD 0 d rfl;have hjl : j < ls.length := by
    rcases S6 j ls.length with h | h
    ·exact h
    ·rw [Uf h] at hq; cases hq
   have hqj : ls[j]? = some q := by rw [← List.head?_drop, hq]; rfl
   have hqs : ls.drop (j + 1) = qs := by rw [← List.tail_drop, hq]; rfl
   obtain ⟨hqk, hqv, hql, hqT⟩ := hls q (Sp hqj);rw [nP] at hB;have hB1 : fU c0 ds (k + 1) ≤ 440000 := Sd;have hmono := hsr.mono Sd;rw [SW];show Calls _ _ _ _ fun r w' => ∃ g : PX, gh (bh q.ts (eh v (qs.map PX.ts) (j + 1)) p j 128).1 v (bh q.ts (eh v (qs.map PX.ts) (j + 1)) p j 128).2 g ∧ r = .returned (.tuple #[.agg #[.int .i64 g.v, .slice g.A g.n g.c], .int .i64 (bh q.ts (eh v (qs.map PX.ts) (j + 1)) p j 128).1]) ∧ Hp w [g.row] w';have hDs : ∀ n (i e : Nat), ds[i]? = some e → e ≤ 127 ∧ ∀ t ∈ a0 p j n, fD (j + 1 + i) t ≤ e := fun n i e he => by
    exact Ox
   have hrec : ∀ (m fr en : Nat) (w1 : World), dD w1 → Below w.heap.size w w1 → fr ≤ en → en ≤ n → a0 p j m = (p.drop fr).take (en - fr) → Calls Tryz.prog 156 #[.slice (if c = fr then A else A.map (·.add (fr * 4))) (en - fr) (c - fr), .int .i64 ((j : Int) + 1), .slice lA ls.length lc, .int .i64 v] w1 fun r w' => ∃ g : PX, gh (eh v (qs.map PX.ts) (j + 1) (a0 p j m)).1 v (eh v (qs.map PX.ts) (j + 1) (a0 p j m)).2 g ∧ r = .returned (.tuple #[.agg #[.int .i64 g.v, .slice g.A g.n g.c], .int .i64 (eh v (qs.map PX.ts) (j + 1) (a0 p j m)).1]) ∧ Hp w1 [g.row] w' := fun m fr en w1 hT1 hb h1 h2 hw => by
    have hcut := (hS.ext hb).cut h1 h2 hnc;rw [kA TR.len, mE TR.len, ← hw] at hcut;exact ih (j + 1) (a0 p j m) _ (en - fr) (c - fr) ds k w1 hqs Sd hT1 (hL.ext hb) (fun g hg => (hat g hg).ext hb) hcut Sd (hsr.with Sd) (fun t ht => hok t (jd t ht)) Sd (by simpa using hds) (hDs m) hB1
   have hsub : ∀ m, (eh v (qs.map PX.ts) (j + 1) (a0 p j m)).1 = 0 → jf v (fU c0 ds (k + 1)) (eh v (qs.map PX.ts) (j + 1) (a0 p j m)).2 := fun m hm => by
    refine DC hv hc0 (qs.map PX.ts) (j + 1) (a0 p j m) ds k (fun r hr => ?_) (fun t ht => hok t (jd t ht)) (by rw [Sx]; simpa using hds) (hDs m) Sd hm;obtain ⟨g, hg, rfl⟩ := SB.1 hr;have := hls g (VA (by rw [hqs]; exact hg));exact ⟨this.1, this.2.2.2⟩
   generalize eh v (qs.map PX.ts) (j + 1) = sub at hrec hsub ⊢;have hlim := sO (sub := sub) (p := p) (j := j) hv hqk hqT hd.2 hd.1 hsub hc0 Sd;have hlim2 : ∀ i, i ≤ 128 → (bh q.ts sub p j i).1 = 0 → jf v 440000 (bh q.ts sub p j i).2 := fun i hi h0 => (hlim i hi h0).mono (by
    have : (i + d - 128) * c0 ≤ d * c0 := S9 _ Sd;omega)
   have hcn := fun w1 hT1 => lB v (nR 0) 0 w1 hT1 ⟨(Sz.zero 0).ok Se, by rw [cn]; exact Sz.zero 0⟩ Se;rw [hco, x7] at hcn;refine aj (N := 118) (l := [.slice A n c, .int .i64 j, .slice lA ls.length lc, .int .i64 v]) Tryz.func156 rfl rfl (by simp) ?_;refine sr ?_;refine bJ hh ?_;intro b8 w8 hh;refine aI (aa (ah (sr (mI (mL (aK ?_))))));refine cH (aa (cF (aq (ai (sr (mI ?_))))));refine gg [_,_,_] ?_;refine aC (hcn _ (hT.hp hh)) ak.out rfl Se ?_;rintro e_ w39 ⟨g, og, rfl, h3⟩;refine ⟨_, rfl, ?_⟩;replace hh := hh.join h3;simp only [Sv, Ss] at hh;refine mT ?_;refine cE ?_;refine cE ?_;refine bJ hh ?_;intro b10 w10 hh;refine bK hh 0 [_,_] ?_;intro ws hh;replace hh : Hp _ (.blk _ _ [_, _] _ :: _) _ := hh;refine aI (aa (sr (mL (aK (aI (aa (ah (sr (aI (aa (ao ?_)))))))))));refine xK [11, 12, 13, 14, 15, 44, 45, 46, 47, 48, 49, 50, 51, 52, 53, 54, 55, 56, 57, 58, 59, 60, 61, 62, 63, 64, 65, 66, 67, 68, 69, 70, 71, 72, 73, 74, 75, 76, 77, 78, 79, 80, 81, 82, 83, 84, 85, 86, 87, 88, 89, 90, 91, 92, 93, 94, 95, 96, 97, 98, 99, 100, 101, 102, 103, 104, 105, 106, 107, 108, 109, 110, 111, 112] 11 12 13
    (fun e en nv w' => ∃ (i en_ : Nat) (e_ ov : Int) (oA : Option Addr) (on oc : Nat) (os : List TR), i ≤ 128 ∧ nv = .int .i64 (127 - (i : Int)) ∧ en = .int .i64 en_ ∧ e = .int .i64 e_ ∧ e_ = (bh q.ts sub p j i).1 ∧ en_ ≤ n ∧ (e_ = 0 → ov = v ∧ os = (bh q.ts sub p j i).2 ∧ (∀ t ∈ p.take en_, fD j t < 128 - i) ∧ (∀ t ∈ p.drop en_, 128 - i ≤ fD j t)) ∧ Hp w [.blk b10 24 [.int .i64 ov, .slice oA on oc] (0, 0), .row oA on oc 96 4 (aw TR.cells os), .blk b8 24 [.int .i64 0, .slice none 0 0] (0, 0)] w')
    (fun _ _ nv _ => (intOf nv + 1).toNat) ?_ ?_
   ·refine ⟨0, n, 0, g.v, g.A, g.n, g.c, g.ts, Sn _, rfl, rfl, rfl, rfl, So _, fun _ => ⟨og.v, og.ts, fun t ht => ?_, fun t ht => ?_⟩, hh⟩
    ·obtain ⟨x, _, hx, h8⟩ := hsr.get Sd (Uc ht);rw [hx];exact h8
    ·rw [Uf Sd] at ht
     cases ht
   ·clear hh og h3;rintro ρ' e_ en_ nv_ w' ⟨i, en, e, ov, oA, on, oc, os, hi, rfl, rfl, rfl, he, hen, hok0, hh⟩;by_cases hcn : i < 128 ∧ e = 0
    ·obtain ⟨hi8, rfl⟩ := hcn;obtain ⟨rfl, rfl, hlo, hhi⟩ := hok0 rfl;clear hok0;obtain ⟨m, hm⟩ : ∃ m, m = 127 - i := ⟨_, rfl⟩;rw [show (127 - (i : Int)) = (m : Int) by omega];refine ah (sr (mI ?_));refine ee (mB (gT (mI (gT ?_))));refine cH ?_;refine fV ?_;refine aa (cT (aq (ai (ah (ao (sr (mI (aI (aa (ah (ao ?_)))))))))));refine HR zL2 14
      (fun f w' => ∃ fr : Nat, fr ≤ en ∧ f = .int .i64 fr ∧ a0 p j m = (p.drop fr).take (en - fr) ∧ (∀ t ∈ p.take fr, fD j t < m) ∧ Hp w [.blk b10 24 [.int .i64 ov, .slice oA on oc] (0, 0), .row oA on oc 96 4 (aw TR.cells (bh q.ts sub p j i).2), .blk b8 24 [.int .i64 0, .slice none 0 0] (0, 0)] w') ?_ ?_
     ·refine aN zL2 14
       (fun f w' => ∃ fr : Nat, fr ≤ en ∧ f = .int .i64 fr ∧ (∀ t ∈ (p.drop fr).take (en - fr), fD j t = m) ∧ Hp w [.blk b10 24 [.int .i64 ov, .slice oA on oc] (0, 0), .row oA on oc 96 4 (aw TR.cells (bh q.ts sub p j i).2), .blk b8 24 [.int .i64 0, .slice none 0 0] (0, 0)] w')
       (fun f _ => (intOf f).toNat) ?_ ?_
      ·exact ⟨en, So _, rfl, (fun t ht => by rw [Td] at ht; cases ht), hh⟩
      ·clear hh;rintro ρ' f w' ⟨fr, hfr, rfl, hmid, hh⟩;by_cases h0 : 0 < fr
       ·obtain ⟨fr, rfl⟩ : ∃ g, fr = g + 1 := ⟨fr - 1, Sd⟩;obtain ⟨x, hx⟩ := av (l := p) (k := fr) Sd;obtain ⟨ad, rfl, hr⟩ := hS.at_ Sd;obtain ⟨e, hex, hxe, h8⟩ := hsr.get Sd (Sp hx);by_cases hem : e.toNat = m
        ·refine ah (sr (mI ?_));refine cg (mB (gT (mL (gT (mI (gT ?_))))));refine eu (gT ?_);refine db (k := fr) bq.out aP.size rfl rfl Sd Sd Se ?_;refine gT ?_;refine nq ?_;refine aH rfl rfl ?_;refine Hn ?_;refine gT (mI (gT ?_));refine jN ?_;refine gT ?_;refine yG ?_;refine gT (mI (gT ?_));refine cH ?_;refine fV ?_;refine aa (cT (aq (ai (ao (al (mI ?_))))));refine eu (aI (az (bg (ai ?_))));refine ⟨⟨fr, Sd, by show Value.int .i64 (((fr + 1 : Nat) : Int) - 1) = _; congr 1; omega, fun t ht => ?_, hh⟩, by show (((fr + 1 : Nat) : Int) - 1).toNat < ((fr + 1 : Nat) : Int).toNat; omega, ?_⟩
         ·rw [gE hx, show en - fr = (en - (fr + 1)) + 1 by omega, List.take_succ_cons] at ht
          rcases SH.1 ht with rfl | ht
          ·rw [hxe, hem]
          ·exact hmid t ht
         ·exact eB
        ·have hlt : e.toNat < m := by
          have := hlo x (by rw [show en = (fr + 1) + (en - (fr + 1)) by omega, List.take_add]; exact Uh _ (by rw [ay hx]; exact TG _ Sq));omega
         have hall := Eh hmono hx (n := m) (by rw [hxe]; exact hlt);refine ah (sr (mI ?_));refine cg (mB (gT (mL (gT (mI (gT ?_))))));refine eu (gT ?_);refine db (k := fr) bq.out aP.size rfl rfl Sd Sd Se ?_;refine gT ?_;refine nq ?_;refine aH rfl rfl ?_;refine Hn ?_;refine gT (mI (gT ?_));refine jN ?_;refine gT ?_;refine yG ?_;refine gT (mI (gT ?_));refine cH ?_;refine fV ?_;refine aa (cF (aV (aE (aE (bo (ai ?_))))));refine ⟨⟨fr + 1, hfr, rfl, y9 hfr hall hmid (fun t ht => by have := hhi t ht; omega), hall, hh⟩, ?_⟩;exact eB
       ·obtain rfl : fr = 0 := Sd;refine ah (sr (mI ?_));refine cg (mB ?_);refine gS (gS (gS (gS (gS ?_))));refine kP ?_;refine gS (gS (gS (gS (gS ?_))));refine fa ?_;refine aa (cF (aV (aE (aE (bo (ai ?_))))));refine ⟨⟨0, hfr, rfl, y9 hfr (fun t ht => by cases ht) hmid (fun t ht => by have := hhi t ht; omega), (fun t ht => by cases ht), hh⟩, ?_⟩;exact eB
     ·skip;clear hh;rintro ρ' f w' ⟨fr, hfr, rfl, hwi, hbl, hh⟩;have hnx : bh q.ts sub p j (i + 1) = gN q.ts sub p j m (bh q.ts sub p j i) := by rw [iF, hm]
      have hop := hlim2 i Sd he.symm;unfold gN at hnx;rw [Si (by rw [← he]; decide)] at hnx;have hmi : m = 128 - (i + 1) := Sd;have hmi2 : (127 - ((i + 1 : Nat) : Int)) = (m : Int) - 1 := Sd;have hdf : ∀ t ∈ p.drop fr, m ≤ fD j t := fun t ht => by
       rw [GZ hfr] at ht
       rcases S2.1 ht with ht | ht
       ·rw [← hwi] at ht;have := Ug (TD.1 ht).2;omega
       ·have := hhi t ht;omega
      have hst : (bh q.ts sub p j i) = (0, (bh q.ts sub p j i).2) := by rw [he]
      generalize (bh q.ts sub p j i).2 = os at *;have hoc : on ≤ oc := hh.fH (i := 1) rfl;have hon : os.length = on := (hh.aD (i := 1) rfl).bz TR.len Se;have hwl : (a0 p j m).length = en - fr := by rw [hwi, SP, TT]; omega
      by_cases hsk : os.length = 0 ∧ (a0 p j m).length = 0
      ·rw [Sj hsk] at hnx;obtain ⟨h1, h2⟩ := hsk;obtain rfl : on = 0 := Sd;obtain rfl : fr = en := Sd;refine ah (sr (bF ?_));refine bE hh 0 ?_;refine aK ?_;refine cH (mB (gT (mI (gT (mI (gT ?_))))));refine cH ?_;refine fV ?_;refine aa (cT (aV (aE (bo (ai (al (mI ?_)))))));refine eu (aI (az (ai ?_)));refine ⟨⟨i + 1, fr, 0, ov, oA, 0, oc, os, Sd, by rw [hmi2]; rfl, rfl, rfl, by rw [hnx]; exact he, hen, fun _ => ⟨rfl, by rw [hnx, hst], fun t ht => by rw [← hmi]; exact hbl t ht, fun t ht => by rw [← hmi]; exact hdf t ht⟩, hh⟩, by show ((m : Int) - 1 + 1).toNat < ((m : Int) + 1).toNat; omega, ?_⟩;exact eB
      ·rw [Si hsk] at hnx;refine uQ [70, 71, 72, 73, 74, 75, 76, 77, 78]
        (fun w' => Hp w [.blk b10 24 [.int .i64 ov, .slice oA on oc] (0, 0), .row oA on oc 96 4 (aw TR.cells os), .blk b8 24 [.int .i64 0, .slice none 0 0] (0, 0)] w') ?_ ?_
       ·by_cases h0 : on = 0
        ·subst h0;have hne : fr ≠ en := fun h => hsk ⟨hon, Sd⟩;refine sr (bF ?_);refine bE hh 0 ?_;refine aK ?_;refine cH (mB (gT (mI (gT (mI (gT ?_))))));refine cH ?_;refine fV ?_;refine aa (cF (aq (ai ?_)));refine ⟨hh, ?_⟩;exact E6
        ·refine sr (bF ?_);refine bE hh 0 ?_;refine aK ?_;refine cH (mB ?_);refine gS (gS (gS ?_));refine fa ?_;refine aa (cF (aq (ai ?_)));refine ⟨hh, ?_⟩;exact E6
       ·skip;clear hh;rintro ρ' w' hh;obtain ⟨lad, rfl, hlr⟩ := hL.at_ Sd;have hlp : fi [⟨ov, oA, on, oc, os⟩, q] = 0 := r4 hop.e (by unfold PX.e; rw [hqv]; exact hqk.e) hqv;have hmu : ∀ (A2 : Option Addr) (w1 : World), dD w1 → Sl w1 A2 2 2 (aw PX.cells [⟨ov, oA, on, oc, os⟩, q]) → Sl w1 oA on 4 (aw TR.cells os) → Below w.heap.size w w1 → Calls Tryz.prog 17 #[.slice A2 2 2] w1 fun r w' => ∃ g : PX, gh (e6 os q.ts) ov (aF (bR os q.ts)) g ∧ r = .returned (.tuple #[.agg #[.int .i64 g.v, .slice g.A g.n g.c], .int .i64 (e6 os q.ts)]) ∧ Hp w1 [g.row] w' := fun A2 w1 hT1 s1 s2 hb => by
         have h1 := xL A2 2 2 [⟨ov, oA, on, oc, os⟩, q] 440000 505536 w1 hT1 s1 Se Se (fun g hg => by
          rcases SH.1 hg with rfl | hg
          ·exact s2
          ·rw [SN.1 hg]; exact (hat q (Sp hqj)).ext hb) (fun g hg => by
          rcases SH.1 hg with rfl | hg
          ·exact ⟨by have := hop.len; show on ≤ 1000000; omega, hoc, hop.ok, hop.sz⟩
          ·rw [SN.1 hg]; exact ⟨hql.n, hql.cap, hql.ok.mono hK, hql.sz⟩) Se Se
         unfold C9 at h1;rw [Sj hlp] at h1;exact h1
        refine sr ?_;refine bJ hh ?_;intro b15 w15 hh;refine aa (ah (ah ?_));refine eM [] [9] [0, 0, 0, 6, 14, 31, 63, 127, 255, 255, 511, 2047] 10 [[(10, none)], [(2, none)], [(1, none)], [(81, some 1), (82, some 2)], [(83, some 3)], [(80, some 0), (84, some 4)], [(85, some 5)], [(86, some 6)], [(79, some 7)], [(79, some 7)]] [(9, 88), (8, 87), (7, 79), (6, 86), (5, 85), (4, 84), (3, 83), (2, 82), (1, 81), (0, 80)] hh mixed Sf fN rfl (by repeat (first | exact bT | refine bG ?_ | refine bW ?_)) ?_;refine eX 1 [_,_] ?_;refine iw ?_;refine eH ?_;refine qe (j) ?_;refine xx [_,_] (fun _ hj => (hlr.ext hj.hp.below).recAt PX.len hqj) ?_;refine a8 (i := 5) (ki 2 2 (aw PX.cells [⟨ov, oA, on, oc, os⟩, q])) (ki.ext) ?_ ?_
        ·intro ρ1 w1 hj hR;exact kn (sz := 2) bq.out aP.out (show yb ρ1 [(0, .tmp 80), (1, .tmp 84)] = [(0, .agg #[.int .i64 ov, .slice oA on oc]), (1, .agg #[.int .i64 q.v, .slice q.A q.n q.c])] from bC (show ρ1 80 = _ from hR.1) (bC (show ρ1 84 = _ from hR.2.1) dF)) rfl rfl Se Se rfl fun v w2 h hb => ⟨hb, h⟩
        refine a8 (i := 6) (ma hh.sz (e6 os q.ts) ov (aF (bR os q.ts))) (ma.ext) ?_ ?_
        ·intro ρ1 w1 hj hR;obtain ⟨g85, e85, o85⟩ := hR.1;exact let ⟨b, e1, s1⟩ := hR.1; bA rfl (aZ ak.out (aA e1 a7)) (hmu _ w1 (hT.hp hj.hp) s1 (hj.hp.aD (i := 2) rfl) hj.hp.below) (fun _ _ ⟨g, og, hq, h3⟩ => ⟨_, hq, h3.below, g, w1, rfl, og, hj.bl.size, h3⟩)
        refine a8 (i := 7) (ma hh.sz (e6 os q.ts) ov (aF (bR os q.ts))) (ma.ext) ?_ ?_
        ·exact OI
        refine a8 (i := 8) (oG hh.sz (e6 os q.ts) ov (aF (bR os q.ts))) (oG.ext) ?_ ?_
        ·exact Pn
        refine a8 (i := 9) (Is (.int .i64 (e6 os q.ts))) (Is.ext) ?_ ?_
        ·exact NW
        refine aR ?_;intro f W hJ hV _;have hb_15 := hJ.bl;obtain ⟨v88, v87, v79, v86, v85, v84, v83, v82, v81, v80, _⟩ := hV;obtain ⟨g85, e85, o85⟩ : ki 2 2 (aw PX.cells [⟨ov, oA, on, oc, os⟩, q]) (f 5) W := v85;obtain ⟨g86, u86, e86, -⟩ := v86;obtain ⟨g79, u79, e79, -⟩ := v79;obtain ⟨g87, u87, e87, o87, q87, h87⟩ := v87;replace hh := JJ.JA hJ hh q87 h87;refine aX (bp (ae v88 (ae e87 (ae e79 (ae e86 (ae e85 (ae v84 (ae v83 (ae v82 (ae v81 (ae v80 aW))))))))))) ?_;dsimp only [ck];clear e85 e86 e79 e87 hJ;simp only [Sv, Ss] at hh;obtain ⟨gv, gA, gn, gc, gts⟩ := g87;replace hh := show Hp w (.row gA gn gc 96 4 (aw TR.cells gts) :: _) W from hh;by_cases hte : e6 os q.ts = 0
        ·rw [Si (by rw [hte]; decide)] at hnx;rw [hte] at o87;obtain rfl : ov = gv := o87.v.symm;obtain rfl : aF (bR os q.ts) = gts := o87.ts.symm;have hgc : gn ≤ gc := hh.fH (i := 0) rfl;have hgl : (aF (bR os q.ts)).length = gn := (hh.aD (i := 0) rfl).bz TR.len Se;have hgo := De hop hqk hqT hte Sd;refine bK hh 2 [_,_] ?_;intro ws hh;replace hh : Hp _ (_ :: _ :: .blk _ _ [_, _] _ :: _) _ := hh;refine aI (aa (sr (mI ?_)));refine cH (aa (cT (al (mL (mI (mI ?_))))));dsimp only at hh;refine aM rfl rfl Se (iB (lo := some (.tmp 93)) (hi := some (.tmp 94)) (l := fr) (h := en) bq.out aP.size rfl ⟨_, _, rfl, rfl⟩ ⟨_, _, rfl, rfl⟩ hfr Sd) ?_;refine mI ?_;refine a9 (mL (mI ?_));refine aC (hrec m fr en _ (hT.hp hh) hh.below hfr hen hwi) ak.out rfl Se ?_;rintro e_ w100 ⟨g2, og2, rfl, h4⟩;refine ⟨_, rfl, ?_⟩;replace hh := hh.join h4;simp only [Sv, Ss] at hh;have hs2 := hsub m;obtain ⟨hv2, hA2, hn2, hc2, ht2⟩ := g2;replace hh := show Hp w (.row hA2 hn2 hc2 96 4 (aw TR.cells ht2) :: _) _ from hh;by_cases hE2 : (sub (a0 p j m)).1 = 0
         ·rw [Si (by rw [hE2]; decide)] at hnx;rw [hE2] at og2;obtain rfl : ov = hv2 := og2.v.symm;obtain rfl : (sub (a0 p j m)).2 = ht2 := og2.ts.symm;have ho2 := hs2 hE2;have hc2c : hn2 ≤ hc2 := hh.fH (i := 0) rfl;have hl2 : ((sub (a0 p j m)).2).length = hn2 := (hh.aD (i := 0) rfl).bz TR.len Se;generalize (sub (a0 p j m)).2 = us at *;refine mT ?_;refine cE ?_;refine cE ?_;refine bK hh 2 [_,_] ?_;intro ws hh;replace hh : Hp _ (_ :: _ :: .blk _ _ [_, _] _ :: _) _ := hh;refine aI (aa (ah (sr (mI ?_))));refine cH (aa (cT (al ?_)));refine cu hh 3 [_,_] ?_;refine cu hh 2 [_,_] ?_;refine Ix ?_;intro b108 w108 hh;dsimp only at hh;have hlp2 : fi [⟨ov, gA, gn, gc, aF (bR os q.ts)⟩, ⟨ov, hA2, hn2, hc2, us⟩] = 0 := r4 hgo.e ho2.e rfl;have had := tG (some ⟨b108, 0, none⟩) 2 2 [⟨ov, gA, gn, gc, aF (bR os q.ts)⟩, ⟨ov, hA2, hn2, hc2, us⟩] 2000000 _ (hT.hp hh) (hh.aD (i := 0) rfl) Se (fun g hg => by
           rcases SH.1 hg with rfl | hg
           ·exact hh.aD (i := 2) rfl
           ·rw [SN.1 hg]; exact hh.aD (i := 1) rfl) (fun g hg => by
           rcases SH.1 hg with rfl | hg
           ·exact ⟨by have := hgo.len; show gn ≤ 1000000; omega, hgc, hgo.ok.mono Sd, hgo.sz⟩
           ·rw [SN.1 hg]; exact ⟨by have := ho2.len; show hn2 ≤ 1000000; omega, hc2c, ho2.ok.mono Sd, ho2.sz⟩) Se
          unfold G7 at had;rw [Sj hlp2, LP] at had;dsimp only at had;refine aC (had) ak.out rfl Se ?_;rintro e_ w109 ⟨g3, og3, rfl, h5⟩;refine ⟨_, rfl, ?_⟩;replace hh := hh.join h5;simp only [Sv, Ss] at hh;obtain ⟨hv3, hA3, hn3, hc3, ht3⟩ := g3;replace hh := show Hp w (.row hA3 hn3 hc3 96 4 (aw TR.cells ht3) :: _) _ from hh;refine mT ?_;refine cE ?_;refine cE ?_;refine bK hh 5 [_,_] ?_;intro ws hh;replace hh : Hp _ (_ :: _ :: _ :: _ :: _ :: .blk _ _ [_, _] _ :: _) _ := hh;refine aI (aa (al (mI (aI (az (bg (ai (al (mI ?_)))))))));refine eu (aI (az (ai ?_)));replace hh := hh.sub (Sk _ (Sm _ (Sm _ (Sm _ (Sm _ (Sk _ (Sm _ (Sk _ SD))))))));replace hh := hh.perm (Tr (l₁ := [_]));simp only [Sv, Ss] at hh;try dsimp only at hh
          refine ⟨⟨i + 1, fr, fY (aF (bR os q.ts) ++ us), hv3, hA3, hn3, hc3, ht3, Sd, by rw [hmi2]; rfl, rfl, rfl, ?_, Sd, fun h => ⟨?_, ?_, fun t ht => by rw [← hmi]; exact hbl t ht, fun t ht => by rw [← hmi]; exact hdf t ht⟩, hh⟩, by show ((m : Int) - 1 + 1).toNat < ((m : Int) + 1).toNat; omega, ?_⟩
          ·rw [hnx];by_cases hg : fY (aF (bR os q.ts) ++ us) ≠ 0
           ·rw [Sj hg]
           ·rw [Si hg]; omega
          ·have := og3.v;rw [Sj h] at this;exact this
          ·rw [hnx, Si (by rw [h]; decide)];have := og3.ts;rw [Sj h] at this;exact this
          ·exact eB
         ·rw [Sj hE2] at hnx;refine mT ?_;refine cE ?_;refine cE ?_;refine bK hh 2 [_,_] ?_;intro ws hh;replace hh : Hp _ (_ :: _ :: .blk _ _ [_, _] _ :: _) _ := hh;refine aI (aa (ah (sr (mI ?_))));refine cH (aa (cF (aq (ai (al (mI (aI (az (bg (ai (al (mI ?_))))))))))));refine eu (aI (az (ai ?_)));replace hh := hh.sub (Sm _ (Sk _ (Sm _ (Sk _ (Sm _ (Sk _ SD))))));replace hh := hh.perm (Tr (l₁ := [_]));simp only [Sv, Ss] at hh;refine ⟨⟨i + 1, fr, _, ov, gA, gn, gc, aF (bR os q.ts), Sd, by rw [hmi2]; rfl, rfl, rfl, by rw [hnx], Sd, fun h => absurd h hE2, hh⟩, by show ((m : Int) - 1 + 1).toNat < ((m : Int) + 1).toNat; omega, ?_⟩;exact eB
        ·rw [Sj hte] at hnx;refine bK hh 2 [_,_] ?_;intro ws hh;replace hh : Hp _ (_ :: _ :: .blk _ _ [_, _] _ :: _) _ := hh;refine aI (aa (sr (mI ?_)));refine cH (aa (cF (aq (ai (ah (sr (mI ?_)))))));refine cH (aa (cF (aq (ai (al (mI (aI (az (bg (ai (al (mI ?_))))))))))));refine eu (aI (az (ai ?_)));replace hh := hh.sub (Sk _ (Sm _ (Sk _ (Sm _ (Sk _ SD)))));replace hh := hh.perm (Tr (l₁ := [_]));simp only [Sv, Ss] at hh;refine ⟨⟨i + 1, fr, e6 os q.ts, gv, gA, gn, gc, gts, Sd, by rw [hmi2]; rfl, rfl, rfl, by rw [hnx], Sd, fun h => absurd h hte, hh⟩, by show ((m : Int) - 1 + 1).toNat < ((m : Int) + 1).toNat; omega, ?_⟩;exact eB
    ·have hfin : bh q.ts sub p j 128 = bh q.ts sub p j i := by
      by_cases h8 : i = 128
      ·rw [h8]
      ·exact jH Sd hi
     rw [hfin];by_cases he0 : e = 0
     ·subst he0;obtain ⟨rfl, rfl, -, -⟩ := hok0 rfl;clear hok0 hfin;generalize bh q.ts sub p j i = X at *;obtain rfl : i = 128 := Sd;rw [← he];refine ah (sr (mI ?_));refine ee (mB ?_);refine gS (gS ?_);refine fa ?_;refine aa (cF (aV (aE (aE (bo (ai (ah (sr (mI ?_)))))))));refine vq ?_;refine cu hh 0 [_,_] ?_;refine bK hh 2 [_,_] ?_;intro ws hh;replace hh : Hp _ (_ :: _ :: .blk _ _ [_, _] _ :: _) _ := hh;refine aI (aa (au ?_));refine sj ?_;exact ⟨⟨ov, oA, on, oc, _⟩, ⟨rfl, rfl⟩, rfl, hh.sub (.cons _ (Sk _ (TN _)))⟩
     ·rw [← he];clear hok0 hfin;generalize bh q.ts sub p j i = X at *;by_cases h8 : i = 128
      ·subst h8;refine ah (sr (mI ?_));refine ee (mB ?_);refine gS (gS ?_);refine fa ?_;exact OD
      ·refine ah (sr (mI ?_));refine ee (mB (gT (mI (gT ?_))));refine cH ?_;refine fV ?_;exact OD
def df (p : PX) (ls : List PX) : Int × List TR :=
 if p.e ≠ 0 then (p.e, []) else if (ls.length : Int) ≠ p.v then (1, []) else if ls.length ≠ 0 ∧ fi ls ≠ 0 then (fi ls, []) else eh (ff ls) (ls.map PX.ts) 0 p.ts
theorem Bo (f : PX) (p : Addr) (x : Int) (w : World) (hp : w.cell? p = some (.int .i64 x)) :
  Calls Tryz.prog 155 #[.agg #[.int .i64 f.v, .slice f.A f.n f.c], .pointer (some p)] w fun r w' => r = .returned (.bool (decide (f.v ≠ x))) ∧ Below w.heap.size w w' := by
 have hh := Hp.start w;by_cases hg : f.v = x
 ·refine aj (N := 8) (l := [.agg #[.int .i64 f.v, .slice f.A f.n f.c], .pointer (some p)]) Tryz.func155 rfl rfl (by simp) ?_;refine sr ?_;refine cq hh [_,_] ?_;intro b2 w2 hh;refine aB (aa (sr (bF ?_)));refine bE hh 0 ?_;refine cv aP.out rfl ((hh.below.cell (lk hp)).trans hp) Se ?_;exact Pq
 ·refine aj (N := 8) (l := [.agg #[.int .i64 f.v, .slice f.A f.n f.c], .pointer (some p)]) Tryz.func155 rfl rfl (by simp) ?_;refine sr ?_;refine cq hh [_,_] ?_;intro b2 w2 hh;refine aB (aa (sr (bF ?_)));refine bE hh 0 ?_;refine cv aP.out rfl ((hh.below.cell (lk hp)).trans hp) Se ?_;exact NZ
structure Re (p : PX) (ls : List PX) (k K T c0 : Nat) (ds : List Nat) : Prop where
 len : ds.length = ls.length
 QJ : ∀ (i d : Nat), ds[i]? = some d → d ≤ 127 ∧ ∀ t ∈ p.ts, fD i t ≤ d
 grow : fU c0 ds (k + 1) ≤ 440000
 step : K + 4096 * T + 8192 ≤ c0
 top : c0 ≤ 440000
 kq : ∀ g ∈ ls, g.kq K
 KS : ∀ g ∈ ls, g.ts.length ≤ T
theorem yy {v : Int} (h : fh v ts = 0) : Dq v 0 ts := by
 obtain ⟨_, _, h3, h4⟩ := cm h;exact ⟨h4.qO, h3, fun a _ b _ => by rw [UF, UF]⟩
theorem vN (p : PX) (lA : Option Addr) (lc : Nat) (ls : List PX) (k K T c0 : Nat) (ds : List Nat) (w : World) (hT : dD w) (hp : p.at_ w) (lp : p.kq k) (hL : Sl w lA ls.length 2 (aw PX.cells ls)) (hat : ∀ g ∈ ls, g.at_ w) (hlc : ls.length ≤ lc) (hf : Re p ls k K T c0 ds) :
  Calls Tryz.prog 69 #[.agg #[.int .i64 p.v, .slice p.A p.n p.c], .slice lA ls.length lc] w fun r w' => ∃ g : PX, gh (df p ls).1 (ff ls) (df p ls).2 g ∧ r = .returned (.tuple #[.agg #[.int .i64 g.v, .slice g.A g.n g.c], .int .i64 (df p ls).1]) ∧ Hp w [g.row] w' := by
 have hh := Hp.start w;have hck := fun w1 hT1 hb => mZ p k w1 hT1 (hp.ext hb) lp;unfold df;by_cases h0 : p.e ≠ 0
 ·rw [Sj h0];generalize p.e = e at *;refine aj (N := 54) (l := [.agg #[.int .i64 p.v, .slice p.A p.n p.c], .slice lA ls.length lc]) Tryz.func69 rfl rfl (by simp) ?_;refine sr ?_;refine cq hh [_,_] ?_;intro b2 w2 hh;refine bJ hh ?_;intro b4 w4 hh;refine aI (aa (ah (sr ?_)));refine cu hh 1 [_,_] ?_;refine gW ?_;intro w12 hh;exact Kr
 ·rw [Si h0];have hpe : p.e = 0 := Sd;rw [hpe] at hck;by_cases h1 : (ls.length : Int) ≠ p.v
  ·rw [Sj h1];refine aj (N := 54) (l := [.agg #[.int .i64 p.v, .slice p.A p.n p.c], .slice lA ls.length lc]) Tryz.func69 rfl rfl (by simp) ?_;refine sr ?_;refine cq hh [_,_] ?_;intro b2 w2 hh;refine bJ hh ?_;intro b4 w4 hh;refine aI (aa (ah (sr ?_)));refine cu hh 1 [_,_] ?_;refine gW ?_;intro w12 hh;refine aI (aa (sr (mI ?_)));refine uF ?_;refine bE hh 1 ?_;refine cX (aa (cT (sr ?_)));exact KL
  ·rw [Si h1];obtain ⟨hfw, h4, hmy, hca⟩ := cm hpe;replace hfw := gu.1 hfw;have hl12 : ls.length ≤ 12 := Sd;have hpl := hp.ln;have hsr := yy hpe;have hput := fun (v : Int) (hv : iJ v = true) (hz : ∀ g ∈ ls, fh v g.ts = 0) (hvv : ∀ g ∈ ls, g.v = v) w1 hT1 hb => Ax lA lc K T c0 v ls hv hlc hl12 (fun g hg => ⟨⟨hz g hg, (hf.kq g hg).ok, (hf.kq g hg).sz⟩, hvv g hg, hf.kq g hg, hf.KS g hg⟩) hf.step hf.top ls 0 p.ts p.A p.n p.c ds k w1 rfl (Sn _) hT1 (hL.ext hb) (fun g hg => (hat g hg).ext hb) (hp.ext hb) lp.cap (by rw [show ((ls.length : Nat) : Int) = p.v by omega]; exact hsr) lp.ok Sd hf.len (fun i d h => by rw [SM]; exact hf.QJ i d h) hf.grow;by_cases hn : ls = []
   ·subst hn;rw [Si (fun h => h.1 rfl)];have hpu := hput 0 rfl (fun g hg => by cases hg) (fun g hg => by cases hg);refine aj (N := 54) (l := [.agg #[.int .i64 p.v, .slice p.A p.n p.c], .slice lA 0 lc]) Tryz.func69 rfl rfl (by simp) ?_;refine sr ?_;refine cq hh [_,_] ?_;intro b2 w2 hh;refine bJ hh ?_;intro b4 w4 hh;refine aI (aa (ah (sr ?_)));refine cu hh 1 [_,_] ?_;refine gW ?_;intro w12 hh;refine aI (aa (sr (mI ?_)));refine uF ?_;refine bE hh 1 ?_;refine vq ?_;refine bJ hh ?_;intro b7 w7 hh;refine bK hh 0 [_] ?_;intro ws hh;replace hh : Hp _ (.blk _ _ [_] _ :: _) _ := hh;refine aa (ah (sr (mL (aK ?_))));refine cg (aa (cF (aq (ai (sr (bF ?_))))));refine bE hh 2 ?_;refine mL ?_;refine bE hh 0 ?_;replace hh := show Hp w (.blk b7 3 [.int .i64 0] (0, 0) :: _) _ from hh;exact K0
   ·have hlp0 : 0 < ls.length := List.length_pos_iff.2 hn;obtain ⟨lad, rfl, hlr⟩ := hL.at_ hlp0;refine aj (N := 54) (l := [.agg #[.int .i64 p.v, .slice p.A p.n p.c], .slice (some lad) ls.length lc]) Tryz.func69 rfl rfl (by simp) ?_;refine sr ?_;refine cq hh [_,_] ?_;intro b2 w2 hh;refine bJ hh ?_;intro b4 w4 hh;refine aI (aa (ah (sr ?_)));refine cu hh 1 [_,_] ?_;refine gW ?_;intro w12 hh;refine aI (aa (sr (mI ?_)));refine uF ?_;refine bE hh 1 ?_;refine vq ?_;refine bJ hh ?_;intro b7 w7 hh;refine bK hh 0 [_] ?_;intro ws hh;replace hh : Hp _ (.blk _ _ [_] _ :: _) _ := hh;refine aa (ah (sr (mL (aK ?_))));refine cg (aa (cT (ah (sr (mL (aK (mI (aa (ao ?_)))))))));replace hh := show Hp w (.blk b7 3 [.int .i64 0] (0, 0) :: _) _ from hh;refine aN [5, 9, 10, 28, 29, 30, 31, 32, 33, 34, 35, 36, 37, 38] 28
     (fun v w' => ∃ i : Nat, i ≤ ls.length ∧ v = .int .i64 i ∧ (ls.take i).any (fun g => decide (g.e ≠ 0)) = false ∧ Hp w [.blk b7 3 [.int .i64 0] (0, 0), .blk b4 24 [.int .i64 0, .slice none 0 0] (0, 0), .blk b2 24 [.int .i64 p.v, .slice p.A p.n p.c] (0, 0)] w')
     (fun v _ => ls.length - (intOf v).toNat) ?_ ?_
    ·exact ⟨0, Sn _, rfl, rfl, hh⟩
    ·clear hh;rintro ρ' v w' ⟨i, hi, rfl, hall, hh⟩;by_cases hlt : i < ls.length
     ·obtain ⟨g, hx⟩ := av (l := ls) (k := i) hlt;have hmem := Sp hx;have hc := fun w1 hT1 hb => mZ g K w1 hT1 ((hat g hmem).ext hb) (hf.kq g hmem);by_cases he : g.e = 0
      ·refine sr ?_;refine dq ?_;refine bX ?_;refine ct (vs := [_, _]) aP.out rfl ((hlr.ext hh.below).recAt PX.len hx) rfl Se ?_;refine bJ hh ?_;intro b9 w9 hh;refine bK hh 0 [_,_] ?_;intro ws hh;replace hh : Hp _ (.blk _ _ [_, _] _ :: _) _ := hh;refine aa (sr ?_);refine cu hh 0 [_,_] ?_;refine br hh (hc _ (hT.hp hh) hh.below) rfl ?_;intro w33 hh;refine aI (aa (sr (mI ?_)));refine cX (aa (cF (aq (bg (ai (al ?_))))));refine a9 (mI (az (ai ?_)));replace hh := hh.sub (Sm _ (Sk _ (Sk _ (Sk _ SD))));refine ⟨⟨i + 1, Sd, rfl, by rw [ay hx, Ve, hall, UQ, Va, SQ Sd]; rfl, hh⟩, by show ls.length - (i + 1) < ls.length - i; omega, ?_⟩;exact eB
      ·have hlk : fi ls = g.e := by unfold fi; rw [uS hall hx (SF he)]
       rw [Sj ⟨Sd, by rw [hlk]; exact he⟩, hlk];refine sr ?_;refine dq ?_;refine bX ?_;refine ct (vs := [_, _]) aP.out rfl ((hlr.ext hh.below).recAt PX.len hx) rfl Se ?_;refine bJ hh ?_;intro b9 w9 hh;refine bK hh 0 [_,_] ?_;intro ws hh;replace hh : Hp _ (.blk _ _ [_, _] _ :: _) _ := hh;refine aa (sr ?_);refine cu hh 0 [_,_] ?_;refine br hh (hc _ (hT.hp hh) hh.below) rfl ?_;intro w33 hh;refine aI (aa (sr (mI ?_)));refine cX (aa (cT (sr ?_)));refine gg [_,_] (mI ?_);refine bK hh 2 [_,_] ?_;intro ws hh;replace hh : Hp _ (_ :: _ :: .blk _ _ [_, _] _ :: _) _ := hh;refine aI (aa (au (bQ (aG (aG (bQ (aG (aG ?_))))))));refine sj ?_;exact My
     ·rw [Su Sd] at hall;have hlk : fi ls = if ls.length = 0 ∨ tZ ls = true then 1 else 0 := by unfold fi; rw [iQ hall]
      obtain ⟨g0, h00⟩ := av (l := ls) (k := 0) hlp0;have hhv : ff ls = g0.v := by
       cases ls with
       | nil => cases hlp0
       | cons x l => cases h00; rfl
      have hall0 : ∀ g ∈ ls, g.e = 0 := fun g hg => by
       have := TA.1 hall g hg;simpa using this
      refine sr ?_;refine oV ?_;refine Dn ?_;refine nq ?_;refine cv aP.out rfl (((hlr.ext hh.below).recAt PX.len h00).cell (i := 0) rfl) Se ?_;refine bK hh 0 [_] ?_;intro ws hh;replace hh : Hp _ (.blk _ _ [_] _ :: _) _ := hh;refine aa (sr (mL ?_));refine qS ?_;replace hh := show Hp w (.blk b7 3 [.int .i64 g0.v] (0, 0) :: _) _ from hh;rw [← hhv] at hh;have hcell : World.cell? _ ⟨b7, 0, none⟩ = some (.int .i64 (ff ls)) := hh.dW (i := 0) rfl rfl;have hoa := fun w1 hb => rZ (some lad) ls.length lc ls 155 [.pointer (some ⟨b7, 0, none⟩)] (fun g => decide (g.v ≠ ff ls)) w1 (hL.ext (hh.below.trans (hb.mono hh.below.size))) Sd (fun z w2 hz hb2 => Bo z ⟨b7, 0, none⟩ (ff ls) w2 (cj hb2 (cj hb hcell)))
      cases hod : tZ ls with
      | true =>
       have hod2 : ls.any (fun g => decide (g.v ≠ ff ls)) = true := hod;rw [hod2] at hoa;have hl1 : fi ls = 1 := by rw [hlk, Sj (.inr hod)]
       rw [Sj ⟨Sd, by rw [hl1]; decide⟩, hl1];refine br hh (hoa _ (Below.refl _ _)) rfl ?_;intro w45 hh;refine aa (cT (sr ?_));refine gg [_,_] ?_;refine bK hh 1 [_,_] ?_;intro ws hh;replace hh : Hp _ (_ :: .blk _ _ [_, _] _ :: _) _ := hh;refine aI (aa (au (aG ?_)));refine CF ?_;exact ⟨PX.nil, gh.err Se, rfl, (hh.sub (TN _)).EU⟩
      | false =>
       have hod2 : ls.any (fun g => decide (g.v ≠ ff ls)) = false := hod;rw [hod2] at hoa;have hl0 : fi ls = 0 := by
        rw [hlk, Si (fun h => h.elim (fun h => by omega) fun h => by rw [hod] at h; cases h)]
       rw [Si (fun h => h.2 hl0)];have hvv := (xg hl0).2.2;have hg0 := hall0 g0 (Sp h00);unfold PX.e at hg0;have hpu := hput (ff ls) (by rw [hhv]; exact (cm hg0).1) (fun g hg => by rw [← hvv g hg]; exact hall0 g hg) hvv;refine br hh (hoa _ (Below.refl _ _)) rfl ?_;intro w45 hh;refine u7 ?_;refine bE hh 2 ?_;refine mL ?_;refine bE hh 0 ?_;exact K0
variable {ls : List PX}
theorem IY {o p : PX} {os : List PX} (hv : o.v = p.v) (ht : o.ts = p.ts) (h : os.map PX.norm = ls.map PX.norm) : df o os = df p ls ∧ ff os = ff ls := by
 have h1 : fi os = fi ls := by rw [← ve, h, ve]
 have h2 : ff os = ff ls := by rw [← sE, h, sE]
 have h3 : os.length = ls.length := by have := Tm List.length h; rwa [Sx, Sx] at this
 have h4 : os.map PX.ts = ls.map PX.ts := by
  have := Tm (List.map PX.ts) h;rw [Ty, Ty] at this;exact this
 refine ⟨?_, h2⟩;unfold df PX.e;rw [hv, ht, h1, h2, h3, h4]
variable {b : List SR}
theorem lF {v : Int} (hv : iJ v = true) (hm : ∀ t ∈ l, fK v t = true) (ho : iA k l) (hz : ∀ t ∈ l, t.m.size ≤ 100000) (hl : l.length ≤ n) (hn : n ≤ 4096) (hk : k + n ≤ 3999990) : jf v (k + n) (aF l) :=
 ⟨eV hv (SK (cI _) Sd) hm, kZ ho Sd Sd, nM hz⟩
def wE (v i : Nat) : List TR := aF [⟨kv v i, nR ((1 : Int) : Dyadic)⟩]
def q6 (v : Nat) (x : Dyadic) : List TR := aF [⟨ef v, nR x⟩]
def tK (v i : Nat) (x : Dyadic) : List TR := aF ((wE v i).map (nx x))
def gI (v i : Nat) (s : SR) : List TR := aF (q6 v s.L ++ tK v i (s.H - s.L))
def bj (b : List SR) : List PX := b.mapIdx fun i s => ⟨b.length, none, 0, 0, gI b.length i s⟩
theorem fJ {v : Nat} (h : v ≤ 12) : iJ (v : Int) = true := gu.2 ⟨Sd, Sd⟩
theorem CW {v i : Nat} (h : v ≤ 12) : jf (v : Int) 3 (wE v i) := by
 have hs : ((kv v i).size : Int) = v := pD Sd;refine lF (k := 2) (n := 1) (fJ h) (fun t ht => ?_) (fun t ht => ?_) (fun t ht => ?_) (So _) Se Se
 ·rw [SN.1 ht];unfold fK;rw [SE, SJ];exact ⟨yE v i, hs⟩
 ·rw [SN.1 ht];exact ⟨Sz.one.ok Se, by show Sz 2 (nR _).d; rw [cn]; exact Sz.one.mono Se⟩
 ·rw [SN.1 ht];show (kv v i).size ≤ 100000;omega
theorem DR {v : Nat} {x : Dyadic} (h : v ≤ 12) (hx : Sz k x) (hk : k ≤ 900000) : jf (v : Int) (k + 1) (q6 v x) := qj (fJ h) (by show Sz k (nR x).d; rw [cn]; exact hx) hk
theorem DG {v i : Nat} {x : Dyadic} (h : v ≤ 12) (hx : Sz k x) (hk : k ≤ 400000) : jf (v : Int) (k + k + 4) (tK v i x) := by
 have hv := CW (i := i) h;have hl : ((wE v i).map (nx x)).length ≤ 1 := by rw [Sx]; exact cI _
 refine (lF (k := 3 + k) (n := 1) (fJ h) (fun t ht => ?_) (BJ hv.ok hx Sd) (fun t ht => ?_) hl Se Sd).mono (by
  by_cases h0 : k = 0
  ·omega
  ·omega)
 ·obtain ⟨s, hs, rfl⟩ := SB.1 ht;exact (cm hv.e).2.2.1 s hs
 ·obtain ⟨s, hs, rfl⟩ := SB.1 ht;exact hv.sz s hs
theorem kV {v i : Nat} {s : SR} (h : v ≤ 12) (hs : s.fin k) (hk : k ≤ 100000) : jf (v : Int) (k + k + 10) (gI v i s) ∧ (gI v i s).length ≤ 2 := by
 have h1 := DR h (SR.PY hs) Sd;have h2 := DG (i := i) h ((SR.P6 hs).sub (SR.PY hs)) Sd;have hl : (q6 v s.L ++ tK v i (s.H - s.L)).length ≤ 2 := by
  rw [Sr];have a1 : (q6 v s.L).length ≤ 1 := cI _;have a2 : (tK v i (s.H - s.L)).length ≤ 1 := SK (cI _) (by rw [Sx]; exact cI _);omega
 have hm : ∀ {P : TR → Prop}, (∀ t ∈ q6 v s.L, P t) → (∀ t ∈ tK v i (s.H - s.L), P t) → ∀ t ∈ q6 v s.L ++ tK v i (s.H - s.L), P t := fun a b t ht => (S2.1 ht).elim (a t) (b t);refine ⟨(lF (k := k + 1 + (k + 1) + 4) (n := 2) (fJ h) (hm (cm h1.e).2.2.1 (cm h2.e).2.2.1) (hm (h1.ok.mono Sd) h2.ok) (hm h1.sz h2.sz) hl Se Sd).mono Sd, SK (cI _) hl⟩
theorem fw {i : Nat} {s : SR} (h : b[i]? = some s) : (bj b)[i]? = some ⟨b.length, none, 0, 0, gI b.length i s⟩ := by
 unfold bj;rw [UW, h]
 rfl
theorem iK (b : List SR) : (bj b).length = b.length := by unfold bj; rw [List.length_mapIdx]
theorem Ag {g : PX} (h : g ∈ bj b) : ∃ i s, b[i]? = some s ∧ g = ⟨b.length, none, 0, 0, gI b.length i s⟩ := by
 obtain ⟨i, hi⟩ := TV.1 h;obtain ⟨s, hs⟩ := av (l := b) (k := i) (by have := (SC.1 hi).1; rwa [iK] at this);rw [fw hs] at hi;exact ⟨i, s, hs, (Tc hi).symm⟩
theorem OS {i : Nat} (h : n ≤ 12) (hi : i < n) : rV n i = 0 := Si (by rw [fJ h]; rintro (a | a | a) <;> first | cases a | omega)
theorem OM (h : n ≤ 12) : xM n = 0 := Si (by rw [fJ h]; decide)
theorem xw (p : PX) (L : Option Addr) (n c : Nat) (b : List SR) (k : Nat) (ds : List Nat) (w : World) (hT : dD w) (hp : p.at_ w) (lp : p.kq k) (hB : Sl w L n 6 (aw SR.cells b)) (hb : ∀ s ∈ b, s.fin k) (hv : p.v = n) (hn0 : 0 < n) (hn : n ≤ 12) (hk : k ≤ 1000)
  (hds : ds.length = n) (hex : ∀ (i d : Nat), ds[i]? = some d → d ≤ 127 ∧ ∀ t ∈ p.ts, fD i t ≤ d) (hgr : fU (k + k + 16394) ds (k + 1) ≤ 440000) :
  Calls Tryz.prog 88 #[.agg #[.int .i64 p.v, .slice p.A p.n p.c], .slice L n c] w fun r w' => ∃ g : PX, gh (df p (bj b)).1 n (df p (bj b)).2 g ∧ r = .returned (.tuple #[.agg #[.int .i64 g.v, .slice g.A g.n g.c], .int .i64 (df p (bj b)).1]) ∧ Hp w [g.row] w' := by
 have hh := Hp.start w;have hbl : b.length = n := hB.bz SR.len Se;have hok : ∀ s ∈ b, s.ok := fun s hs => ⟨(hb s hs).1.ok, (hb s hs).2.ok⟩;have hfo := fun w1 hT1 hb1 => mr L n c b w1 hT1 (hB.ext hb1) hok Sd;have hhv : ff (bj b) = n := by
  obtain ⟨s, hs⟩ := av (l := b) (k := 0) Sd;rw [kD (fw hs), hbl]
 refine aj (N := 67) (l := [.agg #[.int .i64 p.v, .slice p.A p.n p.c], .slice L n c]) Tryz.func88 rfl rfl (by simp) ?_;refine sr ?_;refine cq hh [_,_] ?_;intro b2 w2 hh;refine bJ hh ?_;intro b4 w4 hh;refine aI (aa (sr (aL (aa (ah (sr (mL ?_)))))));refine aC (hfo _ (hT.hp hh) hh.below) ak.out rfl Se ?_;rintro e_ w18 ⟨A18, c18, rfl, hown_, hb_⟩;refine ⟨_, rfl, ?_⟩;replace hh := hh.aO (x := .row _ _ _ _ _ _) hb_ hown_;refine aK (mI (aa (ao ?_)));replace hh := hh.dL 24 2;refine bP [6, 7, 8, 9, 10, 11, 12, 13, 14, 15, 16, 20, 21, 22, 23, 24, 25, 26, 27, 28, 29, 30, 31, 32, 33, 34, 35, 36, 37, 38, 39, 40, 41, 42, 43, 44, 45, 46, 47, 48, 49, 50, 51, 52, 53, 54, 55, 56, 57, 58, 59, 60, 61] 6 20
  (fun a v w' => ∃ (i c3 : Nat) (A : Option Addr) (os : List PX) (R : List HE), i ≤ n ∧ v = .int .i64 i ∧ a = .slice A i c3 ∧ os.length = i ∧ Ey ((bj b).map fun g => ⟨g.v, none, g.ts.length, 0, g.ts⟩) os R ∧ Hp w (.row A i c3 24 2 (aw PX.cells os) :: .row A18 n c18 81 6 (aw SR.cells (b.map SR.f)) :: .blk b4 24 [.int .i64 0, .slice none 0 0] (0, 0) :: .blk b2 24 [.int .i64 p.v, .slice p.A p.n p.c] (0, 0) :: R) w')
  (fun _ v _ => n - (intOf v).toNat) ?_ ?_
 ·exact ⟨0, 0, none, [], [], Sn _, rfl, rfl, rfl, ⟨fun j g o _ h => (nomatch h), fun o h => (nomatch h)⟩, hh⟩
 ·clear hh;rintro ρ' a_ v w' ⟨i, c3, A, os, R, hi, rfl, rfl, hol, hcp, hh⟩;by_cases hlt : i < n
  ·obtain ⟨s, hs⟩ := av (l := b) (k := i) Sd;have hsf := hb s (Sp hs);have hsn : (b.map SR.f)[i]? = some s.f := by rw [St, hs]; rfl
   have zL := SR.PY hsf;have zH := SR.P6 hsf;have zW := zH.sub zL;obtain ⟨po, pl⟩ := kV (v := n) (i := i) hn hsf Sd;have vo := CW (i := i) hn;have fo := DG (i := i) hn zW Sd;have co := DR hn zL Sd;have hva := fun w1 hT1 => z9 (n : Int) (i : Int) w1 hT1;rw [OS hn hlt] at hva;have hsu := fun w1 hT1 => rK (nR s.H) (nR s.L) w1 hT1 (zH.ok Sd) (zL.ok Sd) k (by rw [cn]; exact zH) (by rw [cn]; exact zL) Sd;rw [cn, cn] at hsu;have hcn := fun w1 hT1 => lB (n : Int) (nR s.L) k w1 hT1 ⟨zL.ok Sd, by rw [cn]; exact zL⟩ Sd;rw [OM hn] at hcn;rw [T7] at hva;have hV : aF [⟨kv n i, nR ((1 : Int) : Dyadic)⟩] = wE n i := rfl;have hC : aF [⟨ef n, nR s.L⟩] = q6 n s.L := rfl;have hF : aF ((wE n i).map (nx (s.H - s.L))) = tK n i (s.H - s.L) := rfl;have hP : aF (q6 n s.L ++ tK n i (s.H - s.L)) = gI n i s := rfl;have tl1 : (wE n i).length ≤ 1 := cI _;have ul1 : (q6 n s.L).length ≤ 1 := cI _;have fl1 : (tK n i (s.H - s.L)).length ≤ 1 := SK (cI _) (by rw [Sx]; exact cI _);have hps := fw hs;rw [hbl] at hps;rw [hV] at hva;rw [hC] at hcn;clear hV hC;generalize wE n i = VL at *;generalize q6 n s.L = CL at *;generalize tK n i (s.H - s.L) = FL at *;generalize gI n i s = PL at *
   obtain ⟨gf, rfl⟩ := hh.cD (i := 1) rfl Sd;refine sr ?_;refine fj ?_;refine gj ?_;refine ct (vs := [_, _, _, _, _, _]) aP.out rfl (hh.eL (f := SR.cells) (x := s.f) (l := b.map SR.f) (i := 1) rfl SR.len Se hsn) rfl Se ?_;refine bJ hh ?_;intro b8 w8 hh;refine aI ?_;refine bK hh 0 [_,_,_,_,_,_] ?_;intro ws hh;replace hh : Hp _ (.blk _ _ [_, _, _, _, _, _] _ :: _) _ := hh;refine aa (sr (mL (aK (mI ?_))));replace hh := show Hp w (.blk b8 81 [.bool (nR s.L).neg, .string (nR s.L).bf, .int .i64 (nR s.L).e, .bool (nR s.H).neg, .string (nR s.H).bf, .int .i64 (nR s.H).e] (0, 0) :: _) _ from hh;refine aC (hva _ (hT.hp hh)) ak.out rfl Se ?_;rintro e_ w29 ⟨t, ot, rfl, h4⟩;refine ⟨_, rfl, ?_⟩;have htc : t.n ≤ t.c := h4.fH (i := 0) rfl;replace hh := hh.join h4;clear h4;simp only [Sv, Ss] at hh;obtain ⟨tv, tA, tn, tc, tt⟩ := t;replace hh := show Hp w (.row tA tn tc 96 4 (aw TR.cells tt) :: _) _ from hh;have et : VL = tt := ot.t0.symm;have ev_ : tv = (n : Int) := ot.v0;subst et ev_;have tln : VL.length = tn := (hh.aD (i := 0) rfl).bz TR.len Se
   have hsc := fun w1 hT1 ha => vU ⟨n, tA, tn, tc, VL⟩ (nR (s.H - s.L)) (k + 3) w1 hT1 ha ⟨by show tn ≤ 1000000; omega, htc, vo.ok.mono Sd, vo.sz⟩ ⟨zW.ok Sd, by rw [cn]; exact zW.mono Sd⟩ Sd;have hse : E4 ⟨n, tA, tn, tc, VL⟩ (s.H - s.L) = 0 := by
    unfold E4 PX.e;rw [vo.e, Sj rfl];exact k7 (by rw [Sx]; show VL.length ≤ 4096; omega)
   rw [cn, hse] at hsc;dsimp only at hsc;rw [hF] at hsc;refine mT ?_;refine cE ?_;refine cE ?_;refine bJ hh ?_;intro b9 w9 hh;refine bK hh 0 [_,_] ?_;intro ws hh;replace hh : Hp _ (.blk _ _ [_, _] _ :: _) _ := hh;refine aI (aa (ah ?_));refine eM [10] [9] [0, 0, 2, 0, 8, 30, 63, 127, 255, 255, 0, 1535, 4095] 11 [[(9, none)], [(8, none)], [(34, some 1)], [(8, none)], [(36, some 3)], [(35, some 2), (37, some 4)], [(33, some 0), (38, some 5)], [(39, some 6)], [(32, some 7)], [(32, some 7)], []] [(10, 11), (9, 41), (8, 40), (7, 32), (6, 39), (5, 38), (4, 37), (3, 36), (2, 35), (1, 34), (0, 33)] hh mixed Sf (E5 rfl aP.out fN) rfl (by repeat (first | exact bT | refine bG ?_ | refine bW ?_)) ?_;refine eX 0 [_,_] ?_;refine ek ?_;refine eX 2 [_,_,_] ?_;refine ek ?_;refine eX 2 [_,_,_] ?_;refine dC (fun _ hj => hsu _ (hT.hp hj.hp)) ?_;refine a8 (i := 6) (ma hh.sz 0 n FL) (ma.ext) ?_ ?_
   ·intro ρ1 w1 hj hR;exact bA rfl (aZ ak.out (aA (show ρ1 33 = Value.agg (List.toArray _) from hR.1) (aA (show ρ1 38 = Value.agg (List.toArray _) from hR.2.1) a7))) (hsc w1 (hT.hp hj.hp) (hj.hp.aD (i := 1) rfl)) (fun _ _ ⟨g, og, hq, h3⟩ => ⟨_, hq, h3.below, g, w1, rfl, og, hj.bl.size, h3⟩)
   refine a8 (i := 7) (ma hh.sz 0 n FL) (ma.ext) ?_ ?_
   ·exact OI
   refine a8 (i := 8) (kX hh.sz 0 n FL) (kX.ext) ?_ ?_
   ·exact Pn
   refine a8 (i := 9) (Is (.int .i64 0)) (Is.ext) ?_ ?_
   ·exact NW
   refine a8 (i := 10) (di _ 24 _) di.ext (fun ρ1 w1 hj hR => jU aP.out hj.bl (fun v w2 h hb => ⟨hb, h⟩)) ?_;refine aR ?_;intro f W hJ hV _;have hb_6 := hJ.bl;obtain ⟨v11, v41, v40, v32, v39, v38, v37, v36, v35, v34, v33, _⟩ := hV;obtain ⟨g39, u39, e39, -⟩ := v39;obtain ⟨g32, u32, e32, -⟩ := v32;obtain ⟨g40, u40, e40, o40, q40, h40⟩ := v40;obtain ⟨b11, e11, hl11, hc11⟩ : di _ _ _ (f 10) W := v11;replace hh := hJ.pW hh hl11 hc11 q40 h40 (PX.ne h40 hc11 Se);refine aX (bp (ae e11 (ae v41 (ae e40 (ae e32 (ae e39 (ae v38 (ae v37 (ae v36 (ae v35 (ae v34 (ae v33 aW)))))))))))) ?_;dsimp only [ck];clear e39 e32 e40 e11 hJ;simp only [Sv, Ss] at hh;obtain ⟨fv, fA, fn, fc, ft⟩ := g40;replace hh := show Hp w (_ :: .row fA fn fc 96 4 (aw TR.cells ft) :: _) W from hh;have et : FL = ft := o40.t0.symm;have ev_ : fv = (n : Int) := o40.v0;subst et ev_;have fln : FL.length = fn := (hh.aD (i := 1) rfl).bz TR.len Se;have fcc : fn ≤ fc := hh.fH (i := 1) rfl;refine bK hh 0 [_,_] ?_;intro ws hh;replace hh : Hp _ (.blk _ _ [_, _] _ :: _) _ := hh;refine aI (aa (sr (mL (aK (bF ?_)))));refine cu hh 4 [_,_,_] ?_;refine aC (hcn _ (hT.hp hh)) ak.out rfl Se ?_
   rintro e_ w47 ⟨u, ou, rfl, h4⟩;refine ⟨_, rfl, ?_⟩;have huc : u.n ≤ u.c := h4.fH (i := 0) rfl;replace hh := hh.join h4;clear h4;simp only [Sv, Ss] at hh;obtain ⟨uv, uA, un, uc, ut⟩ := u;replace hh := show Hp w (.row uA un uc 96 4 (aw TR.cells ut) :: _) _ from hh;have et : CL = ut := ou.t0.symm;have ev_ : uv = (n : Int) := ou.v0;subst et ev_;have uln : CL.length = un := (hh.aD (i := 0) rfl).bz TR.len Se;refine mT ?_;refine cE ?_;refine cE ?_;refine bJ hh ?_;intro b13 w13 hh;refine bK hh 0 [_,_] ?_;intro ws hh;replace hh : Hp _ (.blk _ _ [_, _] _ :: _) _ := hh;refine aI (aa (sr ?_));refine cu hh 0 [_,_] ?_;refine cu hh 2 [_,_] ?_;refine Ix ?_;intro b53 w53 hh;have hlp : fi [⟨n, uA, un, uc, CL⟩, ⟨n, fA, fn, fc, FL⟩] = 0 := r4 co.e fo.e rfl;have had := fun A3 w1 hT1 hS1 s1 s2 => tG A3 2 2 [⟨n, uA, un, uc, CL⟩, ⟨n, fA, fn, fc, FL⟩] (k + k + 10) w1 hT1 hS1 Se (fun g hg => by
    rcases SH.1 hg with rfl | hg
    ·exact s1
    ·rw [SN.1 hg]; exact s2) (fun g hg => by
    rcases SH.1 hg with rfl | hg
    ·exact ⟨by show un ≤ 1000000; omega, huc, co.ok.mono Sd, co.sz⟩
    ·rw [SN.1 hg]; exact ⟨by show fn ≤ 1000000; omega, fcc, fo.ok.mono Sd, fo.sz⟩) Sd
   unfold G7 at had;rw [Sj hlp, LP] at had;dsimp only at had;rw [hP] at had;rw [k7 (l := CL ++ FL) (by rw [Sr]; omega)] at had;refine aC (had _ _ (hT.hp hh) (hh.aD (i := 0) rfl) (hh.aD (i := 2) rfl) (hh.aD (i := 4) rfl)) ak.out rfl Se ?_;rintro e_ w54 ⟨z, oz, rfl, h4⟩;refine ⟨_, rfl, ?_⟩;have hzc : z.n ≤ z.c := h4.fH (i := 0) rfl;replace hh := hh.join h4;clear h4;simp only [Sv, Ss] at hh;replace hh := show Hp w (.row z.A z.n z.c 96 4 (aw TR.cells z.ts) :: _) _ from hh;have zln : z.ts.length = z.n := (hh.aD (i := 0) rfl).bz TR.len Se;refine mT ?_;refine cE ?_;refine cE ?_;refine bJ hh ?_;intro b15 w15 hh;refine bK hh 0 [_,_] ?_;intro ws hh;replace hh : Hp _ (.blk _ _ [_, _] _ :: _) _ := hh;refine aI (aa (al (mL ?_)));refine cu hh 0 [_,_] ?_;refine dr hh (cs := [_, _]) bq.out aP.out (bC (iq rfl) dF) rfl rfl Se Se Se rfl Se ?_;intro b59 w59 hh;refine cR hh (i := 11) rfl rfl rfl (hh.aD (i := 0) rfl) bq.out aP.out rfl Se (by first | rfl | exact ez _ | exact du _ | exact bU _ | exact cw NR.one _) Sd Sd Se ?_;intro A60 c60 w60 hh;simp only [Sy, Tb] at hh;replace hh := hh.sub (Th _ _)
   refine na ?_;refine a9 (mI (az (ai ?_)));replace hh := hh.sub (Sm _ (Sk _ (Sm _ (Sm _ (Sm _ (Sm _ (Sm _ (Sm _ (Sm _ (Sm _ (Sk _ (Sk _ (Sk _ (Sk _ (TJ _)))))))))))))));replace hh := hh.perm (Tr (l₁ := [_, _, _, _]));simp only [Sv, Ss] at hh;replace hh := hh.perm (Tr (l₁ := [_, _, _, _]));simp only [Sv, Ss] at hh;replace hh := hh.perm (Tr (l₁ := [_, _, _, _]));simp only [Sv, Ss] at hh;replace hh := hh.perm (Tr (l₁ := [_, _, _, _]));simp only [Sv, Ss] at hh;have hcp2 := hcp.add (g := ⟨n, none, PL.length, 0, PL⟩) (o := z) (by rw [hol, St, hps]; rfl) ⟨oz.v0, oz.t0, by rw [← zln, oz.t0]⟩ hzc;refine ⟨⟨i + 1, c60, A60, os ++ [z], z.row :: R, Sd, rfl, rfl, by rw [Sr, hol]; rfl, hcp2, by rw [cA, sy]; exact hh⟩, by show n - (i + 1) < n - i; omega, ?_⟩
   exact eB
  ·obtain rfl : i = n := Sd;have hol2 : os.length = ((bj b).map fun g => (⟨g.v, none, g.ts.length, 0, g.ts⟩ : PX)).length := by rw [Sx, iK]; omega
   have hkey := hcp.key hol2;rw [Ty] at hkey;replace hkey : os.map PX.norm = (bj b).map PX.norm := hkey;obtain ⟨ks, kh⟩ := IY (o := p) (p := p) rfl rfl hkey;have hall : ∀ o ∈ os, o.kq (k + k + 10) ∧ o.ts.length ≤ 2 := fun o ho => by
    obtain ⟨j, hj⟩ := TV.1 ho;have hjn : j < os.length := (SC.1 hj).1;obtain ⟨s, hs⟩ := av (l := b) (k := j) Sd;obtain ⟨e1, e2, e3⟩ := hcp.eq j ⟨b.length, none, (gI b.length j s).length, 0, gI b.length j s⟩ o (by rw [St, fw hs]; rfl) hj;obtain ⟨po, pl⟩ := kV (v := b.length) (i := j) Sd (hb s (Sp hs)) Sd;replace e2 : o.ts = gI b.length j s := e2;replace e3 : o.n = (gI b.length j s).length := e3;exact ⟨⟨Sd, (hcp.my o ho).2, by rw [e2]; exact po.ok, by rw [e2]; exact po.sz⟩, by rw [e2]; exact pl⟩
   have hfit : Re p os k (k + k + 10) 2 (k + k + 16394) ds := ⟨Sd, hex, hgr, Sd, Sd, fun g hg => (hall g hg).1, fun g hg => (hall g hg).2⟩;have hsu := fun w1 hT1 ha hs hm hc => vN p A c3 os k (k + k + 10) 2 (k + k + 16394) ds w1 hT1 ha lp hs hm hc hfit;rw [ks, kh, hhv, hol] at hsu;generalize (df p (bj b)).1 = E at *;generalize (df p (bj b)).2 = S at *;refine sr ?_;refine mq ?_;refine cu hh 3 [_,_] (mL ?_);refine aC (hsu _ (hT.hp hh) (hp.ext hh.below) (hh.aD (i := 0) rfl) (fun z hz => J5 hh (SA _ (SA _ (SA _ (SA _ (hcp.my z hz).1))))) (hh.fH (i := 0) rfl)) ak.out rfl Se ?_;rintro e_ w64 ⟨g, og, rfl, h4⟩;refine ⟨_, rfl, ?_⟩;replace hh := hh.join h4;clear h4;simp only [Sv, Ss] at hh;refine cE ?_;refine cE ?_;refine bK hh 3 [_,_] ?_;intro ws hh;replace hh : Hp _ (_ :: _ :: _ :: .blk _ _ [_, _] _ :: _) _ := hh;refine aI (aa (au ?_));refine FA ?_;exact CX
def dM (i : Nat) (f : ByteArray → Dyadic) (m : ByteArray) : Dyadic :=
 match m.data.toList[i]? with | some e => ((e.toNat : Int) : Dyadic) * f (str (m.data.toList.set i (e - 1))) | none => 0
theorem LX {f g : ByteArray → Dyadic} (h : ∀ t ∈ l, f t.m = g t.m) : wS f l = wS g l := by
 induction l with
 | nil => rfl
 | cons t l ih => rw [wS, wS, h t Sq, ih fun s hs => h s (SA _ hs)]
theorem Cs {a b : List UInt8} (ha : eI a = true) (hb : eI b = true) (hl : b.length = a.length) (h : (List.zipWith (· + ·) (ints a) (ints b)).all cM = true) : mulL a b = ((List.zipWith (· + ·) (ints a) (ints b)).map z4, 0) := by
 unfold mulL;rw [IX ha hb hl];show (IH _, Je _) = _;rw [(rE h).1, (rE h).2]
theorem HD {a b : List UInt8} (h : (mulL a b).2 = 0) : (List.zipWith (· + ·) (ints a) (ints b)).all cM = true := by
 obtain ⟨_, _, _, h4, h5⟩ := mU h;rw [← h5];exact KA h4
theorem I8 {a b : ByteArray} {i : Nat} {x y : UInt8} (h : l8 a b = 0) (hx : a.data.toList[i]? = some x) (hy : b.data.toList[i]? = some y) : (mulM a b).data.toList[i]? = some (z4 ((x.toNat : Int) + y.toNat)) ∧ (z4 ((x.toNat : Int) + y.toNat)).toNat = x.toNat + y.toNat := by
 obtain ⟨h1, h2, h3, _, _⟩ := mU h;have hall := HD h;have hiy : (ints b.data.toList)[i]? = some (y.toNat : Int) := by unfold ints; rw [St, hy]; rfl
 have hix : (ints a.data.toList)[i]? = some (x.toNat : Int) := by unfold ints; rw [St, hx]; rfl
 have hzz := H6 (f := fun (x y : Int) => x + y) hix hiy;have hxy : cM ((x.toNat : Int) + y.toNat) = true := SU.1 hall _ (Sp hzz);have e1 := ra hxy;injection e1 with _ e1
 refine ⟨?_, Sd⟩;unfold mulM;rw [eE, Cs h1 h2 h3 hall, St, hzz]
 rfl
def kW (B : Nat → Nat) (l : List TR) : Prop := ∀ t ∈ l, ∀ i, fD i t ≤ B i
theorem kW.mono {B C : Nat → Nat} (h : kW B l) (hb : ∀ i, B i ≤ C i) : kW C l := fun t ht i => SK (h t ht i) (hb i)
theorem Od {s t : TR} (h : s.m = t.m) (i : Nat) : fD i s = fD i t := by unfold fD; rw [h]
theorem kW.aF {B : Nat → Nat} {l : List TR} (h : kW B l) : kW B (aF l) := fun t ht i => by
 obtain ⟨s, hs, e⟩ := jT t ht;rw [← Od e i];exact h s hs i
theorem kW.append {B : Nat → Nat} {k : List TR} (h : kW B l) (h2 : kW B k) : kW B (l ++ k) := fun t ht => (S2.1 ht).elim (h t) (h2 t)
theorem kW.prod {B C : Nat → Nat} {q : List TR} (hp : kW B p) (hq : kW C q) (h : ∀ e ∈ qt p q, e = 0) : kW (fun i => B i + C i) (bR p q) := fun t ht i => by
 obtain ⟨x, hx, ht⟩ := Uw.1 ht;obtain ⟨y, hy, rfl⟩ := SB.1 ht;have hz : l8 x.m y.m = 0 := h _ (Uw.2 ⟨x, hx, SB.2 ⟨y, hy, rfl⟩⟩)
 cases ha : x.m.data.toList[i]? with
 | none =>
  have hl := Ab hz;have hx0 := Vz.1 ha;have e : (pQ x y).m.data.toList[i]? = none := by
   show (str _).data.toList[i]? = none;rw [eE];exact Sw (by rw [hl]; exact hx0)
  unfold fD;rw [e];exact Sn _
 | some a =>
  obtain ⟨_, _, h3, _, _⟩ := mU hz;have hlt := (SC.1 ha).1;obtain ⟨b, hb⟩ := av (l := y.m.data.toList) (k := i) Sd;obtain ⟨e1, e2⟩ := I8 hz ha hb;rw [l0 (t := pQ x y) e1, e2];have h1 := hp x hx i;have h2 := hq y hy i;rw [l0 ha] at h1;rw [l0 hb] at h2;show a.toNat + b.toNat ≤ B i + C i;omega
theorem oD {q p : List TR} {sub : List TR → Int × List TR} {j D : Nat} {E : Nat → Nat} (hq : kW (fun x => if x = j then 1 else 0) q) (hD : ∀ t ∈ p, fD j t ≤ D) (hE : E j = 0) (hs : ∀ n, (sub (a0 p j n)).1 = 0 → kW E (sub (a0 p j n)).2) :
  ∀ i, i ≤ 128 → (bh q sub p j i).1 = 0 → kW (fun x => if x = j then i + D - 128 else E x) (bh q sub p j i).2
 | 0, _, _ => fun t ht => (nomatch ht)
 | i + 1, hi, h0 => by
  have h1 : (bh q sub p j i).1 = 0 := by
   refine T1 fun c => ?_;rw [jH c (Nat.le_succ i)] at h0;exact c h0
  have ih := oD hq hD hE hs i Sd h1;have hsb : ∀ n, (sub (a0 p j n)).1 = 0 → kW (fun x => if x = j then i + 1 + D - 128 else E x) (sub (a0 p j n)).2 := fun n hn => (hs n hn).mono fun x => by
   by_cases hx : x = j
   ·rw [Sj hx, hx, hE]; exact Sn _
   ·rw [Si hx]; exact So _
  have hpr : e6 (bh q sub p j i).2 q = 0 → kW (fun x => if x = j then i + 1 + D - 128 else E x) (aF (bR (bh q sub p j i).2 q)) := fun ht => by
   by_cases hlow : i + D ≤ 127
   ·rw [gG hD i hlow];exact fun t ht => (nomatch ht)
   ·refine ((ih.prod hq (jZ ht).2.1).mono fun x => ?_).aF;by_cases hx : x = j
    ·rw [Sj hx, Sj hx, Sj hx]; omega
    ·rw [Si hx, Si hx, Si hx]; omega
  rw [iF] at h0 ⊢;unfold gN at h0 ⊢;rw [Si (fun h => h h1)] at h0 ⊢;by_cases c1 : (bh q sub p j i).2.length = 0 ∧ (a0 p j (127 - i)).length = 0
  ·rw [Sj c1, UG.1 c1.1];exact fun t ht => (nomatch ht)
  ·rw [Si c1] at h0 ⊢;by_cases c2 : e6 (bh q sub p j i).2 q ≠ 0
   ·rw [Sj c2] at h0; exact absurd h0 c2
   ·rw [Si c2] at h0 ⊢;by_cases c3 : (sub (a0 p j (127 - i))).1 ≠ 0
    ·rw [Sj c3] at h0; exact absurd h0 c3
    ·rw [Si c3] at h0 ⊢;by_cases c4 : fY (aF (bR (bh q sub p j i).2 q) ++ (sub (a0 p j (127 - i))).2) ≠ 0
     ·rw [Sj c4] at h0; exact absurd h0 c4
     ·rw [Si c4];exact ((hpr Sd).append (hsb _ Sd)).aF
theorem tD (v : Int) (c : NR) : kW (fun _ => 0) [⟨ef v, c⟩] := fun t ht i => by
 rw [SN.1 ht]
 cases he : (⟨ef v, c⟩ : TR).m.data.toList[i]? with
 | none => unfold fD; rw [he]; exact So _
 | some e =>
  rw [l0 he];have hm := Sp he;replace hm : e ∈ (List.replicate v.toNat (0 : UInt8)) := by simpa [ef] using hm
  rw [(List.mem_replicate.1 hm).2];exact So _
theorem wI {v : Int} : ∀ (qs : List (List TR)) (j : Nat) (p : List TR) (D : Nat → Nat), (∀ (i : Nat) (q : List TR), qs[i]? = some q → kW (fun x => if x = j + i then 1 else 0) q) → (∀ t ∈ p, ∀ i, i < qs.length → fD (j + i) t ≤ D (j + i)) → (eh v qs j p).1 = 0 → kW (fun x => if j ≤ x ∧ x < j + qs.length then D x else 0) (eh v qs j p).2 := by
 intro qs
 induction qs with
 | nil =>
  intro j p D _ _ _;exact (tD v _).aF.mono fun x => Sn _
 | cons q qs ih =>
  intro j p D hq hp h0;have hsub : ∀ n, (eh v qs (j + 1) (a0 p j n)).1 = 0 → kW (fun x => if j + 1 ≤ x ∧ x < j + 1 + qs.length then D x else 0) (eh v qs (j + 1) (a0 p j n)).2 := fun n hn => by
   refine ih (j + 1) (a0 p j n) D (fun i r hr => ?_) (fun t ht i hi => ?_) hn
   ·have := hq (i + 1) r (by simpa using hr);rwa [show j + 1 + i = j + (i + 1) by omega]
   ·exact Pd
  have hq0 : kW (fun x => if x = j then 1 else 0) q := hq 0 q rfl;have hD : ∀ t ∈ p, fD j t ≤ D j := fun t ht => hp t ht 0 (by rw [SG]; omega);generalize hgen : eh v qs (j + 1) = sub at hsub;have e : ∀ m, m = 128 → (bh q sub p j m).1 = 0 → kW (fun x => if j ≤ x ∧ x < j + (q :: qs).length then D x else 0) (bh q sub p j m).2 := fun m hm h => by
   refine (oD hq0 hD (E := fun x => if j + 1 ≤ x ∧ x < j + 1 + qs.length then D x else 0) (by rw [Si Sd]) hsub m Sd h).mono fun x => ?_;rw [SG];by_cases hx : x = j
   ·rw [Sj hx, Sj Sd, hx]; omega
   ·rw [Si hx];by_cases h2 : j + 1 ≤ x ∧ x < j + 1 + qs.length
    ·rw [Sj h2, Sj Sd]; exact So _
    ·rw [Si h2]; exact Sn _
  have e2 : eh v (q :: qs) j p = bh q sub p j 128 := by rw [← hgen]; rfl
  rw [e2] at h0 ⊢;exact e 128 rfl h0
theorem Ob {i : Nat} {t : TR} (h : t ∈ l) : lQ t.m i ≤ zZ l i := by
 induction l using ji with
 | h0 => cases h
 | hs l x ih =>
  rw [rP]
  rcases S2.1 h with h | h
  ·have := ih h; omega
  ·rw [SN.1 h]; omega
theorem B8 {i : Nat} {B : Int} (hB : 0 ≤ B) (h : ∀ t ∈ l, lQ t.m i ≤ B) : 0 ≤ zZ l i ∧ zZ l i ≤ B := by
 induction l using ji with
 | h0 => exact ⟨Int.le_refl _, hB⟩
 | hs l x ih =>
  rw [rP];have h1 := ih fun t ht => h t (Uh _ ht);have h2 := h x (TG _ Sq);omega
theorem yj (t : TR) (i : Nat) : (fD i t : Int) = lQ t.m i := by
 unfold fD lQ
 cases t.m.data.toList[i]? <;> rfl
def cZ (v : Int) (ts : List TR) : List Nat := (qi v ts).map Int.toNat
theorem jl {v : Int} (h : fh v ts = 0) : qi v ts = bL (cZ v ts) ∧ (cZ v ts).length = v.toNat ∧ ∀ (i d : Nat), (cZ v ts)[i]? = some d → d ≤ 127 ∧ (∀ t ∈ ts, fD i t ≤ d) ∧ ((d : Int) = zZ ts i) := by
 obtain ⟨_, _, hm, _⟩ := cm h;have hd : qi v ts = lW v.toNat ts := Sj h;have hb : ∀ t ∈ ts, ∀ i, lQ t.m i ≤ 127 := fun t ht i => by
  have h1 := hm t ht;unfold fK at h1;rw [SE] at h1;unfold lQ
  cases he : t.m.data.toList[i]? with
  | none => decide
  | some e => have := rb h1.1 he; show ((e.toNat : Nat) : Int) ≤ 127; omega
 refine ⟨?_, by unfold cZ; rw [Sx, hd, fm], fun i d hi => ?_⟩
 ·unfold cZ bL;rw [Ty];refine (UY _).symm.trans (Um fun x hx => ?_);rw [hd] at hx;obtain ⟨i, _, rfl⟩ := SB.1 hx;have := (B8 (B := 127) Se fun t ht => hb t ht i).1;show zZ ts i = ((zZ ts i).toNat : Int);omega
 ·unfold cZ at hi;rw [hd, St] at hi;have hlt : i < v.toNat := by
   refine T1 fun hc => ?_;rw [Sw (by rw [fm]; omega)] at hi
   cases hi
  rw [rl ts hlt] at hi;have h1 := B8 (l := ts) (i := i) (B := 127) Se fun t ht => hb t ht i;have h2 : (zZ ts i).toNat = d := Tc hi;refine ⟨Sd, fun t ht => ?_, Sd⟩;have h3 := Ob (i := i) ht;have h4 := yj t i;omega
variable {F G q : Nat} {M : Nat → Nat → Dyadic}
section
variable (A : List Nat) (d L : Nat) (φ : List Dyadic → List Dyadic)
def kp (p : Nat) : Nat := bO A d (p % ar A) 0 (p / ar A / (d + 1))
def jx (X : List Dyadic) (F i : Nat) : List Dyadic := (List.range X.length).map fun p =>
 if p / ar A % (d + 1) < L ∧ (kp A d p < F ∨ kp A d p = F ∧ p / ar A % (d + 1) < i) then dV (φ (bZ A d X (p % ar A) (p / ar A / (d + 1)))) (p / ar A % (d + 1)) else dV X p
end
section
variable {A : List Nat} {d L : Nat} {φ : List Dyadic → List Dyadic} {X : List Dyadic}
theorem g7 (F i : Nat) : (jx A d L φ X F i).length = X.length := by simp [jx]
theorem mA {i p : Nat} (h : p < X.length) : (jx A d L φ X F i)[p]? = some (if p / ar A % (d + 1) < L ∧ (kp A d p < F ∨ kp A d p = F ∧ p / ar A % (d + 1) < i) then dV (φ (bZ A d X (p % ar A) (p / ar A / (d + 1)))) (p / ar A % (d + 1)) else dV X p) := by
 unfold jx;rw [St, S8 h]
 rfl
theorem xN {i : Nat} (h : ∀ p, p < X.length → p / ar A % (d + 1) < L → ((kp A d p < F ∨ kp A d p = F ∧ p / ar A % (d + 1) < i) ↔ (kp A d p < G ∨ kp A d p = G ∧ p / ar A % (d + 1) < j))) : jx A d L φ X F i = jx A d L φ X G j := by
 refine S0 fun p => ?_;by_cases hp : p < X.length
 ·rw [mA hp, mA hp];congr 1;by_cases hL : p / ar A % (d + 1) < L
  ·by_cases h1 : kp A d p < F ∨ kp A d p = F ∧ p / ar A % (d + 1) < i
   ·rw [Sj ⟨hL, h1⟩, Sj ⟨hL, (h p hp hL).1 h1⟩]
   ·rw [Si (fun h => h1 h.2), Si (fun h2 => h1 ((h p hp hL).2 h2.2))]
  ·rw [Si (fun h => hL h.1), Si (fun h => hL h.1)]
 ·rw [Sw (by rw [g7]; omega), Sw (by rw [g7]; omega)]
theorem ES : jx A d L φ X 0 0 = X := by
 refine S0 fun p => ?_;by_cases h : p < X.length
 ·rw [mA h, Si Sd, kE h]
 ·rw [Sw (by rw [g7]; omega), Sw Sd]
theorem AU {f : Nat} (hf : f < ar A) : bO A d f 0 q % ar A = f ∧ bO A d f 0 q / ar A % (d + 1) = 0 ∧ bO A d f 0 q / ar A / (d + 1) = q := jr hf (Sn _)
theorem Eb {f : Nat} (hf : f < ar A) (hk : k ≤ d) : kp A d (bO A d f k q) = bO A d f 0 q := by
 obtain ⟨h1, _, h3⟩ := jr (q := q) hf hk;unfold kp;rw [h1, h3]
theorem EV (h : F / ar A % (d + 1) ≠ 0) : jx A d L φ X F 0 = jx A d L φ X (F + 1) 0 := xN fun p _ _ => by
 have hne : kp A d p ≠ F := fun e => by
  have := (AU (d := d) (q := p / ar A / (d + 1)) (SO p (dm A))).2.1;unfold kp at e;rw [e] at this;exact h this
 omega
theorem E8 {i : Nat} (h : L ≤ i) : jx A d L φ X F i = jx A d L φ X (F + 1) 0 := xN fun p _ hL => by omega
theorem GX {f i : Nat} (hf : f < ar A) (hiL : i < L) (hi : i ≤ d) : (jx A d L φ X (bO A d f 0 q) i).set (bO A d f i q) (dV (φ (bZ A d X f q)) i) = jx A d L φ X (bO A d f 0 q) (i + 1) := by
 obtain ⟨h1, h2, h3⟩ := jr (q := q) hf hi;refine S0 fun p => ?_;rw [Tz, g7];by_cases hp : p < X.length
 ·rw [mA hp, mA hp];by_cases e : bO A d f i q = p
  ·subst e;rw [Sj rfl, Sj hp, h1, h2, h3, Eb hf hi, Sj ⟨hiL, .inr ⟨rfl, Nat.lt_succ_self i⟩⟩]
  ·rw [Si e];have hne : ¬ (kp A d p = bO A d f 0 q ∧ p / ar A % (d + 1) = i) := fun ⟨a, b⟩ => by
    have e1 := AU (d := d) (q := p / ar A / (d + 1)) (SO p (dm A));have e2 := AU (d := d) (q := q) hf;unfold kp at a;rw [a] at e1;have := rm (A := A) (d := d) p;rw [b, ← e1.1, ← e1.2.2, e2.1, e2.2.2] at this;exact e this
   congr 1;by_cases hL : p / ar A % (d + 1) < L ∧ (kp A d p < bO A d f 0 q ∨ kp A d p = bO A d f 0 q ∧ p / ar A % (d + 1) < i)
   ·rw [Sj hL, Sj ⟨hL.1, Sd⟩]
   ·rw [Si hL, Si (fun h => hL ⟨h.1, Sd⟩)]
 ·rw [Sw (by rw [g7]; omega)];by_cases e : bO A d f i q = p
  ·rw [Sj e, e, Si hp, Sw (by rw [g7]; omega)]
  ·rw [Si e, Sw (by rw [g7]; omega)]
theorem E2 {B : List Nat} {p : Nat} (hX : X.length = ar (A ++ d :: B)) (hp : p < X.length) : (jx A d L φ X X.length 0)[p]? = some (if p / ar A % (d + 1) < L then dV (φ (bZ A d X (p % ar A) (p / ar A / (d + 1)))) (p / ar A % (d + 1)) else dV X p) := by
 rw [mA hp];have hlt : kp A d p < X.length := by
  have h1 := rm (A := A) (d := d) p;have h2 : kp A d p ≤ p := by
   conv => rhs; rw [← h1]
   unfold kp bO;have := SX (ar A) (show 0 + (d + 1) * (p / ar A / (d + 1)) ≤ p / ar A % (d + 1) + (d + 1) * (p / ar A / (d + 1)) by omega);omega
  omega
 congr 1;by_cases h : p / ar A % (d + 1) < L
 ·rw [Sj ⟨h, .inl hlt⟩, Sj h]
 ·rw [Si (fun h2 => h h2.1), Si h]
theorem Mn {B : List Nat} (hX : X.length = ar (A ++ d :: B)) : jx A d (d + 1) (cY d M) X X.length 0 = dw (A ++ d :: B) A.length M X := by
 refine S0 fun p => ?_;by_cases hp : p < X.length
 ·obtain ⟨f, k, q, hf, hk, hq, rfl⟩ := lC (A := A) (d := d) (B := B) (by rw [← hX]; exact hp);obtain ⟨h1, h2, h3⟩ := jr (q := q) hf hk;rw [E2 hX hp, h1, h2, h3, Sj Sd];have e1 : (cY d M (bZ A d X f q))[k]? = some (sm (List.range (d + 1)) fun i => dV (bZ A d X f q) i * M i k) := by
   unfold cY;exact F0
  rw [rR M X hf hk hq];congr 1;show ((cY d M (bZ A d X f q))[k]?).getD 0 = _;rw [e1];refine aY fun i hi => ?_;have hi := S1.1 hi;show ((bZ A d X f q)[i]?).getD 0 * _ = _;unfold bZ;rw [St, S8 hi]
  rfl
 ·rw [Sw (by rw [g7]; omega), Sw (by rw [iE, ← hX]; omega)]
end
variable {ds : List Nat} {xs ys : List Dyadic}
def nX : List Dyadic → Dyadic → Dyadic
 | [], _ => 0
 | c :: cs, t => c + t * nX cs t
theorem qq {a b : Dyadic} (h : a * b = 0) (ha : a ≠ 0) : b = 0 := by
 refine T1 fun hb => ?_;have key : ∀ x y : Dyadic, 0 < x → y ≠ 0 → x * y ≠ 0 := fun x y hx hy => by
  by_cases h0 : 0 < y
  ·have := Lean.Grind.OrderedRing.mul_pos hx h0;grind
  ·have hy0 : 0 < -y := by grind
   have := Lean.Grind.OrderedRing.mul_pos hx hy0;grind
 by_cases h0 : 0 < a
 ·exact key a b h0 hb h
 ·exact key (-a) b (by grind) hb (by grind)
theorem OO (l : List Dyadic) : ∃ a : Dyadic, ∀ b ∈ l, b < a := by
 induction l with
 | nil => exact ⟨0, fun b hb => nomatch hb⟩
 | cons x l ih =>
  obtain ⟨a, ha⟩ := ih;by_cases h : a ≤ x
  ·refine ⟨x + 1, fun b hb => ?_⟩
   rcases SH.1 hb with rfl | hb
   ·grind
   ·have := ha b hb; grind
  ·refine ⟨a, fun b hb => ?_⟩
   rcases SH.1 hb with rfl | hb
   ·grind
   ·exact ha b hb
theorem Di (a : Dyadic) : ∀ cs : List Dyadic, ∃ g : List Dyadic, g.length ≤ cs.length - 1 ∧ (∀ t, nX cs t = nX cs a + (t - a) * nX g t) ∧ ((∀ x ∈ g, x = 0) → nX cs a = 0 → ∀ x ∈ cs, x = 0)
 | [] => ⟨[], So _, fun t => by simp only [nX]; grind, fun _ _ x hx => nomatch hx⟩
 | [c] => ⟨[], So _, fun t => by simp only [nX]; grind, fun _ h x hx => by
   rw [SN.1 hx];simp only [nX] at h;grind⟩
 | c :: d :: cs => by
  obtain ⟨g, h1, h2, h3⟩ := Di a (d :: cs);refine ⟨nX (d :: cs) a :: g, ?_, fun t => ?_, fun hg h0 x hx => ?_⟩
  ·simp only [SG] at h1 ⊢; omega
  ·show c + t * nX (d :: cs) t = (c + a * nX (d :: cs) a) + (t - a) * (nX (d :: cs) a + t * nX g t);rw [h2 t];generalize nX (d :: cs) a = A;generalize nX g t = B;grind
  ·have e1 : nX (d :: cs) a = 0 := hg _ Sq;have e2 := h3 (fun y hy => hg y (SA _ hy)) e1
   rcases SH.1 hx with rfl | hx
   ·rw [nX, e1] at h0; grind
   ·exact e2 x hx
theorem y6 : ∀ (n : Nat) (cs bad : List Dyadic), cs.length ≤ n → (∀ t, t ∉ bad → nX cs t = 0) → ∀ x ∈ cs, x = 0
 | 0, cs, _, hn, _ => fun x hx => by
  rw [UG.1 (Nat.le_zero.1 hn)] at hx
  cases hx
 | n + 1, cs, bad, hn, h => by
  obtain ⟨a, ha⟩ := OO bad;have hab : a ∉ bad := fun hb => by have := ha a hb; grind
  obtain ⟨g, h1, h2, h3⟩ := Di a cs;have ha0 := h a hab;refine h3 (y6 n g (a :: bad) Sd fun t ht => ?_) ha0;rw [SH, not_or] at ht;have e1 := h2 t;rw [h t ht.2, ha0] at e1;refine qq (a := t - a) (by grind) (fun e => ht.1 (by grind))
theorem vv (f : Nat → Dyadic) (t : Dyadic) : ∀ (n s : Nat), t ^ s * nX ((List.range' s n).map f) t = sm (List.range' s n) fun r => f r * t ^ r
 | 0, s => by rw [List.range'_zero]; exact U4 _
 | n + 1, s => by
  rw [List.range'_succ, SW, nX, sm, ← vv f t n (s + 1), Dyadic.pow_succ];grind
theorem wa {f : Nat → Dyadic} (h : ∀ t, sm (List.range n) (fun r => f r * t ^ r) = 0) : ∀ r, r < n → f r = 0 := fun r hr => by
 refine y6 n ((List.range n).map f) [] (by simp) (fun t _ => ?_) (f r) (SB.2 ⟨r, S1.2 hr, rfl⟩);have e1 := vv f t n 0;rw [← List.range_eq_range', h t] at e1;refine qq e1 ?_;rw [UL];decide
def im : List Nat → List Dyadic → Dyadic
 | a :: s, x :: xs => x ^ a * im s xs
 | _, _ => 1
theorem D5 (x y : Dyadic) (n : Nat) : (x * y) ^ n = x ^ n * y ^ n := by
 exact IU
theorem jJ (n : Nat) : (1 : Dyadic) ^ n = 1 := by
 exact IU
theorem H3 {d : Nat} {f : Nat → Dyadic} (h : ∀ t, sm (List.range (d + 1)) (fun r => f r * fS d r t) = 0) : ∀ r, r ≤ d → f r = 0 := by
 have hp : ∀ (m : Nat) (t : Dyadic), (1 - t) ^ m = sm (List.range (m + 1)) fun k => nD (bin m k) * ((-1 : Dyadic) ^ k) * t ^ k := fun m t => by
  have e1 := CU m (-t) 1;rw [show -t + 1 = 1 - t by grind] at e1;rw [← e1];refine aY fun k _ => ?_;rw [jJ, show (-t) ^ k = (-1 : Dyadic) ^ k * t ^ k by rw [← D5]; congr 1; grind];grind
 let M : Nat → Nat → Dyadic := fun r k => if k < r then 0 else nD (bin (d - r) (k - r)) * (-1 : Dyadic) ^ (k - r)
 have hb : ∀ r, r ≤ d → ∀ t, fS d r t = sm (List.range (d + 1)) fun k => M r k * t ^ k := fun r hr t => by
  have e0 : (fun k => M r k * t ^ k) = fun k => if k < r then 0 else (fun j => nD (bin (d - r) j) * (-1 : Dyadic) ^ j * t ^ (j + r)) (k - r) := funext fun k => by
   show (if k < r then 0 else nD (bin (d - r) (k - r)) * (-1 : Dyadic) ^ (k - r)) * t ^ k = _;by_cases hk : k < r
   ·rw [Sj hk, Sj hk, Vo]
   ·rw [Si hk, Si hk];show _ = nD (bin (d - r) (k - r)) * (-1 : Dyadic) ^ (k - r) * t ^ (k - r + r);rw [Nat.sub_add_cancel Sd]
  rw [e0, GM d r hr fun j => nD (bin (d - r) j) * (-1 : Dyadic) ^ j * t ^ (j + r)];show t ^ r * (1 - t) ^ (d - r) = _;rw [hp, ← gy];refine aY fun k _ => ?_;rw [ky];grind
 have hk : ∀ k, k < d + 1 → sm (List.range (d + 1)) (fun r => f r * M r k) = 0 := wa fun t => by
  rw [show (sm (List.range (d + 1)) fun r => sm (List.range (d + 1)) (fun r_1 => f r_1 * M r_1 r) * t ^ r) = sm (List.range (d + 1)) fun k => sm (List.range (d + 1)) fun r => f r * M r k * t ^ k from aY fun k _ => (jO _ _ _).symm, lI];refine Eq.trans (aY fun r hr => ?_) (h t);rw [hb r (by have := S1.1 hr; omega) t, ← gy];exact aY fun k _ => by grind
 intro r hr
 induction r using Nat.strongRecOn with
 | _ r ih =>
  have e1 := hk r Sd;have e2 : sm (List.range (d + 1)) (fun q => f q * M q r) = sm (List.range (d + 1)) fun q => if q = r then f r else 0 := aY fun q hq => by
   by_cases h1 : q < r
   ·rw [ih q h1 Sd, Si Sd, Vo]
   ·by_cases h2 : q = r
    ·subst h2;rw [Sj rfl];show f q * (if q < q then 0 else nD (bin (d - q) (q - q)) * (-1 : Dyadic) ^ (q - q)) = f q;rw [Si (Nat.lt_irrefl _), Td, mm, UL, wq];grind
    ·rw [Si h2];show f q * (if r < q then 0 else _) = 0;rw [Sj Sd, U4]
  rw [e2, pk, Sj Sd] at e1;exact e1
theorem val_zero : ∀ (ds : List Nat) (xs : List Dyadic), (∀ ts : List Dyadic, ts.length = ds.length → jm ds xs ts = 0) → ∀ p, p < ar ds → (xs[p]?).getD 0 = 0
 | [], xs, h, p, hp => by
  have e1 := h [] rfl;obtain rfl : p = 0 := by simpa [ar] using hp
  have e2 : jm [] xs [] = (xs[0]?).getD 0 * 1 + 0 := rfl;rw [e2] at e1;grind
 | d :: ds, xs, h, p, hp => by
  have hr : p % (d + 1) < d + 1 := SO _ Sd;have hq : p / (d + 1) < ar ds := by rw [TO Sd, SS]; exact hp
  have hsl : ∀ r, r ≤ d → ∀ q, q < ar ds → (xs[r + (d + 1) * q]?).getD 0 = 0 := fun r hr q hq => by
   have ih := val_zero ds ((List.range (ar ds)).map fun q => (xs[r + (d + 1) * q]?).getD 0) (fun ts hts => ?_) q hq
   ·rw [St, S8 hq] at ih;exact ih
   ·refine H3 (d := d) (f := fun r => jm ds ((List.range (ar ds)).map fun q => (xs[r + (d + 1) * q]?).getD 0) ts) (fun t => ?_) r hr;have e1 := h (t :: ts) (by simpa using hts);unfold jm at e1;rw [xb, lI] at e1;refine Eq.trans (aY fun r hr => ?_) e1;unfold jm;rw [← jO];refine aY fun q hq => ?_;have hr2 := S1.1 hr;rw [St, S8 (S1.1 hq)];show (xs[r + (d + 1) * q]?).getD 0 * lu ds (cV ds q) ts * fS d r t = _;rw [cV, T9, SY hr2, TE _ _ Sd, Tj hr2, SM, lu];grind
  have := hsl (p % (d + 1)) Sd (p / (d + 1)) hq;rwa [UD] at this
theorem val_inj (hx : xs.length = ar ds) (hy : ys.length = ar ds) (h : ∀ ts : List Dyadic, ts.length = ds.length → jm ds xs ts = jm ds ys ts) : xs = ys := by
 refine S0 fun p => ?_;by_cases hp : p < ar ds
 ·have e1 := val_zero ds ((List.range (ar ds)).map fun p => (xs[p]?).getD 0 - (ys[p]?).getD 0) (fun ts hts => ?_) p hp
  ·rw [St, S8 hp] at e1;replace e1 : (xs[p]?).getD 0 - (ys[p]?).getD 0 = 0 := e1;obtain ⟨x, h1⟩ : ∃ x, xs[p]? = some x := ⟨_, Ts Sd⟩;obtain ⟨y, h2⟩ : ∃ y, ys[p]? = some y := ⟨_, Ts Sd⟩;rw [h1, h2] at e1 ⊢;have e2 : x - y = 0 := e1;congr 1;grind
  ·have e1 := h ts hts;have e2 : jm ds ((List.range (ar ds)).map fun p => (xs[p]?).getD 0 - (ys[p]?).getD 0) ts = jm ds xs ts + (-1) * jm ds ys ts := by
    unfold jm;rw [← gy, ← wL];refine aY fun q hq => ?_;rw [St, S8 (S1.1 hq)];show ((xs[q]?).getD 0 - (ys[q]?).getD 0) * _ = _;grind
   rw [e2, e1];grind
 ·rw [Sw Sd, Sw Sd]
def cP (m : ByteArray) : List Nat := m.data.toList.map UInt8.toNat
theorem rL (m : ByteArray) : (cP m).length = m.size := by rw [dE]; exact Sx _
theorem zF {a b : ByteArray} (h : cP a = cP b) : a = b := ti (List.map_inj_right (fun _ _ => U2.1) |>.1 h)
theorem mM (m : ByteArray) : ints m.data.toList = bL (cP m) := by unfold ints bL cP; rw [Ty]; rfl
theorem F4 {a b : List Nat} (h : bL a = bL b) : a = b := (List.map_inj_right fun (x y : Nat) (e : (x : Int) = y) => Int.ofNat.inj e).1 h
def mb (xs : List Dyadic) (l : List TR) : Dyadic := wS (fun m => im (cP m) xs) l
theorem CE (f : ByteArray → Dyadic) (l : List TR) : wS f l = sm l fun t => t.c.d * f t.m := by
 induction l with
 | nil => rfl
 | cons t l ih => rw [wS, sm, ih]
theorem iO (xs : List Dyadic) (l : List TR) : mb xs (aF l) = mb xs l := p8 _ _
theorem th (xs : List Dyadic) (l k : List TR) : mb xs (l ++ k) = mb xs l + mb xs k := mC _ _ _
theorem yK : ∀ (a b : List Nat) (xs : List Dyadic), a.length = b.length → im (List.zipWith (· + ·) a b) xs = im a xs * im b xs
 | [], [], xs, _ => by show (1 : Dyadic) = 1 * 1; grind
 | [], _ :: _, _, h => by cases h
 | _ :: _, [], _, h => by cases h
 | x :: a, y :: b, [], _ => by show (1 : Dyadic) = 1 * 1; grind
 | x :: a, y :: b, t :: xs, h => by
  rw [List.zipWith_cons_cons, im, im, im, yK a b xs (by simpa using h), ky];grind
theorem mG : ∀ (n : Nat) (xs : List Dyadic), im (List.replicate n 0) xs = 1
 | 0, xs => by cases xs <;> rfl
 | n + 1, [] => rfl
 | n + 1, x :: xs => by
  rw [UC, im, mG n xs, UL];grind
theorem Iz {a b : ByteArray} (h : l8 a b = 0) : cP (mulM a b) = List.zipWith (· + ·) (cP a) (cP b) ∧ (cP a).length = (cP b).length := by
 obtain ⟨_, _, h3, _, h5⟩ := mU h;refine ⟨F4 ?_, by unfold cP; rw [Sx, Sx, h3]⟩;rw [← mM, mulM, eE, h5, mM, mM];unfold bL;rw [List.zipWith_map, List.map_zipWith];exact Tm (fun f => List.zipWith f (cP a) (cP b)) (funext fun x => funext fun y => (TX x y).symm)
theorem G0 {q : List TR} (h : ∀ e ∈ qt p q, e = 0) : mb xs (bR p q) = mb xs p * mb xs q := by
 have hm : ∀ a ∈ p, ∀ b ∈ q, l8 a.m b.m = 0 := fun a ha b hb => h _ (Uw.2 ⟨a, ha, SB.2 ⟨b, hb, rfl⟩⟩);unfold mb;rw [yU, Dyadic.mul_comm, ← HW];refine LX fun a ha => ?_;rw [Dyadic.mul_comm, ← HW];refine LX fun b hb => ?_;obtain ⟨e1, e2⟩ := Iz (hm a ha b hb);rw [e1, yK _ _ _ e2]
theorem Ce (j : Nat) (t : TR) : fD j t = ((cP t.m)[j]?).getD 0 := by
 unfold fD cP;rw [St]
 cases t.m.data.toList[j]? <;> rfl
theorem G1 (g : TR → Dyadic) (Q : Dyadic) : sm p (fun t => if n ≤ fD j t then g t * Q ^ (fD j t - n) else 0) = sm p (fun t => if n + 1 ≤ fD j t then g t * Q ^ (fD j t - (n + 1)) else 0) * Q + sm (a0 p j n) g := by
 have e1 : sm (a0 p j n) g = sm p fun t => if fD j t = n then g t else 0 := by
  unfold a0;rw [← E3 p (fun t => decide (fD j t = n)) (fun t => if fD j t = n then g t else 0) (fun t _ h => Si (by simpa using h))];exact aY fun t ht => (Sj (by simpa using (TD.1 ht).2)).symm
 rw [e1, ← jO, ← wL];refine aY fun t _ => ?_;by_cases h1 : fD j t = n
 ·rw [Sj Sd, Si Sd, Sj h1, h1, Td, UL];grind
 ·rw [Si h1];by_cases h2 : n + 1 ≤ fD j t
  ·rw [Sj Sd, Sj h2, show fD j t - n = (fD j t - (n + 1)) + 1 by omega, Dyadic.pow_succ];grind
  ·rw [Si Sd, Si h2];grind
theorem Cz {xs : List Dyadic} {q p : List TR} {sub : List TR → Int × List TR} {j : Nat} (g : TR → Dyadic) (hp : ∀ t ∈ p, fD j t ≤ 127) (hs : ∀ n, (sub (a0 p j n)).1 = 0 → mb xs (sub (a0 p j n)).2 = sm (a0 p j n) g) :
  ∀ i, i ≤ 128 → (bh q sub p j i).1 = 0 → mb xs (bh q sub p j i).2 = sm p fun t => if 128 - i ≤ fD j t then g t * mb xs q ^ (fD j t - (128 - i)) else 0
 | 0, _, _ => (nY fun t ht => Si (by have := hp t ht; omega)).symm
 | i + 1, hi, h0 => by
  have h1 : (bh q sub p j i).1 = 0 := by
   refine T1 fun c => ?_;rw [jH c (Nat.le_succ i)] at h0;exact c h0
  have ih := Cz g hp hs i Sd h1;have e1 := G1 (p := p) (j := j) (n := 127 - i) g (mb xs q);rw [show 128 - (i + 1) = 127 - i by omega, e1, show 127 - i + 1 = 128 - i by omega, ← ih];rw [iF] at h0 ⊢;unfold gN at h0 ⊢;rw [Si (fun h => h h1)] at h0 ⊢;by_cases c1 : (bh q sub p j i).2.length = 0 ∧ (a0 p j (127 - i)).length = 0
  ·rw [Sj c1, UG.1 c1.1, UG.1 c1.2];show (0 : Dyadic) = 0 * _ + 0;grind
  ·rw [Si c1] at h0 ⊢;by_cases c2 : e6 (bh q sub p j i).2 q ≠ 0
   ·rw [Sj c2] at h0; exact absurd h0 c2
   ·rw [Si c2] at h0 ⊢;by_cases c3 : (sub (a0 p j (127 - i))).1 ≠ 0
    ·rw [Sj c3] at h0; exact absurd h0 c3
    ·rw [Si c3] at h0 ⊢;by_cases c4 : fY (aF (bR (bh q sub p j i).2 q) ++ (sub (a0 p j (127 - i))).2) ≠ 0
     ·rw [Sj c4] at h0; exact absurd h0 c4
     ·rw [Si c4];show mb xs (aF _) = _;rw [iO, th, iO, G0 (jZ Sd).2.1, hs _ Sd]
theorem IV (h : rv p) (he : ∀ a ∈ p, ∀ b ∈ p, a.m = b.m) : p.length ≤ 1 := by
 match p, h, he with
 | [], _, _ => exact Sn _
 | [_], _, _ => exact So _
 | a :: b :: p, h, he =>
  have h1 := (TF.1 h).1 b Sq;rw [he a Sq b (SA _ Sq), gF] at h1
  cases h1
theorem Dq.one {v : Int} (h : Dq v j p) (hj : v ≤ j) : p.length ≤ 1 := IV h.qO fun a ha b hb => ti (by
 have e := h.pre a ha b hb;have l1 := h.size a ha;have l2 := h.size b hb;rwa [Su Sd, Su Sd] at e)
theorem pH (v : Int) (q : List TR) (qs : List (List TR)) (j : Nat) (p : List TR) : eh v (q :: qs) j p = bh q (eh v qs (j + 1)) p j 128 := rfl
theorem MC {v w : Int} (qs : List (List TR)) : ∀ (j : Nat) (p : List TR), Dq w j p → w = ((j + qs.length : Nat) : Int) → (eh v qs j p).1 = 0 → mb xs (eh v qs j p).2 = sm p fun t => t.c.d * im ((cP t.m).drop j) (qs.map (mb xs)) := by
 induction qs with
 | nil =>
  intro j p hs hw _;have h1 := hs.one (by rw [hw]; exact Int.le_refl _);show mb xs (aF _) = _;rw [iO];have hz : cP (ef v) = List.replicate v.toNat 0 := by unfold cP ef; simp
  match p, h1 with
  | [], _ =>
   show (nR 0).d * _ + 0 = 0;rw [cn];grind
  | [t], _ =>
   show t.c.d * im (cP (ef v)) xs + 0 = t.c.d * im _ [] + 0;rw [hz, mG]
   cases (cP t.m).drop j <;> rfl
 | cons q qs ih =>
  intro j p hs hw h0;have hj : (j : Int) < w := by rw [hw, SG]; omega
  have hx : ∀ t ∈ p, fD j t ≤ 127 := fun t ht => by
   obtain ⟨e, _, h2, h3⟩ := hs.get hj ht;omega
  rw [pH] at h0 ⊢;have hsub := fun n hn => ih (j + 1) (a0 p j n) (hs.with hj) (by rw [hw, SG]; omega) hn;generalize eh v qs (j + 1) = sub at hsub h0 ⊢;have h1 := fun i hi hz => Cz (xs := xs) (q := q) (sub := sub) (p := p) (j := j) (fun t => t.c.d * im ((cP t.m).drop (j + 1)) (qs.map (mb xs))) hx hsub i hi hz;obtain ⟨m, hm⟩ : ∃ m, m = 128 := ⟨_, rfl⟩;rw [← hm] at h0 ⊢;rw [h1 m Sd h0];refine aY fun t ht => ?_;rw [Sj Sd, show fD j t - (128 - m) = fD j t by omega];obtain ⟨e, h2, h3, _⟩ := hs.get hj ht;have hd : (cP t.m).drop j = fD j t :: (cP t.m).drop (j + 1) := by
   refine gE ?_;rw [h3];unfold cP;rw [St, h2]
   rfl
  rw [hd, SW, im];grind
theorem L6 {p : PX} (h : (df p ls).1 = 0) : mb xs (df p ls).2 = mb (ls.map fun g => mb xs g.ts) p.ts := by
 unfold df at h ⊢;by_cases h1 : p.e ≠ 0
 ·rw [Sj h1] at h; exact absurd h h1
 ·rw [Si h1] at h ⊢;by_cases h2 : (ls.length : Int) ≠ p.v
  ·rw [Sj h2] at h; exact absurd h Se
  ·rw [Si h2] at h ⊢;by_cases h3 : ls.length ≠ 0 ∧ fi ls ≠ 0
   ·rw [Sj h3] at h; exact absurd h h3.2
   ·rw [Si h3] at h ⊢;rw [MC (w := p.v) (ls.map PX.ts) 0 p.ts (yy (by unfold PX.e at h1; omega)) (by rw [Sx, SM]; omega) h, Ty];unfold mb;rw [CE]
    rfl
def wK : Nat → List Nat → List Nat → List Nat → Dyadic
 | m + 1, _ :: ds, a :: s, r :: rs => (if a = r then 1 else 0) * wK m ds s rs
 | 0, d :: ds, a :: s, r :: rs => ej d 1 1 a r * wK 0 ds s rs
 | _, _, _, _ => 1
theorem CT : ∀ (j : Nat) (ds s rs : List Nat), j < ds.length → lN ds s → lN ds rs → sm (List.range (ds.getD j 0 + 1)) (fun i => wK (j + 1) ds s (rs.set j i) * ej (ds.getD j 0) 1 1 i (rs.getD j 0)) = wK j ds s rs
 | _, [], _, _, h, _, _ => by cases h
 | _, _ :: _, [], _, _, h, _ => by cases h
 | _, _ :: _, _ :: _, [], _, _, h => by cases h
 | 0, d :: ds, a :: s, r :: rs, _, h1, _ => by
  show sm (List.range (d + 1)) (fun i => (if a = i then 1 else 0) * wK 0 ds s rs * ej d 1 1 i r) = ej d 1 1 a r * wK 0 ds s rs;have e : sm (List.range (d + 1)) (fun i => (if a = i then 1 else 0) * wK 0 ds s rs * ej d 1 1 i r) = sm (List.range (d + 1)) fun i => if i = a then ej d 1 1 a r * wK 0 ds s rs else 0 := aY fun i _ => by
   by_cases h : a = i
   ·rw [Sj h, Sj h.symm, h]; grind
   ·rw [Si h, Si (fun e => h e.symm)]; grind
  rw [e, pk, Sj (by have := h1.1; omega)]
 | j + 1, d :: ds, a :: s, r :: rs, hj, h1, h2 => by
  show sm (List.range (ds.getD j 0 + 1)) (fun i => (if a = r then 1 else 0) * wK (j + 1) ds s (rs.set j i) * ej (ds.getD j 0) 1 1 i (rs.getD j 0)) = (if a = r then 1 else 0) * wK j ds s rs;rw [← CT j ds s rs (by simpa using hj) h1.2 h2.2, ← gy];exact aY fun i _ => by grind
theorem GB : ∀ (ds s rs : List Nat), lN ds s → lN ds rs → wK ds.length ds s rs = if s = rs then 1 else 0
 | [], [], [], _, _ => by rw [Sj rfl]; rfl
 | [], _ :: _, _, h, _ => by cases h
 | [], [], _ :: _, _, h => by cases h
 | _ :: _, [], _, h, _ => by cases h
 | _ :: _, _ :: _, [], _, h => by cases h
 | d :: ds, a :: s, r :: rs, h1, h2 => by
  show (if a = r then 1 else 0) * wK ds.length ds s rs = _;rw [GB ds s rs h1.2 h2.2];by_cases e1 : a = r
  ·by_cases e2 : s = rs
   ·rw [Sj e1, Sj e2, Sj (by rw [e1, e2])]; grind
   ·rw [Sj e1, Si e2, Si fun e => e2 (List.cons.inj e).2]; grind
  ·rw [Si e1, Si fun e => e1 (List.cons.inj e).1]; grind
abbrev QL := List (List Nat × Dyadic)
def X0 (ds : List Nat) (L : QL) : List Dyadic := m6 (ar ds) (L.map fun q => (g6 ds q.1, q.2))
def oB (ds : List Nat) (L : QL) : Nat → List Dyadic
 | 0 => X0 ds L
 | k + 1 => dw ds (ds.length - 1 - k) (ej (ds.getD (ds.length - 1 - k) 0) 1 1) (oB ds L k)
theorem p9 (ds : List Nat) (L : QL) (k : Nat) : oB ds L (k + 1) = dw ds (ds.length - 1 - k) (ej (ds.getD (ds.length - 1 - k) 0) 1 1) (oB ds L k) := rfl
theorem zD (ds : List Nat) (L : QL) (k : Nat) : (oB ds L k).length = ar ds := by
 cases k with
 | zero => exact kG _ _
 | succ k => rw [p9, iE]
theorem G5 {ds : List Nat} {L : QL} (hL : ∀ q ∈ L, lN ds q.1) : ∀ k, k ≤ ds.length → ∀ row, lN ds row → co ds (oB ds L k) row = sm L fun q => q.2 * wK (ds.length - k) ds q.1 row
 | 0, _, row, hr => by
  have hp := m4 hr;rw [Cy hr];show ((X0 ds L)[g6 ds row]?).getD 0 = _;unfold X0;rw [mY _ hp, TM, pP];refine aY fun q hq => ?_;rw [Nat.sub_zero, GB ds q.1 row (hL q hq) hr];by_cases h : q.1 = row
  ·rw [Sj h, Sj (by rw [h])]; grind
  ·rw [Si h, Si fun e => h (by rw [← hU (hL q hq), ← hU hr]; exact Tm (cV ds) e)]; grind
 | k + 1, hk, row, hr => by
  obtain ⟨j, hj⟩ : ∃ j, j = ds.length - 1 - k := ⟨_, rfl⟩;rw [p9, ← hj, uo _ _ _ hr, show ds.length - (k + 1) = j by omega];have e1 : ∀ i, i < ds.getD j 0 + 1 → co ds (oB ds L k) (row.set j i) = sm L fun q => q.2 * wK (j + 1) ds q.1 (row.set j i) := fun i hi => by
   rw [G5 hL k Sd (row.set j i) (BX hr Sd), show ds.length - k = j + 1 by omega]
  rw [aY fun i hi => show co ds (oB ds L k) (row.set j i) * ej (ds.getD j 0) 1 1 i (row.getD j 0) = sm L fun q => q.2 * (wK (j + 1) ds q.1 (row.set j i) * ej (ds.getD j 0) 1 1 i (row.getD j 0)) by
   rw [e1 i (S1.1 hi), ← jO];exact aY fun q _ => by grind, lI]
  refine aY fun q hq => ?_;rw [← CT j ds q.1 row Sd (hL q hq) hr, ← gy]
def rh (ns : List Nat) (l : List TR) : List Dyadic := (List.range (ar ns.reverse)).map fun p => wS (fun m => wK 0 ns.reverse (cP m).reverse (cV ns.reverse p)) l
theorem o5 (ns : List Nat) (l : List TR) : (rh ns l).length = ar ns := by unfold rh; rw [Sx, UU, dn]
def qZ (l : List TR) : QL := l.map fun t => ((cP t.m).reverse, t.c.d)
theorem xW {ns : List Nat} (hl : ∀ t ∈ l, lN ns.reverse (cP t.m).reverse) : oB ns.reverse (qZ l) ns.length = rh ns l := by
 have hL : ∀ q ∈ qZ l, lN ns.reverse q.1 := fun q hq => by
  obtain ⟨t, ht, rfl⟩ := SB.1 hq;exact hl t ht
 refine MR (ds := ns.reverse) (zD _ _ _) (by rw [o5, dn]) fun row hr => ?_;have hp := m4 hr;rw [G5 hL ns.length (by rw [SZ]; exact So _) row hr, Cy hr, show ns.reverse.length - ns.length = 0 by rw [SZ, Td]];unfold rh qZ;rw [St, S8 hp, pP];show _ = wS _ l;rw [CE, hU hr]
theorem ya : ∀ {ds rs : List Nat} (a : Nat), lN ds rs → rs.getD a 0 ≤ ds.getD a 0
 | [], [], _, _ => by simp
 | [], _ :: _, _, h => by cases h
 | _ :: _, [], _, h => by cases h
 | _ :: _, _ :: _, 0, h => h.1
 | _ :: ds, _ :: rs, a + 1, h => ya (ds := ds) (rs := rs) a h.2
theorem Ff {a d : Nat} {X : List Dyadic} (hx : ∀ x ∈ X, Sz k x) (hd : ds.getD a 0 = d) (hd7 : d ≤ 127) : ∀ x ∈ dw ds a (ej d 1 1) X, Sz (k + 520) x := fun x h => by
 obtain ⟨p, _, rfl⟩ := SB.1 h;have hr : (cV ds p).getD a 0 ≤ d := by rw [← hd]; exact ya a (rz ds p)
 have h2 := HF (l := List.range (ds.getD a 0 + 1)) (f := fun i => co ds X ((cV ds p).set a i) * ej d 1 1 i ((cV ds p).getD a 0)) (k := k + (130 + 2 * (1 * d))) fun i _ => by
  refine Sz.mul ?_ (Co Sz.one Sz.one hd7 hr);unfold co;split
  ·cases h : X[g6 ds ((cV ds p).set a i)]? with
   | none => exact Sz.zero k
   | some y => exact hx y (Sp h)
  ·exact Sz.zero k
 rw [UU, hd] at h2;rw [hd];exact h2.mono Sd
theorem FQ {B : Nat} (h : ∀ d ∈ ds, d ≤ B) (a : Nat) : ds.getD a 0 ≤ B := by
 rw [TC]
 cases ha : ds[a]? with
 | none => exact Sn _
 | some d => exact h d (Sp ha)
theorem Bt {ds : List Nat} {L : QL} {k : Nat} (h : ∀ x ∈ X0 ds L, Sz k x) (hd : ∀ d ∈ ds, d ≤ 127) : ∀ i, ∀ x ∈ oB ds L i, Sz (k + 520 * i) x
 | 0 => h
 | i + 1 => fun x hx => (Ff (Bt h hd i) rfl (FQ hd _) x hx).mono Sd
theorem K2 (h : iA k l) : ∀ x ∈ X0 ds (qZ l), Sz (k + l.length) x := fun x hx => by
 have := Jm (N := ar ds) (L := (qZ l).map fun (q : List Nat × Dyadic) => (g6 ds q.1, q.2)) (k := k) (fun a ha => by
  obtain ⟨q, hq, rfl⟩ := SB.1 ha;obtain ⟨t, ht, rfl⟩ := SB.1 hq;exact (h t ht).2) x hx
 unfold qZ at this;rwa [Sx, Sx] at this
structure m8 (p : PX) (b : List SR) (ns : List Nat) : Prop where
 e : p.e = 0
 box : kM b = 0
 pos : 0 < b.length
 l5 : b.length ≤ 12
 v : p.v = b.length
 nl : ns.length = b.length
 low : ∀ d ∈ ns, d ≤ 127
 most : ar ns ≤ 4096
 own : ∀ (i d : Nat), ns[i]? = some d → ∀ t ∈ p.ts, fD i t ≤ d
theorem wD {p : PX} {D : List Int} (h : m7 p b D = 0) : D = bL (D.map Int.toNat) ∧ m8 p b (D.map Int.toNat) := by
 unfold m7 at h;by_cases h0 : p.e ≠ 0
 ·rw [Sj h0] at h; exact absurd h h0
 ·rw [Si h0] at h;by_cases h1 : kM b ≠ 0
  ·rw [Sj h1] at h; exact absurd h h1
  ·rw [Si h1] at h;by_cases h2 : (b.length : Int) ≠ p.v ∨ (D.length : Int) ≠ p.v
   ·rw [Sj h2] at h; exact absurd h Se
   ·rw [Si h2] at h;by_cases h3 : tm (qi p.v p.ts) D = true
    ·rw [Sj h3] at h; exact absurd h Se
    ·rw [Si h3] at h;by_cases h4 : gi 1 D = 0
     ·rw [Sj h4] at h; exact absurd h Se
     ·have hpe : p.e = 0 := Uy.1 h0;obtain ⟨f1, _, _, _⟩ := cm hpe;have f2 := gu.1 f1;obtain ⟨o1, o2, o3⟩ := jl hpe;have hbv : (b.length : Int) = p.v := Uy.1 fun c => h2 (.inl c);have hdv : (D.length : Int) = p.v := Uy.1 fun c => h2 (.inr c);have hD : ∀ (i : Nat) (y : Int), D[i]? = some y → ∃ d : Nat, (cZ p.v p.ts)[i]? = some d ∧ (d : Int) ≤ y ∧ y ≤ 127 := fun i y hy => by
       have hi := (SC.1 hy).1;obtain ⟨d, hd⟩ := av (l := cZ p.v p.ts) (k := i) Sd;have hg : (qi p.v p.ts)[i]? = some (d : Int) := by rw [o1]; exact lf hd
       have := TA.1 ((Bool.not_eq_true _).mp h3) _ (Sp (Dw hg hy));rw [SJ] at this;exact ⟨d, hd, by show (d : Int) ≤ y; omega, by show y ≤ 127; omega⟩
      have hnat : D = bL (D.map Int.toNat) := by
       unfold bL;rw [Ty];refine (UY _).symm.trans (Um fun y hy => ?_);obtain ⟨i, hi⟩ := TV.1 hy;obtain ⟨d, _, h5, _⟩ := hD i y hi;show y = ((y.toNat : Nat) : Int);omega
      have hlow : ∀ d ∈ D.map Int.toNat, d ≤ 127 := fun d hd => by
       obtain ⟨y, hy, rfl⟩ := SB.1 hd;obtain ⟨i, hi⟩ := TV.1 hy;obtain ⟨_, _, _, h6⟩ := hD i y hi;omega
      refine ⟨hnat, hpe, Uy.1 h1, ?_, Sd, hbv.symm, by rw [Sx]; omega, hlow, ?_, fun i d hd t ht => ?_⟩
      ·rcases T8 b.length with c | c
       ·have h9 := Uy.1 h1;unfold kM at h9;rw [UG.1 c] at h9;exact absurd h9 Se
       ·exact c
      ·have h8 := iY (D.map Int.toNat) 1 (So _) Se hlow;rw [← hnat, T6] at h8;rw [show gi 1 D = gi ((1 : Nat) : Int) D from rfl, h8] at h4;exact Uy.1 fun c => h4 (Si c)
      ·rw [St] at hd;obtain ⟨y, hy, hyd⟩ := TH.1 hd;obtain ⟨d2, h7, h8, h9⟩ := hD i y hy;have := (o3 i d2 h7).2.1 t ht;omega
theorem m8.j4 {p : PX} {ns : List Nat} (h : m8 p b ns) : (cZ p.v p.ts).length = b.length := by
 rw [(jl h.e).2.1, h.v];exact T7 _
theorem I9 (v i : Nat) (c : NR) : kW (fun x => if x = i then 1 else 0) [⟨kv v i, c⟩] := fun t ht j => by
 rw [SN.1 ht]
 cases he : (⟨kv v i, c⟩ : TR).m.data.toList[j]? with
 | none => unfold fD; rw [he]; exact Sn _
 | some e =>
  rw [l0 he];show e.toNat ≤ if j = i then 1 else 0
  have e1 : ((List.replicate v (0 : UInt8)).set i 1)[j]? = some e := by simpa [kv] using he
  rw [Tz] at e1;by_cases hj : i = j
  ·rw [Sj hj] at e1;rw [Sj hj.symm];split at e1
   ·rw [← Tc e1]; decide
   ·cases e1
  ·rw [Si hj] at e1;rw [(List.mem_replicate.1 (Sp e1)).2];exact Sn _
theorem p6 (v i : Nat) (s : SR) : kW (fun x => if x = i then 1 else 0) (gI v i s) := by
 refine kW.aF (kW.append ((tD v _).aF.mono fun x => Sn _) (kW.aF fun t ht j => ?_));obtain ⟨z, hz, rfl⟩ := SB.1 ht;rw [show fD j (nx (s.H - s.L) z) = fD j z from rfl];exact (I9 v i _).aF z hz j
theorem pV {p : PX} {ns : List Nat} (h : m8 p b ns) (ho : iA k p.ts) (hb : ∀ s ∈ b, s.fin k) (hk : k ≤ 1000) (hgr : fU (k + k + 16394) (cZ p.v p.ts) (k + 1) ≤ 440000) (h0 : (df p (bj b)).1 = 0) :
  jf b.length 440000 (df p (bj b)).2 ∧ ∀ t ∈ (df p (bj b)).2, lN ns.reverse (cP t.m).reverse := by
 have hl := h.l5;have hpos := h.pos;have hln := iK b;obtain ⟨_, o2, o3⟩ := jl h.e;have hol := h.j4;have hhv : ff (bj b) = b.length := by
  obtain ⟨s, hs⟩ := av (l := b) (k := 0) Sd;rw [kD (fw hs)]
 unfold df at h0 ⊢;rw [Si (fun c => c h.e), Si (by rw [hln, h.v]; exact fun c => c rfl)] at h0 ⊢;by_cases hlk : (bj b).length ≠ 0 ∧ fi (bj b) ≠ 0
 ·rw [Sj hlk] at h0; exact absurd h0 hlk.2
 ·rw [Si hlk, hhv] at h0 ⊢;have hq : ∀ q ∈ (bj b).map PX.ts, jf b.length (k + k + 10) q ∧ q.length ≤ 2 := fun q hq => by
   obtain ⟨g, hg, rfl⟩ := SB.1 hq;obtain ⟨i, s, hs, rfl⟩ := Ag hg;exact kV hl (hb s (Sp hs)) Sd
  have h1 := DC (fJ hl) (show k + k + 10 + 4096 * 2 + 8192 ≤ k + k + 16394 by omega) ((bj b).map PX.ts) 0 p.ts (cZ p.v p.ts) k hq ho (by rw [Sx, hln, hol]) (fun i d hd => ⟨(o3 i d hd).1, fun t ht => by rw [SM]; exact (o3 i d hd).2.1 t ht⟩) Sd h0;refine ⟨h1.mono hgr, ?_⟩;have h2 := wI ((bj b).map PX.ts) 0 p.ts (fun i => (ns[i]?).getD 0) (fun i q hi => ?_) (fun t ht i hi => ?_) h0
  ·intro t ht;have hm := (cm h1.e).2.2.1 t ht;unfold fK at hm;rw [SE, SJ] at hm;have hsz : (cP t.m).length = b.length := by rw [rL]; omega
   rw [lh];refine ⟨by rw [SZ, SZ, hsz, h.nl], fun i d r hd hr => ?_⟩;have hi := (SC.1 hd).1;rw [SZ] at hi;rw [TI hi] at hd;rw [TI (by rw [hsz, ← h.nl]; exact hi), hsz, ← h.nl] at hr;have h3 := h2 t ht (ns.length - 1 - i);dsimp only at h3;rw [Sx, hln, Sj ⟨Sn _, by have := h.nl; omega⟩, hd, Ce, hr] at h3;exact h3
  ·rw [St] at hi;obtain ⟨g, hg, rfl⟩ := TH.1 hi;obtain ⟨s, hs⟩ := av (l := b) (k := i) (by have := (SC.1 hg).1; rwa [hln] at this);rw [fw hs] at hg;rw [← Tc hg, SM];exact p6 _ i s
  ·rw [Sx, hln] at hi;rw [SM];obtain ⟨d, hd⟩ := av (l := ns) (k := i) (by rw [h.nl]; exact hi);rw [hd];exact h.own i d hd t ht
variable {N c : Nat}
theorem tk : ∀ (N : Nat) (l : List Nat), l.Nodup → (∀ x ∈ l, x < N) → l.length ≤ N
 | 0, l, _, h => by
  cases l with
  | nil => exact So _
  | cons x l => exact absurd (h x Sq) Sd
 | N + 1, l, hd, h => by
  by_cases hm : N ∈ l
  ·have h1 := tk N (l.erase N) (hd.erase N) fun x hx => by
    have := (hd.mem_erase_iff).1 hx;have := h x this.2;omega
   rw [List.length_erase_of_mem hm] at h1;omega
  ·have := tk N l hd fun x hx => by
    have := h x hx;have : x ≠ N := fun e => hm (e ▸ hx);omega
   omega
theorem Ku (hr : rv l) (h : ∀ t ∈ l, lN ds (cP t.m)) : l.length ≤ ar ds := by
 have h1 := tk (ar ds) (l.map fun t => g6 ds (cP t.m)) (by
  unfold List.Nodup;rw [List.pairwise_map];refine List.Pairwise.imp_of_mem (fun {a b} ha hb hl e => ?_) hr;have e2 : cP a.m = cP b.m := by rw [← hU (h a ha), e, hU (h b hb)]
  rw [zF e2, gF] at hl
  cases hl) (fun x hx => by
  obtain ⟨t, ht, rfl⟩ := SB.1 hx;exact m4 (h t ht))
 rwa [Sx] at h1
theorem Ni {v : Nat} {B : Nat → Nat} (hs : ∀ t ∈ l, t.m.size = v) (h : kW B l) : ∀ t ∈ l, lN ((List.range v).map B) (cP t.m) := fun t ht => by
 rw [lh];refine ⟨by rw [rL, hs t ht, Sx, UU], fun i d r hd hr => ?_⟩;have hi := (SC.1 hd).1;rw [Sx, UU] at hi;rw [St, S8 hi] at hd;have := h t ht i;rw [Ce, hr] at this;rw [← Tc hd];exact this
theorem oS {v : Nat} {B : Nat → Nat} (h : fh (v : Int) ts = 0) (hb : kW B ts) : ts.length ≤ ar ((List.range v).map B) := by
 obtain ⟨_, _, h3, h4⟩ := cm h;refine Ku h4.qO (Ni (fun t ht => ?_) hb);have := h3 t ht;unfold fK at this;rw [SE, SJ] at this;omega
theorem vj {v : Int} {q p : List TR} {sub : List TR → Int × List TR} {j D K T B c N : Nat} (hv : iJ v = true) (hq : jf v K q) (hT : q.length ≤ T) (hD : ∀ t ∈ p, fD j t ≤ D) (hb : ∀ n, (sub (a0 p j n)).1 = 0 → jf v B (sub (a0 p j n)).2 ∧ (sub (a0 p j n)).2.length ≤ N)
  (hN : ∀ i, i ≤ 128 → (bh q sub p j i).1 = 0 → (bh q sub p j i).2.length ≤ N) (hc : K + N * T + (N * T + N) ≤ c) (hS : B + D * c + N ≤ 500000) (hc2 : c ≤ 100000) (hN4 : N ≤ 4096) :
  ∀ i, i ≤ 128 → (bh q sub p j i).1 = 0 → jf v (B + (i + D - 128) * c + N) (bh q sub p j i).2
 | 0, _, _ => jf.nil hv
 | i + 1, hi, h0 => by
  by_cases h1 : i + 1 + D ≤ 127
  ·rw [gG hD _ h1];exact jf.nil hv
  ·have h2 : (bh q sub p j i).1 = 0 := by
    refine T1 fun c => ?_;rw [jH c (Nat.le_succ i)] at h0;exact c h0
   have hle : (i + 1 + D - 128) * c ≤ D * c := S9 _ Sd;have ih := vj hv hq hT hD hb hN hc hS hc2 hN4 i Sd h2;have hNi := hN i Sd h2;have hst : i + D ≤ 127 → bh q sub p j i = (0, []) := gG hD i;have hmul : ¬ i + D ≤ 127 → (i + 1 + D - 128) * c = (i + D - 128) * c + c := fun h => by rw [show i + 1 + D - 128 = (i + D - 128) + 1 by omega, Tl]
   have hle0 : (i + D - 128) * c ≤ (i + 1 + D - 128) * c := S9 _ Sd;rw [iF] at h0 ⊢;unfold gN at h0 ⊢;rw [Si (fun h => h h2)] at h0 ⊢;by_cases c1 : (bh q sub p j i).2.length = 0 ∧ (a0 p j (127 - i)).length = 0
   ·rw [Sj c1];exact ih.mono Sd
   ·rw [Si c1] at h0 ⊢;by_cases c2 : e6 (bh q sub p j i).2 q ≠ 0
    ·rw [Sj c2] at h0; exact absurd h0 c2
    ·rw [Si c2] at h0 ⊢;by_cases c3 : (sub (a0 p j (127 - i))).1 ≠ 0
     ·rw [Sj c3] at h0; exact absurd h0 c3
     ·rw [Si c3] at h0 ⊢;by_cases c4 : fY (aF (bR (bh q sub p j i).2 q) ++ (sub (a0 p j (127 - i))).2) ≠ 0
      ·rw [Sj c4] at h0; exact absurd h0 c4
      ·rw [Si c4];obtain ⟨hs1, hs2⟩ := hb (127 - i) Sd;obtain ⟨f1, f2, f3, f4⟩ := cm ih.e;obtain ⟨g1, g2, g3, g4⟩ := cm hs1.e;by_cases hlow : i + D ≤ 127
       ·rw [hst hlow];have hl : (aF (bR [] q) ++ (sub (a0 p j (127 - i))).2).length ≤ N := hs2;refine (lF (k := B) (n := N) hv (fun t ht => g3 t ht) (fun t ht => hs1.ok t ht) (fun t ht => hs1.sz t ht) hl Sd Sd).mono Sd
       ·have ht := (jZ (p := (bh q sub p j i).2) (q := q) Sd);have hpl : (bR (bh q sub p j i).2 q).length ≤ N * T := by rw [jE]; exact Tw hNi hT
        have hm := hmul hlow;rw [hm] at hle ⊢;generalize (i + D - 128) * c = y at *;generalize D * c = z at *;have hpo := oO ih.ok hq.ok Sd;have hg1 := kZ (k := B + y + N + K) (j := B + y + N + K + N * T) hpo Sd Sd;have hg2 := cI (bR (bh q sub p j i).2 q);have hmm : ∀ {P : TR → Prop}, (∀ t ∈ aF (bR (bh q sub p j i).2 q), P t) → (∀ t ∈ (sub (a0 p j (127 - i))).2, P t) → ∀ t ∈ aF (bR (bh q sub p j i).2 q) ++ (sub (a0 p j (127 - i))).2, P t := fun a b t ht => (S2.1 ht).elim (a t) (b t);refine ⟨eV hv (rg Sd) (hmm (lE (mz f3 ht.2.1)) g3), kZ (k := B + y + N + K + N * T) (hmm hg1 (hs1.ok.mono Sd)) (by rw [Sr]; omega) Sd, nM (hmm (yN ih.ok hq.ok hq.sz Sd Sd).2 hs1.sz)⟩
theorem GR {v K T : Nat} (hv : v ≤ 12) (D : Nat → Nat) (hN : ar ((List.range v).map D) ≤ N) (hc : K + N * T + (N * T + N) ≤ c) (hc2 : c ≤ 100000) (hN4 : N ≤ 4096) : ∀ (qs : List (List TR)) (j : Nat) (p : List TR) (ds : List Nat) (k : Nat), (∀ (i : Nat) (q : List TR), qs[i]? = some q → jf v K q ∧ q.length ≤ T ∧ kW (fun x => if x = j + i then 1 else 0) q) → iA k p → ds.length = qs.length → (∀ (i d : Nat), ds[i]? = some d → D (j + i) = d) → (∀ t ∈ p, ∀ i, i < qs.length → fD (j + i) t ≤ D (j + i)) → k + 1 + (ds.sum + ds.length) * c ≤ 400000 →
  (eh v qs j p).1 = 0 → jf v (k + 1 + (ds.sum + ds.length) * c) (eh v qs j p).2 ∧ (eh v qs j p).2.length ≤ N := by
 intro qs
 induction qs with
 | nil =>
  intro j p ds k _ hok hds _ _ hB _;obtain rfl : ds = [] := UG.1 hds;have h1 : jf v (k + 1) (eh v [] j p).2 := by
   refine qj (fJ hv) ?_ Sd;exact NT
  refine ⟨h1.mono (Nat.le_add_right _ _), SK (oS h1.e (B := fun _ => 0) (tD v _).aF) (SK ?_ hN)⟩;have e : ∀ (f : Nat → Nat) (l : List Nat), ar (l.map fun _ => 0) ≤ ar (l.map f) := fun f l => by
   induction l with
   | nil => exact So _
   | cons x l ih => exact Tw (Nat.succ_le_succ (Sn _)) ih
  exact e D _
 | cons q qs ih =>
  intro j p ds k hq hok hds hdD hp hB h0
  cases ds with
  | nil => cases hds
  | cons d ds =>
   have hdj : D j = d := hdD 0 d rfl;obtain ⟨hq1, hq2, hq3⟩ := hq 0 q rfl;rw [TB] at hq3;rw [List.sum_cons, SG] at hB ⊢;have hBe : (d + ds.sum + (ds.length + 1)) * c = (ds.sum + ds.length) * c + d * c + c := by rw [show d + ds.sum + (ds.length + 1) = (ds.sum + ds.length) + d + 1 by omega, Up, Up, T6]
   rw [hBe] at hB ⊢;have hNc : N ≤ c := Sd;have hpw : ∀ n, ∀ t ∈ a0 p j n, ∀ i, i < qs.length → fD (j + 1 + i) t ≤ D (j + 1 + i) := fun n t ht i hi => by
    exact Pd
   have hsub : ∀ n, (eh v qs (j + 1) (a0 p j n)).1 = 0 → jf v (k + 1 + (ds.sum + ds.length) * c) (eh v qs (j + 1) (a0 p j n)).2 ∧ (eh v qs (j + 1) (a0 p j n)).2.length ≤ N := fun n hn => by
    refine ih (j + 1) (a0 p j n) ds k (fun i r hr => ?_) (fun t ht => hok t (jd t ht)) (by simpa using hds) (fun i e he => ?_) (hpw n) Sd hn
    ·have := hq (i + 1) r (by simpa using hr);rwa [show j + 1 + i = j + (i + 1) by omega]
    ·have := hdD (i + 1) e (by simpa using he);rwa [show j + 1 + i = j + (i + 1) by omega]
   have hsbn : ∀ n, (eh v qs (j + 1) (a0 p j n)).1 = 0 → kW (fun x => if j + 1 ≤ x ∧ x < j + 1 + qs.length then D x else 0) (eh v qs (j + 1) (a0 p j n)).2 := fun n hn => wI qs (j + 1) (a0 p j n) D (fun i r hr => by
    have := (hq (i + 1) r (by simpa using hr)).2.2;rwa [show j + 1 + i = j + (i + 1) by omega]) (hpw n) hn
   have hDp : ∀ t ∈ p, fD j t ≤ d := fun t ht => by rw [← hdj]; exact hp t ht 0 (by rw [SG]; omega)
   rw [pH] at h0 ⊢;generalize eh v qs (j + 1) = sub at hsub hsbn h0 ⊢;have hlim0 : ∀ i, i ≤ 128 → (bh q sub p j i).1 = 0 → fh (v : Int) (bh q sub p j i).2 = 0 := fun i hi hz => by
    clear h0
    induction i with
    | zero => exact (jf.nil (k := 0) (fJ hv)).e
    | succ i ihi =>
     have h2 : (bh q sub p j i).1 = 0 := by
      refine T1 fun c => ?_;rw [jH c (Nat.le_succ i)] at hz;exact c hz
     have e0 := ihi Sd h2;rw [iF] at hz ⊢;unfold gN at hz ⊢;rw [Si (fun h => h h2)] at hz ⊢;by_cases c1 : (bh q sub p j i).2.length = 0 ∧ (a0 p j (127 - i)).length = 0
     ·rw [Sj c1]; exact e0
     ·rw [Si c1] at hz ⊢;by_cases c2 : e6 (bh q sub p j i).2 q ≠ 0
      ·rw [Sj c2] at hz; exact absurd hz c2
      ·rw [Si c2] at hz ⊢;by_cases c3 : (sub (a0 p j (127 - i))).1 ≠ 0
       ·rw [Sj c3] at hz; exact absurd hz c3
       ·rw [Si c3] at hz ⊢;by_cases c4 : fY (aF (bR (bh q sub p j i).2 q) ++ (sub (a0 p j (127 - i))).2) ≠ 0
        ·rw [Sj c4] at hz; exact absurd hz c4
        ·rw [Si c4];refine eV (fJ hv) (rg Sd) fun t ht => (S2.1 ht).elim (lE (mz (cm e0).2.2.1 (jZ Sd).2.1) t) ((cm (hsub _ Sd).1.e).2.2.1 t)
   have hbn := oD hq3 hDp (E := fun x => if j + 1 ≤ x ∧ x < j + 1 + qs.length then D x else 0) (by rw [Si Sd]) hsbn;have hNN : ∀ i, i ≤ 128 → (bh q sub p j i).1 = 0 → (bh q sub p j i).2.length ≤ N := fun i hi hz => by
    refine SK (oS (hlim0 i hi hz) ((hbn i hi hz).mono (C := D) fun x => ?_)) hN;by_cases hx : x = j
    ·rw [Sj hx, hx, hdj]; omega
    ·rw [Si hx];split
     ·exact So _
     ·exact Sn _
   have e : ∀ m, m = 128 → (bh q sub p j m).1 = 0 → jf v (k + 1 + ((ds.sum + ds.length) * c + d * c + c)) (bh q sub p j m).2 ∧ (bh q sub p j m).2.length ≤ N := fun m hm hz => by
    have h3 := vj (fJ hv) hq1 hq2 hDp hsub hNN hc Sd hc2 hN4 m Sd hz;rw [show m + d - 128 = d by omega] at h3;exact ⟨h3.mono Sd, hNN m Sd hz⟩
   exact e 128 rfl h0
section
variable {ro : Mode} {P : Program} {N : Nat} {Q : Kq} {ρ : Rf} {w : World}
theorem Fm {a c : Code} (mods : List Nat) (s0 : Nat) (J : Value → World → Prop) (hc : WC ro P N a (dR (fun ρ2 w2 => J (ρ2 s0) w2 ∧ jo mods ρ2 ρ) Q) ρ w) (hn : ∀ ρ' v0 w', J v0 w' → WC ro P N c Q (cx (mask mods ρ' ρ) s0 v0) w') : WC ro P N (.seq a c) Q ρ w :=
 ah (hc.mono fun e ρ2 w2 hq => by
  cases e with
  | normal =>
   have := hn ρ2 (ρ2 s0) w2 hq.1;rwa [jC hq.2, ja] at this
  | _ => exact hq)
end
theorem xu (L : Option Addr) (n c d : Nat) (xs : List Dyadic) (k : Nat) (w : World) (hT : dD w) (hS : Sl w L n 3 (aw NR.cells (xs.map nR))) (hn : n = d + 1) (hd : d ≤ 127) (hx : ∀ x ∈ xs, Sz k x) (hk : k ≤ 500000) :
  Calls Tryz.prog 94 #[.slice L n c] w fun r w' => ∃ A c', r = .returned (.slice A n c') ∧ Hp w [.row A n c' 65 3 (aw NR.cells ((cY d (ej d 1 1) xs).map nR))] w' := by
 have hh := Hp.start w;have hln : xs.length = n := by have := hS.bz NR.len Se; simpa using this
 have ha : Sz 1 1 := Sz.one;obtain ⟨ad, rfl, hr⟩ := hS.at_ Sd;refine aj (N := 52) (l := [.slice (some ad) n c]) Tryz.func94 rfl rfl (by simp) ?_;refine sr (aL (aa (sr (mL (aK ?_)))));refine eu (aI (aa (sr (mI ?_))));refine a9 ?_;refine Dz ?_;intro b14 w14 hh;refine pj ?_;rw [pM, hn, ← sT d 1 1 xs, ← hn] at hh;refine aN [5, 6, 7, 8, 17, 18, 19, 20, 21, 22, 23, 24, 25, 26, 27, 28, 29, 30, 31, 32, 33, 34, 35, 36, 37, 38, 39, 40, 41, 42, 43, 44, 45, 46, 47, 48, 49, 50] 17
  (fun v w' => ∃ i : Nat, i ≤ n ∧ v = .int .i64 i ∧ Hp w [.row (some ⟨b14, 0, none⟩) n n 65 3 (aw NR.cells ((hH d 1 1 xs i 0).map nR))] w')
  (fun v _ => n - (intOf v).toNat) ?_ ?_
 ·exact ⟨0, Sn _, rfl, hh⟩
 ·clear hh;rintro ρ' v w' ⟨i, hi, rfl, hh⟩;by_cases hlt : i < n
  ·obtain ⟨x, hxi⟩ := av (l := xs) (k := i) Sd;have hxn : (xs.map nR)[i]? = some (nR x) := by rw [St, hxi]; rfl
   have hat : dV xs i = x := by unfold dV; rw [hxi]; rfl
   have zx := hx x (Sp hxi);have hch := fun w1 hT1 => nj (d - i) w1 hT1 Sd;refine sr ?_;refine fj ?_;refine bX ?_;refine ct (vs := [_, _, _]) aP.out rfl ((hr.ext hh.below).recAt NR.len hxn) rfl Se ?_;refine bJ hh ?_;intro b6 w6 hh;refine aI ?_;refine bK hh 0 [_,_,_] ?_;intro ws hh;replace hh : Hp _ (.blk _ _ [_, _, _] _ :: _) _ := hh;refine aa (sr (mI (mI ?_)));refine eu ?_;have e24 : (n : Int) - 1 - (i : Int) = ((d - i : Nat) : Int) := Sd;rw [← e24] at hch;refine aC (hch _ (hT.hp hh)) ak.out rfl Se ?_;rintro e_ w25 ⟨A25, c25, rfl, hown_, hb_⟩;refine ⟨_, rfl, ?_⟩;replace hh := hh.aO (x := .row _ _ _ _ _ _) hb_ hown_;refine aK (mI (aa (ao ?_)));replace hh := hh.sub (Sk _ (Sk _ (Sk _ SD)));refine aN [7, 8, 27, 28, 29, 30, 31, 32, 33, 34, 35, 36, 37, 38, 39, 40, 41, 42, 43, 44, 45, 46, 47, 48, 49] 27
    (fun v w' => ∃ j : Nat, j ≤ d - i + 1 ∧ v = .int .i64 j ∧ Hp w [.row A25 (d - i + 1) c25 65 3 (aw NR.cells (lV (d - i))), .blk b6 65 [.bool (nR x).neg, .string (nR x).bf, .int .i64 (nR x).e] (0, 0), .row (some ⟨b14, 0, none⟩) n n 65 3 (aw NR.cells ((hH d 1 1 xs i j).map nR))] w')
    (fun v _ => d - i + 1 - (intOf v).toNat) ?_ ?_
   ·exact ⟨0, Sn _, rfl, hh⟩
   ·clear hh;rintro ρ2 v w2 ⟨j, hj, rfl, hh⟩;by_cases hjn : j < d - i + 1
    ·have hbn : (lV (d - i))[j]? = some (nR (nD (bin (d - i) j))) := lv Sd;have zb := pJ (d - i) j Sd;obtain ⟨o, ho⟩ := av (l := hH d 1 1 xs i j) (k := i + j) (by rw [jP]; omega);have hon : ((hH d 1 1 xs i j).map nR)[i + j]? = some (nR o) := by rw [St, ho]; rfl
     have zo := rk (j := j) hx ha ha hd (show i ≤ d + 1 by omega) o (Sp ho);have zy := zx.mul zb;have hm2 := fun A cc w1 hT1 hS1 => iD A 2 cc [nR x, nR (nD (bin (d - i) j))] w1 hT1 hS1 (by simpa using ⟨zx.ok Sd, zb.ok Sd⟩) 600000 (by simpa [cn] using ⟨zx.mono Sd, zb.mono Sd⟩) Sd Sd;rw [show iX ([nR x, nR (nD (bin (d - i) j))].map NR.d) = x * nD (bin (d - i) j) by simp only [SW, Tx, cn]; show 1 * x * _ = _; rw [Uz]] at hm2;have hset := xV (show i + j ≤ d by omega) ho;have hval : dV xs i * ej d 1 1 i (i + j) = x * nD (bin (d - i) j) := by
      unfold ej;rw [hat, Si Sd, show i + j - i = j by omega, jJ, jJ];generalize nD (bin (d - i) j) = u;grind
     rw [hval] at hset;generalize x * nD (bin (d - i) j) = y at *;have hsum := fun A cc w1 hT1 hS1 => iG A 2 cc [nR o, nR y] w1 hT1 hS1 (by simpa using ⟨zo.ok Sd, zy.ok Sd⟩) 2000000 (by simpa [cn] using ⟨zo.mono Sd, zy.mono Sd⟩) Sd;rw [show m9 ([nR o, nR y].map NR.d) = o + y by simp only [SW, Tx, cn, kx]] at hsum;have hll : ((hH d 1 1 xs i j).map nR).length = n := by rw [Sx, jP]; omega
     generalize hH d 1 1 xs i j = S at *;have hrl := dZ NR.len (S.map nR);obtain ⟨gw, rfl⟩ := hh.cD (i := 0) rfl Sd;refine sr ?_;refine fj ?_;refine qN ?_;refine ct (vs := [_, _, _]) aP.out rfl (hh.eL (f := NR.cells) (x := nR (nD (bin (d - i) j))) (l := lV (d - i)) (i := 0) rfl NR.len Se hbn) rfl Se ?_;refine bJ hh ?_;intro b8 w8 hh;refine aI ?_;refine bK hh 0 [_,_,_] ?_;intro ws hh;replace hh : Hp _ (.blk _ _ [_, _, _] _ :: _) _ := hh;refine aa ?_;refine aU 16 [[(4, none)], [(5, none)], [(7, none)], [(33, some 1), (34, some 2)], [(4, none)], [(5, none)], [(7, none)], [(37, some 5), (38, some 6)], [(36, some 4), (39, some 7)], [(40, some 8)], [(6, none)], [(8, none)], [(42, some 10), (43, some 11)], [(44, some 12)], [(41, some 9), (45, some 13)], [(46, some 14)]] [(15, 47), (14, 46), (13, 45), (12, 44), (11, 43), (10, 42), (9, 41), (8, 40), (7, 39), (6, 38), (5, 37), (4, 36), (3, 35), (2, 34), (1, 33), (0, 32)] hh mixed Sf ?_;refine iw ?_;refine eH ?_;refine eH ?_;refine uh ?_;refine iw ?_;refine eH ?_;refine eH ?_;refine uh ?_;refine Df ((i + j)) ?_;refine xx [_,_,_] (fun _ hj => hj.hp.eL (f := NR.cells) (x := nR o) (l := S.map nR) (i := 3) rfl NR.len Se hon) ?_
     refine eX 2 [_,_,_] ?_;refine eX 0 [_,_,_] ?_;refine z7 [_,_,_,_,_,_] ?_;refine a8 (i := 13) (Is (.agg #[.bool (nR y).neg, .string (nR y).bf, .int .i64 (nR y).e])) Is.ext ?_ ?_
     ·intro ρ1 w1 hj hR;obtain ⟨A44, c44, h44, s44⟩ := hR.1;exact bA rfl (aZ ak.out (aA h44 a7)) (hm2 A44 c44 _ (hT.hp hj.hp) s44) (fun _ _ hq => ⟨_, hq.1, hq.2, rfl⟩)
     refine z7 [_,_,_,_,_,_] ?_;refine a8 (i := 15) (Is (.agg #[.bool (nR (o + y)).neg, .string (nR (o + y)).bf, .int .i64 (nR (o + y)).e])) Is.ext ?_ ?_
     ·intro ρ1 w1 hj hR;obtain ⟨A46, c46, h46, s46⟩ := hR.1;exact bA rfl (aZ ak.out (aA h46 a7)) (hsum A46 c46 _ (hT.hp hj.hp) s46) (fun _ _ hq => ⟨_, hq.1, hq.2, rfl⟩)
     refine aR ?_;intro f W hJ hV;have hb_9 := hJ.bl;obtain ⟨v47, v46, v45, v44, v43, v42, v41, v40, v39, v38, v37, v36, v35, v34, v33, v32, _⟩ := hV;obtain ⟨A44, c44, e44, f44⟩ : Rows _ _ _ (f 12) W := v44;obtain ⟨A46, c46, e46, f46⟩ : Rows _ _ _ (f 14) W := v46;replace hh := hJ.hp;refine aX (bp (ae v47 (ae e46 (ae v45 (ae e44 (ae v43 (ae v42 (ae v41 (ae v40 (ae v39 (ae v38 (ae v37 (ae v36 (ae v35 (ae v34 (ae v33 (ae v32 aW))))))))))))))))) ?_;dsimp only [ck];clear e44 e46 hJ;refine cG (k := (i + j)) bq.out aP.size rfl rfl Sd Sd Se ?_;refine Hm ?_;intro ws hh;simp only [Sy, Tb] at hh;rw [show bM (aw NR.cells (S.map nR)) ((i + j) * 3) [.bool (nR (o + y)).neg, .string (nR (o + y)).bf, .int .i64 (nR (o + y)).e] = aw NR.cells ((S.map nR).set (i + j) (nR (o + y))) from dO NR.len Sd, ← Ua, hset] at hh;refine fG ?_;refine a9 (mI (az (ai ?_)));replace hh := hh.sub (Sm _ (Sk _ (Sk _ (Sk _ SD))));exact LR
    ·obtain rfl : j = d - i + 1 := Sd;rw [vk Sd] at hh;refine sr ?_;refine te ?_;refine a9 (mI (az (ai ?_)));replace hh := hh.sub (Sm _ (Sm _ (Sk _ SD)));exact xD
  ·obtain rfl : i = n := Sd;rw [show hH d 1 1 xs i 0 = cY d (ej d 1 1) xs by rw [hn, mH]] at hh;refine sr ?_;refine H7 ?_;refine da ?_;exact ⟨_, _, rfl, hh⟩
theorem wi (A : Option Addr) (n c a d : Nat) (ns : List Nat) (w : World) (hS : Sl w A n 1 (bm (bL ns))) (hcap : n ≤ c) (hn : n ≤ 1000) (hd : ns[a]? = some d) (hlow : ∀ x ∈ ns, x ≤ 127) (hmax : ar ns ≤ 4096) :
  Calls Tryz.prog 92 #[.slice A n c, .int .i64 a] w fun r w' => r = .returned (.agg #[.int .i64 ((d : Int) + 1), .int .i64 (ar (ns.drop (a + 1)) : Nat)]) ∧ Below w.heap.size w w' := by
 have hh := Hp.start w;have hln : ns.length = n := by have := hS.1; simpa [bm, bL] using this
 have ha := (SC.1 hd).1;have hd127 := hlow d (Sp hd);have hgd := cO (lf hd);have hbk := hS.back (l := a + 1) (c := c) Sd hcap;have hds : (bm (bL ns)).drop ((a + 1) * 1) = bm (bL (ns.drop (a + 1))) := by
  rw [SI];unfold bm bL;rw [← UN, ← UN]
 rw [hds] at hbk;have hcd : gi 1 (bL (ns.drop (a + 1))) = (ar (ns.drop (a + 1)) : Nat) := by
  have h1 := iY (ns.drop (a + 1)) 1 Se Se (fun x hx => hlow x (VA hx));have h2 : ar (ns.drop (a + 1)) ≤ ar ns := by
   have h3 : ar ns = ar (ns.take (a + 1)) * ar (ns.drop (a + 1)) := by rw [← dP, To]
   rw [h3];exact UZ _ (dm _)
  rw [T6, Sj Sd] at h1;exact h1
 have hcnt := fun w1 hS1 => eA (if c = a + 1 then A else A.map (·.add ((a + 1) * 1))) (n - (a + 1)) (c - (a + 1)) (bL (ns.drop (a + 1))) w1 hS1 Sd;rw [hcd] at hcnt;obtain ⟨ad, rfl, srd⟩ := hS.at_ Sd;refine aj (N := 16) (l := [.slice (some ad) n c, .int .i64 a]) Tryz.func92 rfl rfl (by simp) ?_;refine sr ?_;refine bJ hh ?_;intro b4 w4 hh;refine aa (ah ?_);refine aU 10 [[(0, none)], [(1, none)], [(5, some 0), (6, some 1)], [(7, some 2)], [(8, some 3)], [(0, none)], [(1, none)], [(11, some 6)], [(10, some 5), (12, some 7)], [(13, some 8)]] [(9, 14), (8, 13), (7, 12), (6, 11), (5, 10), (4, 9), (3, 8), (2, 7), (1, 6), (0, 5)] hh mixed Sf ?_;refine iw ?_;refine eH ?_;refine qe (a) ?_;refine wJ (fun _ hj => (srd.ext hj.hp.below).DB hgd) ?_;refine uh ?_;refine iw ?_;refine eH ?_;refine uh ?_;refine bB (i := 8) (fun ρ1 w1 hj hR => ik (l := (a + 1)) bq.out aP.size (show ρ1 10 = Value.slice _ _ _ from hR.1) (show ρ1 12 = Value.int _ _ from hR.2.1) Sd Sd Sd) ?_;refine dC (fun _ hj => hcnt _ (hbk.ext hj.hp.below)) ?_;refine aR ?_;intro f W hJ hV;have hb_1 := hJ.bl;obtain ⟨v14, v13, v12, v11, v10, v9, v8, v7, v6, v5, _⟩ := hV;replace hh := hJ.hp;refine LV ?_;dsimp only [ck];clear hJ
 refine gg [_,_] ?_;exact K7
theorem Fk (A : List Nat) (d f i q : Nat) : bO A d f i q = bO A d f 0 q + i * ar A := by
 unfold bO;rw [Te, Te, Nat.mul_zero, SS i];omega
theorem yF (g : FuncId) [ak Tryz.prog g] (A B : List Nat) (d L : Nat) (φ : List Dyadic → List Dyadic) (C : Option Addr) (n c k : Nat) (X : List Dyadic) (w : World) (hT : dD w) (hS : Sl w C n 3 (aw NR.cells (X.map nR))) (hn : n = ar (A ++ d :: B)) (hmax : n ≤ 4096) (hL : L ≤ d + 1) (hd : d ≤ 127) (hx : ∀ x ∈ X, Sz k x)
  (hg : ∀ (Y : List Dyadic) (D : Option Addr) (dc : Nat) (w1 : World), dD w1 → (∀ y ∈ Y, Sz k y) → Sl w1 D (d + 1) 3 (aw NR.cells (Y.map nR)) → Calls Tryz.prog g #[.slice D (d + 1) dc] w1 fun r w' => ∃ E ec, r = .returned (.slice E L ec) ∧ Hp w1 [.row E L ec 65 3 (aw NR.cells ((φ Y).map nR))] w')
  (hφ : ∀ Y : List Dyadic, Y.length = d + 1 → (φ Y).length = L) :
  Calls Tryz.prog 93 #[.agg #[.int .i64 ((d : Int) + 1), .int .i64 (ar A : Nat)], .slice C n c, .func (.func g) #[] #[]] w fun r w' => ∃ E ec, r = .returned (.slice E n ec) ∧ Hp w [.row E n ec 65 3 (aw NR.cells ((jx A d L φ X n 0).map nR))] w' := by
 have hh := Hp.start w;have hXl : X.length = n := by have := hS.bz NR.len Se; simpa using this
 have hap := dm A;have hap2 : ar A ≤ n := by
  rw [hn, dP];exact Vx _ (dm _)
 have hcl := fun w1 hb => jw C n c (X.map nR) w1 (hS.ext hb) Sd;refine aj (N := 67) (l := [.agg #[.int .i64 ((d : Int) + 1), .int .i64 (ar A : Nat)], .slice C n c, .func (.func g) #[] #[]]) Tryz.func93 rfl rfl (by simp) ?_;refine sr ?_;refine cq hh [_,_] ?_;intro b3 w3 hh;refine aL (aa (sr (mL ?_)));refine aC (hcl _ hh.below) ak.out rfl Se ?_;rintro e_ w14 ⟨A14, c14, rfl, hown_, hb_⟩;refine ⟨_, rfl, ?_⟩;replace hh := hh.aO (x := .row _ _ _ _ _ _) hb_ hown_;rw [show X.map nR = (jx A d L φ X 0 0).map nR by rw [ES]] at hh;clear hcl;refine pj ?_;refine aN [8, 9, 10, 11, 12, 17, 18, 19, 20, 21, 22, 23, 24, 25, 26, 27, 28, 29, 30, 31, 32, 33, 34, 35, 36, 37, 38, 39, 40, 41, 42, 43, 44, 45, 46, 47, 48, 49, 50, 51, 52, 53, 54, 55, 56, 57, 58, 59, 60, 61, 62, 63, 64, 65] 17
  (fun v w' => ∃ F : Nat, F ≤ n ∧ v = .int .i64 F ∧ Hp w [.row A14 n c14 65 3 (aw NR.cells ((jx A d L φ X F 0).map nR)), .blk b3 119 [.int .i64 ((d : Int) + 1), .int .i64 (ar A : Nat)] (0, 0)] w')
  (fun v _ => n - (intOf v).toNat) ?_ ?_
 ·exact ⟨0, Sn _, rfl, hh⟩
 ·clear hh;rintro ρ' v w' ⟨F, hF, rfl, hh⟩;by_cases hlt : F < n
  ·have hcast : ((F : Int) / ((ar A : Nat) : Int)) % ((d : Int) + 1) = ((F / ar A % (d + 1) : Nat) : Int) := by norm_cast
   have hq0 : (0 : Int) ≤ (F : Int) / ((ar A : Nat) : Int) := Int.ediv_nonneg Sd Sd;by_cases h0 : F / ar A % (d + 1) = 0
   ·obtain ⟨u0, hfF⟩ : ∃ u0, u0 = F % ar A := ⟨_, rfl⟩;obtain ⟨q, hqF⟩ : ∃ q, q = F / ar A / (d + 1) := ⟨_, rfl⟩;have hf : u0 < ar A := by rw [hfF]; exact SO _ hap
    have hFe : F = bO A d u0 0 q := by rw [hfF, hqF, ← h0, rm]
    have hq : q < ar B := by
     rw [hqF, T2, TO (Nat.mul_pos hap Sd)];rw [hn, dP, ar] at hlt
     calc F < ar A * ((d + 1) * ar B) := hlt
      _ = ar B * (ar A * (d + 1)) := by rw [← Ti, SS]
    have hpl : ∀ i, i ≤ d → bO A d u0 i q < n := fun i hi => by rw [hn]; exact l4 hf hi hq
    have hpi : ∀ i, bO A d u0 i q = F + i * ar A := fun i => by rw [hFe]; exact Fk A d u0 i q
    have hxl : (bZ A d X u0 q).length = d + 1 := by simp [bZ]
    have hxz : ∀ y ∈ bZ A d X u0 q, Sz k y := fun y hy => by
     obtain ⟨i, hi, rfl⟩ := SB.1 hy;exact nV hx _
    obtain ⟨ad, hCA, hr⟩ := hS.at_ Sd;rw [hCA] at *;refine sr ?_;refine a6 (aa (ah (cT (aq (ai (ah (ao (sr (mI (aI (aa (ah (ah ?_)))))))))))));refine L3 ?_;refine eH ?_;refine ek ?_;refine gH 1 ?_;refine KX ?_;refine ek ?_;refine gH 1 ?_;refine aR ?_;intro f W hJ hV;have hb_5 := hJ.bl;obtain ⟨v25, v24, v23, v22, v21, v20, _⟩ := hV;replace hh := hJ.hp;refine aX (bp (ae v25 (ae v24 (ae v23 (ae v22 (ae v21 (ae v20 aW))))))) ?_;dsimp only [ck];clear hJ;refine qY ?_;refine cX (aa (cF (aq (ai (sr (aL (aa (ah (sr (bF ?_))))))))));refine bE hh 1 ?_;refine mI (aa (ao ?_));replace hh := hh.dL 65 3;refine bP [9, 10, 30, 31, 32, 33, 34, 35, 36, 37, 38, 39, 40, 41, 42, 43, 44, 45] 9 30
     (fun a v w' => ∃ (i : Nat) (A' : Option Addr) (c' : Nat), i ≤ d + 1 ∧ v = .int .i64 i ∧ a = .slice A' i c' ∧ Hp w [.row A' i c' 65 3 (aw NR.cells (((bZ A d X u0 q).take i).map nR)), .row A14 n c14 65 3 (aw NR.cells ((jx A d L φ X F 0).map nR)), .blk b3 119 [.int .i64 ((d : Int) + 1), .int .i64 (ar A : Nat)] (0, 0)] w')
     (fun _ v _ => d + 1 - (intOf v).toNat) ?_ ?_
    ·exact ⟨0, none, 0, Sn _, rfl, rfl, hh⟩
    ·clear hh;rintro ρ2 a_ v w2 ⟨i, A', c', hi, rfl, rfl, hh⟩;by_cases hil : i < d + 1
     ·obtain ⟨y, hy⟩ := av (l := bZ A d X u0 q) (k := i) Sd;have hyx : (X.map nR)[bO A d u0 i q]? = some (nR y) := by
       have h1 := hpl i Sd;unfold bZ at hy;rw [St, S8 hil] at hy;have h2 : (X[bO A d u0 i q]?).getD 0 = y := Tc hy;rw [St, kE (show bO A d u0 i q < X.length by omega)];show some (nR (dV X _)) = _;unfold dV;rw [h2]
      have hpn := hpl i Sd;have hpq := hpi i;obtain ⟨m, hm⟩ : ∃ m, m = i * ar A := ⟨_, rfl⟩;have hmi : (i : Int) * ((ar A : Nat) : Int) = (m : Int) := by rw [hm]; exact (Tv _ _).symm
      rw [← hm] at hpq;refine sr ?_;refine a6 (aa (ah (cT (aq (ai (ah (ao (sr (mI (aI (aa (al (mL (mL (mI (mI (bF ?_)))))))))))))))));refine bE hh 2 ?_;refine mulC ?_;refine a9 ?_;refine db (k := (bO A d u0 i q)) bq.out aP.size rfl rfl Sd Sd Se ?_;refine ct (vs := [_, _, _]) aP.out rfl ((hr.ext hh.below).recAt NR.len hyx) rfl Se ?_;refine qu ?_;intro b43 w43 hh;refine qp ?_;intro A44 c44 w44 hh;simp only [Sy, Tb] at hh;replace hh := hh.sub (Th _ _);refine na ?_;refine a9 (mI (az (ai ?_)));have e1 : aw NR.cells (((bZ A d X u0 q).take i).map nR) ++ [.bool (nR y).neg, .string (nR y).bf, .int .i64 (nR y).e] = aw NR.cells (((bZ A d X u0 q).take (i + 1)).map nR) := by rw [ay hy, Tt, cA, SW, Tx, sy]; rfl
      rw [e1] at hh;refine ⟨⟨i + 1, A44, c44, Sd, rfl, rfl, hh⟩, by show d + 1 - (i + 1) < d + 1 - i; omega, ?_⟩;exact eB
     ·obtain rfl : i = d + 1 := Sd;rw [Su Sd] at hh;refine sr ?_;refine mq ?_;refine ix ?_;refine mL ?_;refine fR (hg (bZ A d X u0 q) A' c' _ (hT.hp hh) hxz (hh.aD (i := 0) rfl)) ak.out rfl rfl Se ?_;rintro e_ w48 ⟨E, ec, rfl, h4⟩;refine ⟨_, rfl, ?_⟩;replace hh := hh.join h4;clear h4;simp only [Sv, Ss] at hh;replace hh := hh.sub (Sk _ (Sm _ (Sk _ (Sk _ SD))));have hφl := hφ (bZ A d X u0 q) hxl;refine aK (mI (aa (ao ?_)));refine aN [11, 12, 50, 51, 52, 53, 54, 55, 56, 57, 58, 59, 60, 61, 62, 63, 64] 50
       (fun v w' => ∃ j : Nat, j ≤ L ∧ v = .int .i64 j ∧ Hp w [.row E L ec 65 3 (aw NR.cells ((φ (bZ A d X u0 q)).map nR)), .row A14 n c14 65 3 (aw NR.cells ((jx A d L φ X F j).map nR)), .blk b3 119 [.int .i64 ((d : Int) + 1), .int .i64 (ar A : Nat)] (0, 0)] w')
       (fun v _ => L - (intOf v).toNat) ?_ ?_
      ·exact ⟨0, Sn _, rfl, hh⟩
      ·clear hh;rintro ρ3 v w3 ⟨j, hj, rfl, hh⟩;by_cases hjl : j < L
       ·obtain ⟨y, hy⟩ := av (l := φ (bZ A d X u0 q)) (k := j) Sd;have hyn : ((φ (bZ A d X u0 q)).map nR)[j]? = some (nR y) := by rw [St, hy]; rfl
        have hpn := hpl j Sd;have hpq := hpi j;have hset := GX (φ := φ) (X := X) (q := q) hf hjl (show j ≤ d by omega);rw [← hFe, show dV (φ (bZ A d X u0 q)) j = y by unfold dV; rw [hy]; rfl] at hset;obtain ⟨m, hm⟩ : ∃ m, m = j * ar A := ⟨_, rfl⟩;have hmi : (j : Int) * ((ar A : Nat) : Int) = (m : Int) := by rw [hm]; exact (Tv _ _).symm
        rw [← hm] at hpq;have hll : ((jx A d L φ X F j).map nR).length = n := by rw [Sx, g7]; exact hXl
        generalize jx A d L φ X F j = S at *;generalize bO A d u0 j q = P at *;have hrl := dZ NR.len (S.map nR);obtain ⟨gr, rfl⟩ := hh.cD (i := 0) rfl Sd;obtain ⟨go, rfl⟩ := hh.cD (i := 1) rfl Sd;refine sr ?_;refine fj ?_;refine qN ?_;refine ct (vs := [_, _, _]) aP.out rfl (hh.eL (f := NR.cells) (x := nR y) (l := (φ (bZ A d X u0 q)).map nR) (i := 0) rfl NR.len Se hyn) rfl Se ?_;refine bJ hh ?_;intro b12 w12 hh;refine aI ?_;refine bK hh 0 [_,_,_] ?_;intro ws hh;replace hh : Hp _ (.blk _ _ [_, _, _] _ :: _) _ := hh;refine aa (al (mL (mI (mI (bF ?_)))));refine bE hh 3 ?_;refine mulC ?_;refine a9 ?_;refine cu hh 0 [_,_,_] ?_;refine cG (k := P) bq.out aP.size rfl rfl Sd Sd Se ?_;refine bY hh (i := 2) (vs := [_, _, _]) rfl rfl (iq rfl) rfl aP.out rfl Sd rfl ?_;intro ws hh;simp only [Sy, Tb] at hh;rw [show bM (aw NR.cells (S.map nR)) (P * 3) [.bool (nR y).neg, .string (nR y).bf, .int .i64 (nR y).e] = aw NR.cells ((S.map nR).set P (nR y)) from dO NR.len Sd, ← Ua, hset] at hh;refine fG ?_;refine a9 (mI (az (ai ?_)))
        replace hh := hh.sub (Sm _ (Sk _ (Sk _ (Sk _ SD))));refine ⟨⟨j + 1, Sd, rfl, hh⟩, by show L - (j + 1) < L - j; omega, ?_⟩;exact eB
       ·rw [E8 (show L ≤ j by omega)] at hh;refine sr ?_;refine te ?_;refine a9 (mI (az (ai ?_)));replace hh := hh.sub (Sm _ (Sk _ (Sk _ SD)));refine ⟨⟨F + 1, Sd, rfl, hh⟩, by show n - (F + 1) < n - F; omega, ?_⟩;exact eB
   ·rw [EV h0] at hh;refine sr ?_;refine a6 (aa (ah (cT (aq (ai (ah (ao (sr (mI (aI (aa (ah (ah ?_)))))))))))));refine L3 ?_;refine eH ?_;refine ek ?_;refine gH 1 ?_;refine KX ?_;refine ek ?_;refine gH 1 ?_;refine aR ?_;intro f W hJ hV;have hb_5 := hJ.bl;obtain ⟨v25, v24, v23, v22, v21, v20, _⟩ := hV;replace hh := hJ.hp;refine aX (bp (ae v25 (ae v24 (ae v23 (ae v22 (ae v21 (ae v20 aW))))))) ?_;dsimp only [ck];clear hJ;refine qY ?_;refine cX (aa (cT (aV (aE (bo (ai (al ?_)))))));refine a9 (mI (az (ai ?_)));refine ⟨⟨F + 1, Sd, rfl, hh⟩, by show n - (F + 1) < n - F; omega, ?_⟩;exact eB
  ·obtain rfl : F = n := Sd;exact PG
def o9 (p : PX) (ds : List Int) : List Int := if ds.length = 0 then qi p.v p.ts else ds
def NX (p : PX) (ds : List Int) : List Nat := (o9 p ds).map Int.toNat
def pe (p : PX) (b : List SR) (ds : List Int) : Int := if m7 p b (o9 p ds) ≠ 0 then m7 p b (o9 p ds) else (df p (bj b)).1
theorem KD {ns : List Nat} {i d : Nat} (h : ns[i]? = some d) : ns.reverse = (ns.drop (i + 1)).reverse ++ d :: (ns.take i).reverse := by
 have e : ns = ns.take i ++ d :: ns.drop (i + 1) := by rw [← gE h, To]
 conv => lhs; rw [e]
 rw [Vk, Ue, S5]
 rfl
theorem MK (ds : List Nat) : X0 ds (qZ []) = List.replicate (ar ds) 0 := sV _
theorem I2 {i : Nat} {t : TR} (hl : ∀ t ∈ l, lN ds (cP t.m).reverse) (hr : rv l) (ht : l[i]? = some t) : (X0 ds (qZ (l.take i))).set (g6 ds (cP t.m).reverse) t.c.d = X0 ds (qZ (l.take (i + 1))) := by
 have hok := hl t (Sp ht);have hp := m4 hok;have h0 : (X0 ds (qZ (l.take i)))[g6 ds (cP t.m).reverse]? = some 0 := by
  unfold X0;rw [mY _ hp];congr 1;unfold qZ;rw [Ty, pP];refine nY fun s hs => Si fun e => ?_;replace e : g6 ds (cP s.m).reverse = g6 ds (cP t.m).reverse := e;have e2 : (cP s.m).reverse = (cP t.m).reverse := by rw [← hU (hl s (Uc hs)), e, hU hok]
  have e3 : s.m = t.m := zF (List.reverse_inj.1 e2);obtain ⟨j, hj⟩ := TV.1 hs;have hji : j < i := by have := (SC.1 hj).1; rw [SP] at this; omega
  rw [List.getElem?_take_of_lt hji] at hj;have h1 := (SC.1 hj);have h2 := (SC.1 ht);have h3 := List.pairwise_iff_getElem.1 hr j i h1.1 h2.1 hji;rw [h1.2, h2.2, e3, gF] at h3
  cases h3
 have h1 := Fw (v := t.c.d) (show (m6 (ar ds) ((qZ (l.take i)).map fun (q : List Nat × Dyadic) => (g6 ds q.1, q.2)))[g6 ds (cP t.m).reverse]? = some 0 from h0);rw [Ur] at h1;show (m6 (ar ds) ((qZ (l.take i)).map fun (q : List Nat × Dyadic) => (g6 ds q.1, q.2))).set _ _ = _;rw [h1, ay ht];unfold X0 qZ;rw [Tt, Tt]
 rfl
set_option maxRecDepth 10000 in
theorem uH (p : PX) (L : Option Addr) (n c : Nat) (b : List SR) (M : Option Addr) (m mc : Nat) (ds : List Int) (k : Nat) (w : World) (hT : dD w) (hp : p.at_ w) (lp : p.kq k) (hB : Sl w L n 6 (aw SR.cells b)) (hb : ∀ s ∈ b, s.fin k) (hn : n ≤ 1000000) (hD : Sl w M m 1 (bm ds)) (hm : m ≤ 1000000) (hmc : m ≤ mc) (hk : k ≤ 1000)
  (hgr : m7 p b (o9 p ds) = 0 → fU (k + k + 16394) (cZ p.v p.ts) (k + 1) ≤ 440000) :
  Calls Tryz.prog 20 #[.agg #[.int .i64 p.v, .slice p.A p.n p.c], .slice L n c, .slice M m mc] w fun r w' => ∃ g : FX, Out (pe p b ds) (NX p ds) (rh (NX p ds) (df p (bj b)).2) g ∧ r = .returned (.tuple #[.agg #[.slice g.A g.n g.a, .slice g.B g.m g.b], .int .i64 (pe p b ds)]) ∧ Hp w [g.jv, g.jn] w' := by
 have hh := Hp.start w;have hbl : b.length = n := hB.bz SR.len Se;have hdl : ds.length = m := by have := hD.1; rw [cL] at this; omega
 have hok : ∀ s ∈ b, s.ok := fun s hs => ⟨(hb s hs).1.ok, (hb s hs).2.ok⟩;have hDd : o9 p ds = if m = 0 then qi p.v p.ts else ds := by unfold o9; rw [hdl]
 have hoN : NX p ds = (o9 p ds).map Int.toNat := rfl;have hoE : pe p b ds = if m7 p b (o9 p ds) ≠ 0 then m7 p b (o9 p ds) else (df p (bj b)).1 := rfl
 rw [hoN, hoE];clear hoN hoE;generalize o9 p ds = D at *;refine aj (N := 94) (l := [.agg #[.int .i64 p.v, .slice p.A p.n p.c], .slice L n c, .slice M m mc]) Tryz.func20 rfl rfl (by simp) ?_;refine sr ?_;refine cq hh [_,_] ?_;intro b3 w3 hh;refine bJ hh ?_;intro b6 w6 hh;refine aI (aa ?_);refine Fm [2, 18, 19, 20, 21, 22] 2
  (fun v w' => ∃ (M2 : Option Addr) (m2 mc2 : Nat) (R : List HE), v = .slice M2 m2 mc2 ∧ m2 ≤ mc2 ∧ m2 ≤ 1000000 ∧ D.length = m2 ∧ (∀ (H : List HE) (w1 : World), Hp w (H ++ R) w1 → Sl w1 M2 m2 1 (bm D)) ∧ Hp w (.blk b6 39 [.slice none 0 0, .slice none 0 0] (0, 0) :: .blk b3 24 [.int .i64 p.v, .slice p.A p.n p.c] (0, 0) :: R) w') ?_ ?_
 ·by_cases hm0 : m = 0
  ·subst hm0;rw [Sj rfl] at hDd;have hdg := fun w1 hT1 hb => mi p k w1 hT1 (hp.ext hb) lp;rw [← hDd] at hdg;have hl4 : D.length ≤ 1000000 := by
    rw [hDd];exact OV
   refine sr (mL (aK ?_));refine cH (aa (cT (al ?_)));refine cu hh 1 [_,_] ?_;refine aC (hdg _ (hT.hp hh) hh.below) ak.out rfl Se ?_;rintro e_ w22 ⟨G, gc, rfl, h4⟩;refine ⟨_, rfl, ?_⟩;have hgc : D.length ≤ gc := h4.fH (i := 0) rfl;replace hh := hh.join h4;clear h4;simp only [Sv, Ss] at hh;refine aL (aa ?_);replace hh := hh.perm (Tr (l₁ := [_, _]));simp only [Sv, Ss] at hh;replace hh := hh.perm (Tr (l₁ := [_, _]));simp only [Sv, Ss] at hh;refine ⟨⟨G, D.length, gc, _, rfl, hgc, hl4, rfl, fun H w1 h1 => mV (h1.own (.row G D.length gc 3 1 (bm D)) (TG _ Sq)), hh⟩, ?_⟩;exact E6
  ·rw [Si hm0] at hDd;refine sr (mL (aK ?_));refine cH (aa (cF (aq (ai ?_))));refine ⟨⟨M, m, mc, [], rfl, hmc, hm, by rw [hDd]; exact hdl, fun H w1 h1 => by rw [hDd]; exact hD.ext h1.below, hh⟩, ?_⟩;exact E6
 ·skip;clear hh hDd hdl hD hm hmc;rintro ρ' v w' ⟨M2, m2, mc2, R, rfl, hmc2, hm2, hDl, hrd, hh⟩;have hfi := fun w1 hT1 hb1 hd => sg p L n c b M2 m2 mc2 D k w1 hT1 (hp.ext hb1) lp (hB.ext hb1) hok hn hd hm2;by_cases hE : m7 p b D ≠ 0
  ·rw [Sj hE];generalize m7 p b D = E at *;refine ah (sr ?_);refine cu hh 1 [_,_] (mL (mL ?_));refine br hh (hfi _ (hT.hp hh) hh.below (hrd [_, _] _ hh)) rfl ?_;intro w26 hh;refine aI (aa (sr (mI ?_)));refine cX (aa (cT (sr ?_)));refine gg [_,_] (mI ?_);refine bK hh 0 [_,_] ?_;intro ws hh;replace hh : Hp _ (.blk _ _ [_, _] _ :: _) _ := hh;refine aI (aa (au (aG ?_)));refine yJ ?_;exact ⟨FX.nil, Out.err hE, rfl, (hh.sub (TN _)).BA⟩
  ·rw [Si hE];have hE0 : m7 p b D = 0 := Sd;obtain ⟨hnat, hF⟩ := wD hE0;rw [hE0] at hfi;have hpe := hF.e;have hn0 := hF.pos;have hn12 := hF.l5;have hnl := hF.nl;have hlow := hF.low;have hmost := hF.most;have hgr2 := hgr hE0;obtain ⟨_, o2, o3⟩ := jl hpe;have hwi := fun w1 hT1 hb1 => xw p L n c b k (cZ p.v p.ts) w1 hT1 (hp.ext hb1) lp (hB.ext hb1) hb (by rw [hF.v, hbl]) Sd Sd hk (by rw [hF.j4]; exact hbl) (fun i d hd => ⟨(o3 i d hd).1, (o3 i d hd).2.1⟩) hgr2;have hsp := pV hF lp.ok hb hk hgr2;clear hgr hgr2 o2 o3 hfi;have hfi := fun w1 hT1 hb1 hd => sg p L n c b M2 m2 mc2 D k w1 hT1 (hp.ext hb1) lp (hB.ext hb1) hok hn hd hm2;rw [hE0] at hfi;clear hE hE0;have hcnt : gi 1 D = ((ar (D.map Int.toNat) : Nat) : Int) := by
    have h8 := iY (D.map Int.toNat) 1 (So _) Se hlow;rw [← hnat, T6, Sj hmost] at h8;exact h8
   have hco := fun w1 hd => eA M2 m2 mc2 D w1 hd hm2;rw [hcnt] at hco;have hcl := fun w1 hd => k4 M2 m2 mc2 D w1 hd hm2;have hm2n : m2 = n := by rw [← hDl, ← hbl, ← hnl, Sx]
   generalize hns : D.map Int.toNat = ns at *;generalize (df p (bj b)).1 = E at *;generalize (df p (bj b)).2 = S at *;have hN0 := dm ns;refine ah (sr ?_);refine cu hh 1 [_,_] (mL (mL ?_));refine br hh (hfi _ (hT.hp hh) hh.below (hrd [_, _] _ hh)) rfl ?_;intro w26 hh;refine aI (aa (sr (mI ?_)));refine vq ?_;refine cu hh 1 [_,_] (mL ?_);refine aC (hwi _ (hT.hp hh) hh.below) ak.out rfl Se ?_;rintro e_ w34 ⟨q, oq, rfl, h4⟩;refine ⟨_, rfl, ?_⟩;replace hh := hh.join h4;clear h4;simp only [Sv, Ss] at hh;replace hh := show Hp w (.row q.A q.n q.c 96 4 (aw TR.cells q.ts) :: _) _ from hh;by_cases hE2 : E ≠ 0
   ·refine mT ?_;refine cE ?_;refine cE ?_;refine bJ hh ?_;intro b9 w9 hh;refine bK hh 0 [_,_] ?_;intro ws hh;replace hh : Hp _ (.blk _ _ [_, _] _ :: _) _ := hh;refine aI (aa (ah (sr (mI ?_))));refine cX (aa (cT (sr ?_)));refine gg [_,_] (mI ?_);refine bK hh 2 [_,_] ?_;intro ws hh;replace hh : Hp _ (_ :: _ :: .blk _ _ [_, _] _ :: _) _ := hh;refine aI (aa (au (aG ?_)));refine sj ?_;exact ⟨FX.nil, Out.err hE2, rfl, (hh.sub (TN _)).BA⟩
   ·have hE0 : E = 0 := Sd;subst hE0;obtain ⟨hso, hsr⟩ := hsp rfl;have et : q.ts = S := oq.t0;rw [et] at hh;clear oq et;generalize q.v = qv at *;generalize q.A = qA at *;generalize q.n = qn at *;generalize q.c = qc at *;have hSl : S.length = qn := (hh.aD (i := 0) rfl).bz TR.len Se;have hSn := hso.len;obtain ⟨_, _, hSm, hSc⟩ := cm hso.e;refine mT ?_;refine cE ?_;refine cE ?_;refine bJ hh ?_;intro b9 w9 hh;refine bK hh 0 [_,_] ?_;intro ws hh;replace hh : Hp _ (.blk _ _ [_, _] _ :: _) _ := hh;refine aI (aa (ah (sr (mI ?_))));refine cX (aa (cF (aq (ai (sr (mL ?_))))));refine aC (hcl _ (hrd [_, _, _, _] _ hh)) ak.out rfl Se ?_;rintro e_ w42 ⟨A42, c42, rfl, hown_, hb_⟩;refine ⟨_, rfl, ?_⟩;replace hh := hh.aO (x := .row _ _ _ _ _ _) hb_ hown_;refine mL ?_;refine br hh (hco _ (hrd [_, _, _, _, _] _ hh)) rfl ?_;intro w44 hh;refine gD (n := (ar ns)) hh rfl rfl Sd Sd bq.out aP.out rfl Sd Sd Se ?_;intro b45 w45 hh;refine gg [_,_] ?_;refine bJ hh ?_;intro b11 w11 hh;refine bK hh 0 [_,_] ?_;intro ws hh;replace hh : Hp _ (.blk _ _ [_, _] _ :: _) _ := hh;refine aa (ah (sr (bF ?_)));refine bE hh 3 ?_;refine aK (mI (aa (ao ?_)));rw [pM, ← dn ns, ← MK ns.reverse, dn] at hh
    refine aN [13, 14, 15, 16, 50, 51, 52, 53, 54, 55, 56, 57, 58, 59, 60, 61, 62, 63, 64, 65, 66, 67, 68, 69, 70, 71, 72, 73, 74, 75, 76, 77, 78, 79] 50
     (fun v w' => ∃ i : Nat, i ≤ qn ∧ v = .int .i64 i ∧ Hp w (.blk b11 39 [.slice A42 m2 c42, .slice (some ⟨b45, 0, none⟩) (ar ns) (ar ns)] (0, 0) :: .row (some ⟨b45, 0, none⟩) (ar ns) (ar ns) 65 3 (aw NR.cells ((X0 ns.reverse (qZ (S.take i))).map nR)) :: .row A42 m2 c42 3 1 (bm D) :: .blk b9 24 [.int .i64 qv, .slice qA qn qc] (0, 0) :: .row qA qn qc 96 4 (aw TR.cells S) :: .blk b6 39 [.slice none 0 0, .slice none 0 0] (0, 0) :: .blk b3 24 [.int .i64 p.v, .slice p.A p.n p.c] (0, 0) :: R) w')
     (fun v _ => qn - (intOf v).toNat) ?_ ?_
    ·exact ⟨0, Sn _, rfl, hh⟩
    ·clear hh;rintro ρ2 v w2 ⟨i, hi, rfl, hh⟩;by_cases hlt : i < qn
     ·obtain ⟨x, hx⟩ := av (l := S) (k := i) Sd;have hxm := Sp hx;have hxo := hsr x hxm;have hx2 := hSm x hxm;unfold fK at hx2;rw [SE, SJ] at hx2;have hxs : x.m.size = n := Sd;have hxz := hso.sz x hxm;have hxc : x.c = nR x.c.d := hSc.nf x hxm;have hex : jh x.m.data.toList = bL (cP x.m) := by rw [kB hx2.1, mM]
      have hesl : (cP x.m).length = n := by rw [rL]; exact hxs
      have hel : (jh x.m.data.toList).length = n := by rw [hex, ig]; exact hesl
      have hset := I2 hsr hSc.qO hx;have hX0l : ((X0 ns.reverse (qZ (S.take i))).map nR).length = ar ns := by rw [Sx]; unfold X0; rw [kG, dn]
      have hcell : aw TR.cells S = aw TR.cells S := rfl;have hokat : ∀ (j d r : Nat), ns[j]? = some d → (cP x.m)[j]? = some r → r ≤ d := fun j d r hd hr => by
       have hj := (SC.1 hd).1;refine ((lh _ _).1 hxo).2 (n - 1 - j) d r ?_ ?_
       ·rw [TI Sd, show ns.length - 1 - (n - 1 - j) = j by omega]; exact hd
       ·rw [TI Sd, show (cP x.m).length - 1 - (n - 1 - j) = j by omega]; exact hr
      obtain ⟨gq, rfl⟩ := hh.cD (i := 4) rfl Sd;refine sr ?_;refine dq ?_;refine gj ?_;refine ct (vs := [_, _, _, _]) aP.out rfl (hh.eL (f := TR.cells) (x := x) (l := S) (i := 4) rfl TR.len Se hx) rfl Se ?_;refine bJ hh ?_;intro b13 w13 hh;refine bK hh 0 [_,_,_,_] ?_;intro ws hh;replace hh : Hp _ (.blk _ _ [_, _, _, _] _ :: _) _ := hh;refine aa (sr (aI (aa (ah (sr (bF ?_))))));refine bE hh 0 ?_;refine aC (iS x.m _ hxz) ak.out rfl Se ?_;rintro e_ w56 ⟨A56, c56, rfl, hown_, hb_⟩;refine ⟨_, rfl, ?_⟩;replace hh := hh.aO (x := .row _ _ _ _ _ _) hb_ hown_;rw [hel, hex] at hh;rw [hel];refine aK (mI (aa (ao ?_)));refine bP [14, 15, 16, 58, 59, 60, 61, 62, 63, 64, 65, 66, 67, 68, 69, 70, 71, 72] 14 58
       (fun a v w' => ∃ (j z : Nat), j ≤ n ∧ v = .int .i64 j ∧ a = .int .i64 z ∧ z = g6 (ns.take j).reverse ((cP x.m).take j).reverse ∧ z < ar (ns.take j) ∧ Hp w (.row A56 n c56 3 1 (bm (bL (cP x.m))) :: .blk b13 96 [.string x.m, .bool x.c.neg, .string x.c.bf, .int .i64 x.c.e] (0, 0) :: .blk b11 39 [.slice A42 m2 c42, .slice (some ⟨b45, 0, none⟩) (ar ns) (ar ns)] (0, 0) :: .row (some ⟨b45, 0, none⟩) (ar ns) (ar ns) 65 3 (aw NR.cells ((X0 ns.reverse (qZ (S.take i))).map nR)) :: .row A42 m2 c42 3 1 (bm D) :: .blk b9 24 [.int .i64 qv, .slice (some ⟨gq, 0, none⟩) qn qc] (0, 0) :: .row (some ⟨gq, 0, none⟩) qn qc 96 4 (aw TR.cells S) :: .blk b6 39 [.slice none 0 0, .slice none 0 0] (0, 0) :: .blk b3 24 [.int .i64 p.v, .slice p.A p.n p.c] (0, 0) :: R) w')
       (fun _ v _ => n - (intOf v).toNat) ?_ ?_
      ·exact ⟨0, 0, Sn _, rfl, rfl, rfl, Nat.one_pos, hh⟩
      ·clear hh;rintro ρ3 a_ v w3 ⟨j, z, hj, rfl, rfl, hz, hz2, hh⟩;by_cases hjn : j < n
       ·obtain ⟨d, hd⟩ := av (l := ns) (k := j) Sd;obtain ⟨r, hr⟩ := av (l := cP x.m) (k := j) Sd;have hrd2 := hokat j d r hd hr;have hd7 := hlow d (Sp hd);have hgD : (bm D)[j]? = some (.int .i64 (d : Int)) := by rw [hnat]; exact cO (lf hd)
        have hgE := cO (lf hr);have hst := G6 hd hr;have hcs := IF hd;rw [dn, dn] at hcs;rw [← hz] at hst;have hct := jb ns (j + 1);have hnew : r + (d + 1) * z < (d + 1) * ar (ns.take j) := by
         have : (d + 1) * (z + 1) ≤ (d + 1) * ar (ns.take j) := SX _ hz2;rw [TZ] at this;omega
        have hpr : (z : Int) * ((d : Int) + 1) = (((d + 1) * z : Nat) : Int) := by rw [SS, Tv, TX]; rfl
        have hDs := hrd [_, _, _, _, _, _, _, _, _] _ hh;obtain ⟨ad, hMe, hsr2⟩ := hDs.at_ Sd;have nX : Value.slice M2 m2 mc2 = .slice (some ad) m2 mc2 := by rw [hMe]
        have hel2 : (bm (bL (cP x.m))).length = n := by rw [cL, ig]; exact hesl
        obtain ⟨gx, rfl⟩ := hh.cD (i := 0) rfl Sd;refine sr ?_;refine fj ?_;refine qN ?_;refine jR ?_;refine aI (aI (aa (al (mI (mL (mI ?_))))));refine db (k := j) bq.out aP.size nX rfl Sd Sd Se ?_;refine cv aP.out rfl (hsr2.DB hgD) Se ?_;refine a9 ?_;refine mulC (mI ?_);refine a9 (aI (az (bg (ai (al ?_)))));refine a9 (mI (az (ai ?_)));rw [hpr];refine ⟨⟨j + 1, r + (d + 1) * z, Sd, rfl, ?_, hst.symm, Sd, hh⟩, by show n - (j + 1) < n - j; omega, ?_⟩
        ·show Value.int IntKind.i64 ((((d + 1) * z : Nat) : Int) + (r : Int)) = _;rw [show (((d + 1) * z : Nat) : Int) + (r : Int) = ((r + (d + 1) * z : Nat) : Int) by omega]
        ·exact eB
       ·obtain rfl : j = n := Sd;rw [Su Sd, Su Sd] at hz;rw [Su Sd] at hz2;rw [← hz] at hset;generalize X0 ns.reverse (qZ (S.take i)) = X at *;have hrl := dZ NR.len (X.map nR);refine sr ?_;refine a6 (aa (ah (cF (aV (aE (aE (bo (ai (al (bF ?_))))))))));refine bE hh 2 ?_;refine mI (bF ?_);refine cu hh 1 [_,_,_] ?_;refine cG (k := z) bq.out aP.size rfl rfl Sd Sd Se ?_;refine Hm ?_;intro ws hh;simp only [Sy, Tb] at hh;rw [hxc, show bM (aw NR.cells (X.map nR)) (z * 3) [.bool (nR x.c.d).neg, .string (nR x.c.d).bf, .int .i64 (nR x.c.d).e] = aw NR.cells ((X.map nR).set z (nR x.c.d)) from dO NR.len Sd, ← Ua, hset] at hh;refine fG ?_;refine a9 (mI (az (ai ?_)));replace hh := hh.sub (Sm _ (Sm _ (Sk _ (Sk _ (Sk _ (Sk _ (Sk _ (Sk _ (Sk _ (TJ _))))))))));refine ⟨⟨i + 1, Sd, rfl, hh⟩, by show qn - (i + 1) < qn - i; omega, ?_⟩;exact eB
     ·obtain rfl : i = qn := Sd;rw [Su Sd, show X0 ns.reverse (qZ S) = oB ns.reverse (qZ S) 0 from rfl] at hh;have hoff := xW hsr;have hXz := Bt (K2 (ds := ns.reverse) hso.ok) (fun d hd => hlow d (Ui.1 hd));have hnr : ns.reverse.length = n := by rw [SZ]; omega
      refine sr ?_;refine a6 (aa (ah (cF (aV (aE (aE (bo (ai (ah (sr (mL (aK (mI (aa (ao ?_)))))))))))))));replace hh := hh.sub (Sk _ (Sk _ (Sk _ (Sm _ (Sm _ (Sk _ (Sk _ (TJ _))))))));refine aN [17, 82, 83, 84, 85, 86, 87, 88, 89, 90, 91, 92] 82
       (fun v w' => ∃ (j : Nat) (A : Option Addr) (ac : Nat), j ≤ n ∧ v = .int .i64 j ∧ Hp w (.blk b11 39 [.slice A42 m2 c42, .slice A (ar ns) ac] (0, 0) :: .row A (ar ns) ac 65 3 (aw NR.cells ((oB ns.reverse (qZ S) j).map nR)) :: .row A42 m2 c42 3 1 (bm D) :: .blk b6 39 [.slice none 0 0, .slice none 0 0] (0, 0) :: .blk b3 24 [.int .i64 p.v, .slice p.A p.n p.c] (0, 0) :: R) w')
       (fun v _ => n - (intOf v).toNat) ?_ ?_
      ·exact ⟨0, _, _, Sn _, rfl, hh⟩
      ·clear hh;rintro ρ4 v w4 ⟨j, A, ac, hj, rfl, hh⟩;by_cases hjn : j < n
       ·obtain ⟨d, hd⟩ := av (l := ns) (k := j) Sd;have hd7 := hlow d (Sp hd);have hrm := KD hd;have hol : (oB ns.reverse (qZ S) j).length = ar ns := by rw [zD, dn]
        have hof := fun w1 hs => wi M2 m2 mc2 j d ns w1 (by rw [← hnat]; exact hs) hmc2 Sd hd hlow hmost;have hcn : ar ns = ar ((ns.drop (j + 1)).reverse ++ d :: (ns.take j).reverse) := by rw [← hrm, dn]
        have hli := fun w1 hT1 hS1 => yF 94 (ns.drop (j + 1)).reverse (ns.take j).reverse d (d + 1) (cY d (ej d 1 1)) A (ar ns) ac (440000 + S.length + 520 * j) (oB ns.reverse (qZ S) j) w1 hT1 hS1 hcn hmost (So _) hd7 (hXz j) (fun Y E ec w2 hT2 hy hs => xu E (d + 1) ec d Y _ w2 hT2 hs rfl hd7 hy Sd) (fun Y _ => by simp [cY]);have hM := Mn (M := ej d 1 1) (A := (ns.drop (j + 1)).reverse) (B := (ns.take j).reverse) (X := oB ns.reverse (qZ S) j) (hol.trans hcn);have hsu := p9 ns.reverse (qZ S) j;have hgd : ns.reverse.getD (ns.reverse.length - 1 - j) 0 = d := by
         rw [TC, TI Sd, show ns.length - 1 - (ns.reverse.length - 1 - j) = j by omega, hd]
         rfl
        rw [hgd, show ns.reverse.length - 1 - j = (ns.drop (j + 1)).reverse.length by rw [SZ, SZ, TT]; omega] at hsu;rw [hol, ← hrm, ← hsu] at hM;rw [hM, dn] at hli;clear hM hsu hgd hcn;refine sr ?_;refine a6 (aa (ah (cT (aq (ai (ah (ao (sr (mI (aI (aa ?_)))))))))));refine aU 5 [[(2, none)], [(17, none)], [(85, some 0), (86, some 1)], [(11, none)], [(88, some 3)]] [(4, 89), (3, 88), (2, 87), (1, 86), (0, 85)] hh mixed Sf ?_;refine iw ?_;refine eH ?_;refine dC (fun _ hj => hof _ (hrd [_, _, _, _, _] _ hj.hp)) ?_;refine ek ?_;refine gH 0 ?_;refine aR ?_;intro f W hJ hV;have hb_24 := hJ.bl;obtain ⟨v89, v88, v87, v86, v85, _⟩ := hV;replace hh := hJ.hp;refine aX (bp (ae v89 (ae v88 (ae v87 (ae v86 (ae v85 aW)))))) ?_;dsimp only [ck];clear hJ;refine aC (hli _ (hT.hp hh) (hh.aD (i := 1) rfl)) ak.out rfl Se ?_;rintro e_ w90 ⟨E, ec, rfl, h4⟩;refine ⟨_, rfl, ?_⟩;replace hh := hh.join h4;clear h4;simp only [Sv, Ss] at hh;refine bF ?_;refine bK hh 1 [_] ?_;intro ws hh;replace hh : Hp _ (_ :: .blk _ _ [_, _] _ :: _) _ := hh;refine fG ?_;refine a9 (mI (az (ai ?_)))
        replace hh := hh.sub (Sk _ (Sk _ (Sm _ (Sk _ (Sk _ (Sk _ (TJ _)))))));replace hh := hh.perm (Tr (l₁ := [_]));simp only [Sv, Ss] at hh;refine ⟨⟨j + 1, E, ec, Sd, rfl, hh⟩, by show n - (j + 1) < n - j; omega, ?_⟩;exact eB
       ·obtain rfl : j = n := Sd;rw [hnl, hbl] at hoff;rw [hoff] at hh;refine sr ?_;refine mq ?_;refine cu hh 0 [_,_] ?_;refine bK hh 3 [_,_] ?_;intro ws hh;replace hh : Hp _ (_ :: _ :: _ :: .blk _ _ [_, _] _ :: _) _ := hh;refine aI (aa (au ?_));refine FA ?_;exact ⟨⟨A42, m2, c42, A, ar ns, ac, D, (rh ns S).map nR⟩, ⟨hnat, rfl, by show m2 ≤ 100000; omega, by show ar ns ≤ 1000000; omega⟩, rfl, hh.sub (.cons _ (.cons_cons _ (.cons_cons _ (TN _))))⟩
variable {C : Nat}
theorem Ar {d a : Nat} (t : Dyadic) (h : a ≤ d) : sm (List.range (d + 1)) (fun r => ej d 1 1 a r * fS d r t) = t ^ a := by
 have e0 : (fun r => ej d 1 1 a r * fS d r t) = fun k => if k < a then 0 else (fun j => nD (bin (d - a) j) * fS d (j + a) t) (k - a) := funext fun k => by
  unfold ej;by_cases hk : k < a
  ·rw [Sj hk, Sj hk, Vo]
  ·rw [Si hk, Si hk, jJ, jJ];show nD (bin (d - a) (k - a)) * 1 * 1 * fS d k t = nD (bin (d - a) (k - a)) * fS d (k - a + a) t;rw [Nat.sub_add_cancel Sd];grind
 have hb := CU (d - a) t (1 - t);rw [show t + (1 - t) = 1 by grind, jJ] at hb;rw [e0, GM d a h fun j => nD (bin (d - a) j) * fS d (j + a) t];have e1 : ∀ j, j ∈ List.range (d - a + 1) → nD (bin (d - a) j) * fS d (j + a) t = t ^ a * (nD (bin (d - a) j) * t ^ j * (1 - t) ^ (d - a - j)) := fun j hj => by
  have := S1.1 hj;unfold fS;rw [show d - (j + a) = d - a - j by omega, ky];grind
 rw [aY e1, gy, hb];grind
theorem Hc : ∀ (ds s : List Nat) (ts : List Dyadic), lN ds s → ts.length = ds.length → sm (List.range (ar ds)) (fun p => wK 0 ds s (cV ds p) * lu ds (cV ds p) ts) = im s ts
 | [], [], [], _, _ => by show (1 : Dyadic) * 1 + 0 = 1; grind
 | [], _ :: _, _, h, _ => by cases h
 | _ :: _, [], _, h, _ => by cases h
 | [], [], _ :: _, _, h => by cases h
 | _ :: _, _ :: _, [], _, h => by cases h
 | d :: ds, a :: s, t :: ts, h1, h2 => by
  have ih := Hc ds s ts h1.2 (by simpa using h2);rw [xb, im, ← ih, ← Ar t h1.1, ← gy];refine aY fun q _ => ?_;rw [← jO];refine aY fun r hr => ?_;have hr2 := S1.1 hr;rw [cV, T9, SY hr2, TE _ _ Sd, Tj hr2, SM, lu];show ej d 1 1 a r * wK 0 ds s (cV ds q) * _ = _;grind
theorem uP : ∀ (s : List Nat) (ts : List Dyadic) (a : Nat) (t : Dyadic), s.length = ts.length → im (s ++ [a]) (ts ++ [t]) = im s ts * t ^ a
 | [], [], a, t, _ => by show t ^ a * 1 = 1 * t ^ a; grind
 | [], _ :: _, _, _, h => by cases h
 | _ :: _, [], _, _, h => by cases h
 | b :: s, u :: ts, a, t, h => by
  show u ^ b * im (s ++ [a]) (ts ++ [t]) = u ^ b * im s ts * t ^ a;rw [uP s ts a t (by simpa using h)];grind
theorem xT : ∀ (s : List Nat) (ts : List Dyadic), s.length = ts.length → im s.reverse ts.reverse = im s ts
 | [], [], _ => rfl
 | [], _ :: _, h => by cases h
 | _ :: _, [], h => by cases h
 | b :: s, u :: ts, h => by
  rw [Ue, Ue, uP _ _ _ _ (by simpa using h), xT s ts (by simpa using h), im];grind
theorem L5 {ns : List Nat} {S : List TR} {ts : List Dyadic} (hS : ∀ t ∈ S, lN ns.reverse (cP t.m).reverse) (ht : ts.length = ns.length) : jm ns.reverse (rh ns S) ts = mb ts.reverse S := by
 unfold jm;have e1 : sm (List.range (ar ns.reverse)) (fun p => ((rh ns S)[p]?).getD 0 * lu ns.reverse (cV ns.reverse p) ts) = sm (List.range (ar ns.reverse)) fun p => sm S fun t => t.c.d * (wK 0 ns.reverse (cP t.m).reverse (cV ns.reverse p) * lu ns.reverse (cV ns.reverse p) ts) := aY fun p hp => by
  unfold rh;rw [St, S8 (S1.1 hp)];show wS _ S * _ = _;rw [CE, ← jO];exact aY fun t _ => by grind
 rw [e1, lI];unfold mb;rw [CE];refine aY fun t h => ?_;rw [gy, Hc _ _ _ (hS t h) (by rw [SZ]; exact ht)];have hl := Ch (hS t h);rw [SZ, SZ] at hl;have := xT (cP t.m).reverse ts (by rw [SZ, hl, ht]);rw [U0] at this;rw [this]
theorem J4 (f : ByteArray → Dyadic) (c : Dyadic) (l : List TR) : wS f (l.map (nx c)) = wS f l * c := by
 induction l with
 | nil => exact (Vo _).symm
 | cons t l ih =>
  rw [SW, wS, wS, ih];show (nR (t.c.d * c)).d * f t.m + _ = _;rw [cn];grind
theorem yl : ∀ (v i : Nat) (xs : List Dyadic), xs.length = v → i < v → im (((List.replicate v 0).set i 1)) xs = (xs[i]?).getD 0
 | 0, _, _, _, h => absurd h (Nat.not_lt_zero _)
 | v + 1, i, [], h, _ => by cases h
 | v + 1, 0, x :: xs, h, _ => by
  show x ^ 1 * im (List.replicate v 0) xs = x;rw [mG];grind
 | v + 1, i + 1, x :: xs, h, hi => by
  show x ^ 0 * im ((List.replicate v 0).set i 1) xs = (xs[i]?).getD 0;rw [yl v i xs (by simpa using h) Sd, UL];grind
theorem Gg (v i : Nat) : cP (kv v i) = (List.replicate v 0).set i 1 := by
 unfold cP kv;show ((((List.replicate (v : Int).toNat (0 : UInt8)).set i 1).toArray).toList).map UInt8.toNat = _;rw [List.toList_toArray, Ua, List.map_replicate]
 rfl
theorem Ez (v : Nat) : cP (ef v) = List.replicate v 0 := by
 unfold cP ef;show (((List.replicate (v : Int).toNat (0 : UInt8)).toArray).toList).map UInt8.toNat = _;rw [List.toList_toArray, List.map_replicate]
 rfl
theorem Gw {v i : Nat} {s : SR} (hx : xs.length = v) (hi : i < v) : mb xs (gI v i s) = s.L + (s.H - s.L) * (xs[i]?).getD 0 := by
 unfold gI q6 tK wE;rw [iO, th, iO, iO];have e1 : mb xs [⟨ef v, nR s.L⟩] = s.L := by
  show (nR s.L).d * im (cP (ef v)) xs + 0 = _;rw [cn, Ez, mG];grind
 have e2 : mb xs ((aF [⟨kv v i, nR ((1 : Int) : Dyadic)⟩]).map (nx (s.H - s.L))) = (xs[i]?).getD 0 * (s.H - s.L) := by
  unfold mb;rw [J4, p8];show ((nR ((1 : Int) : Dyadic)).d * im (cP (kv v i)) xs + 0) * _ = _;rw [cn, Gg, yl v i xs hx hi, show (((1 : Int) : Dyadic)) = 1 from rfl];grind
 rw [e1, e2];grind
def IL (b : List SR) (xs : List Dyadic) : List Dyadic := b.mapIdx fun i s => s.L + (s.H - s.L) * (xs[i]?).getD 0
theorem D7 (hx : xs.length = b.length) : (bj b).map (fun g => mb xs g.ts) = IL b xs := by
 refine S0 fun i => ?_;unfold IL;rw [St, UW]
 cases hs : b[i]? with
 | none =>
  rw [Sw (by rw [iK]; exact Vz.1 hs)]
  rfl
 | some s =>
  rw [fw hs];show some (mb xs (gI b.length i s)) = some _;rw [Gw hx (SC.1 hs).1]
theorem I4 {p : PX} (h0 : (df p (bj b)).1 = 0) (hx : xs.length = b.length) : mb xs (df p (bj b)).2 = mb (IL b xs) p.ts := by
 rw [L6 h0, D7 hx]
theorem EJ {p : PX} {ns : List Nat} {s : Nat} (h : m8 p b ns) (ho : iA k p.ts) (hb : ∀ z ∈ b, z.fin k) (hk : k ≤ 1000) (hN : ar (cZ p.v p.ts) ≤ N) (hN2 : N ≤ 1000) (hs : (cZ p.v p.ts).sum ≤ s) (hB : k + 1 + (s + 12) * (k + k + 10 + 5 * N) ≤ 400000) (h0 : (df p (bj b)).1 = 0) :
  jf b.length (k + 1 + (s + 12) * (k + k + 10 + 5 * N)) (df p (bj b)).2 ∧ (df p (bj b)).2.length ≤ N := by
 have hl := h.l5;have hpos := h.pos;have hln := iK b;obtain ⟨_, o2, o3⟩ := jl h.e;have hol := h.j4;have hhv : ff (bj b) = b.length := by
  obtain ⟨z, hz⟩ := av (l := b) (k := 0) Sd;rw [kD (fw hz)]
 unfold df at h0 ⊢;rw [Si (fun c => c h.e), Si (by rw [hln, h.v]; exact fun c => c rfl)] at h0 ⊢;by_cases hlk : (bj b).length ≠ 0 ∧ fi (bj b) ≠ 0
 ·rw [Sj hlk] at h0; exact absurd h0 hlk.2
 ·rw [Si hlk, hhv] at h0 ⊢;have hD : (List.range b.length).map (fun i => ((cZ p.v p.ts)[i]?).getD 0) = cZ p.v p.ts := by
   refine S0 fun i => ?_;rw [St];by_cases hi : i < b.length
   ·obtain ⟨d, hd⟩ := av (l := cZ p.v p.ts) (k := i) Sd;rw [S8 hi, hd];show some (((cZ p.v p.ts)[i]?).getD 0) = some d;rw [hd]
    rfl
   ·exact OA
  have hsl : ((cZ p.v p.ts).sum + (cZ p.v p.ts).length) * (k + k + 10 + 5 * N) ≤ (s + 12) * (k + k + 10 + 5 * N) := S9 _ Sd;have h1 := GR (K := k + k + 10) (T := 2) (c := k + k + 10 + 5 * N) (N := N) hl (fun i => ((cZ p.v p.ts)[i]?).getD 0) (by rw [hD]; exact hN) Sd Sd Sd ((bj b).map PX.ts) 0 p.ts (cZ p.v p.ts) k (fun i q hq => ?_) ho (by rw [Sx, hln, hol]) (fun i d hd => by rw [SM, hd]; rfl) (fun t ht i hi => ?_) Sd h0
  ·exact ⟨h1.1.mono Sd, h1.2⟩
  ·rw [St] at hq;obtain ⟨g, hg, rfl⟩ := TH.1 hq;obtain ⟨z, hz⟩ := av (l := b) (k := i) (by have := (SC.1 hg).1; rwa [hln] at this);rw [fw hz] at hg;rw [← Tc hg, SM];obtain ⟨a1, a2⟩ := kV (v := b.length) (i := i) hl (hb z (Sp hz)) Sd;exact ⟨a1, a2, p6 _ i z⟩
  ·rw [Sx, hln] at hi;rw [SM];obtain ⟨d, hd⟩ := av (l := cZ p.v p.ts) (k := i) Sd;rw [hd];exact (o3 i d hd).2.1 t ht
theorem BM : ∀ (ds : List Nat), (∀ d ∈ ds, d ≤ 5) → 2 ^ ds.sum ≤ ar ds * ar ds
 | [], _ => So _
 | d :: ds, h => by
  have h1 := BM ds fun x hx => h x (SA _ hx);have h2 := h d Sq;have h3 : 2 ^ d ≤ (d + 1) * (d + 1) := by
   match d, h2 with
   | 0, _ => decide
   | 1, _ => decide
   | 2, _ => decide
   | 3, _ => decide
   | 4, _ => decide
   | 5, _ => decide
  rw [List.sum_cons, SL, ar];have := Tw h3 h1
  calc 2 ^ d * 2 ^ ds.sum ≤ (d + 1) * (d + 1) * (ar ds * ar ds) := this
   _ = (d + 1) * ar ds * ((d + 1) * ar ds) := by rw [Nat.mul_mul_mul_comm]
theorem FK {s : Nat} (h : ∀ d ∈ ds, d ≤ 5) (hc : ar ds ≤ C) (hs : C * C < 2 ^ (s + 1)) : ds.sum ≤ s := by
 have h1 := BM ds h;have h2 := Tw hc hc;have h3 : 2 ^ ds.sum < 2 ^ (s + 1) := Sd;have := (Vw (by decide : 1 < 2)).1 h3;omega
theorem pT (c k : Nat) : ∀ ds : List Nat, fU c ds k = k + ds.sum * c + ds.length * 8192
 | [] => by rw [pC]; simp
 | d :: ds => by
  rw [nP, pT c k ds, List.sum_cons, SG, Up, Tl];omega
theorem Lu {ns : List Nat} {S : List TR} (hS : ∀ t ∈ S, lN ns.reverse (cP t.m).reverse) (hk : iA k S) (hd : ∀ d ∈ ns, d ≤ 127) : ∀ x ∈ rh ns S, Sz (k + S.length + 520 * ns.length) x := by
 rw [← xW hS];exact Bt (K2 hk) (fun d h => hd d (Ui.1 h)) ns.length
theorem xI {t : TR} {B : Nat} (h : ∀ c ∈ t.m.data.toList, c.toNat ≤ B) (i : Nat) : lQ t.m i ≤ B := by
 unfold lQ
 cases he : t.m.data.toList[i]? with
 | none => exact Int.natCast_nonneg B
 | some e => have := h e (Sp he); show ((e.toNat : Nat) : Int) ≤ B; omega
theorem AL {v : Int} {B : Nat} (h : fh v ts = 0) (hb : ∀ t ∈ ts, ∀ c ∈ t.m.data.toList, c.toNat ≤ B) : ∀ d ∈ cZ v ts, d ≤ B := fun d hd => by
 obtain ⟨i, hi⟩ := TV.1 hd;have h1 := ((jl h).2.2 i d hi).2.2;have h2 := (B8 (l := ts) (i := i) (B := (B : Int)) (Int.natCast_nonneg B) fun t ht => xI (hb t ht) i).2;omega
theorem Hv {v : Int} (h : fh v ts = 0) (hC : C ≤ 4096) (hc : El (qi v ts) ≤ C) : ar (cZ v ts) ≤ C := by
 obtain ⟨o1, _, o3⟩ := jl h;have hlow : ∀ d ∈ cZ v ts, d ≤ 127 := fun d hd => by
  obtain ⟨i, hi⟩ := TV.1 hd;exact (o3 i d hi).1
 rw [o1] at hc;unfold El at hc;rw [Si (by rw [tr hlow]; decide)] at hc;have := za (cZ v ts) 1 (So _) Se;rw [T6] at this;rw [show wO 1 (bL (cZ v ts)) = wO ((1 : Nat) : Int) (bL (cZ v ts)) from rfl, this] at hc;omega
structure KI (p : PX) (b : List SR) (C s : Nat) : Prop where
 n : p.ts.length ≤ 8
 ok : iA 124 p.ts
 sz : ∀ t ∈ p.ts, t.m.size ≤ 20
 ex : ∀ t ∈ p.ts, ∀ c ∈ t.m.data.toList, c.toNat ≤ 4
 box : ∀ z ∈ b, z.fin 124
 P4 : p.e = 0 → ar (cZ p.v p.ts) ≤ C
 KS : C * C < 2 ^ (s + 1)
theorem KI.sum {p : PX} {s : Nat} (h : KI p b C s) (he : p.e = 0) : (cZ p.v p.ts).sum ≤ s := FK (fun d hd => by have := AL he h.ex d hd; omega) (h.P4 he) h.KS
theorem KI.grow {p : PX} {s : Nat} (h : KI p b C s) (hs : s ≤ 14) (he : p.e = 0) : fU (124 + 124 + 16394) (cZ p.v p.ts) (124 + 1) ≤ 440000 := by
 have h1 := h.sum he;have h2 := (jl he).2.1;have h3 := (gu.1 (cm he).1).2;rw [pT];have h4 : (cZ p.v p.ts).sum * (124 + 124 + 16394) ≤ 14 * (124 + 124 + 16394) := S9 _ Sd;have h5 : (cZ p.v p.ts).length * 8192 ≤ 12 * 8192 := S9 _ Sd;omega
theorem KI.small {p : PX} {s : Nat} {ns : List Nat} (h : KI p b C s) (hs : s ≤ 14) (hC : C ≤ 200) (hF : m8 p b ns) (h0 : (df p (bj b)).1 = 0) : (iA 40000 (df p (bj b)).2 ∧ ∀ t ∈ (df p (bj b)).2, lN ns.reverse (cP t.m).reverse) ∧ ∀ x ∈ rh ns (df p (bj b)).2, Sz 47000 x := by
 obtain ⟨h1, h2⟩ := EJ hF h.ok h.box Se (SK (h.P4 hF.e) hC) Se (SK (h.sum hF.e) hs) Se h0;have h3 := (pV hF h.ok h.box Se (h.grow hs hF.e) h0).2;have h4 := h1.ok.mono (show 124 + 1 + (14 + 12) * (124 + 124 + 10 + 5 * 200) ≤ 40000 by decide);refine ⟨⟨h4, h3⟩, fun x hx => (Lu h3 h4 hF.low x hx).mono ?_⟩;have h5 := hF.nl;have h6 := hF.l5;omega
theorem Ef {v : Int} {a b : TR} (ha : fK v a = true) (hb : fK v b = true) (h : ∀ i, fD i a + fD i b ≤ 127) : l8 a.m b.m = 0 := by
 unfold fK at ha hb;rw [SE, SJ] at ha hb;have hl : b.m.data.toList.length = a.m.data.toList.length := by rw [← dE, ← dE]; omega
 unfold l8;rw [Cs ha.1 hb.1 hl];rw [SU];intro z hz;obtain ⟨i, hi⟩ := TV.1 hz;rw [List.getElem?_zipWith] at hi
 cases hx : (ints a.m.data.toList)[i]? with
 | none => rw [hx] at hi; cases hi
 | some x =>
  cases hy : (ints b.m.data.toList)[i]? with
  | none => rw [hx, hy] at hi; cases hi
  | some y =>
   rw [hx, hy] at hi;have e : x + y = z := Tc hi;unfold ints at hx hy;rw [St] at hx hy;obtain ⟨c, hc, rfl⟩ := TH.1 hx;obtain ⟨d, hd, rfl⟩ := TH.1 hy;have := h i;rw [l0 hc, l0 hd] at this;unfold cM;rw [← e, SE, SJ, SJ];omega
theorem uu {v : Nat} {q p : List TR} {sub : List TR → Int × List TR} {j d N T : Nat} {E : Nat → Nat} (hv : v ≤ 12) (hq : fh v q = 0) (hqT : q.length ≤ T) (hqB : kW (fun x => if x = j then 1 else 0) q) (hD : ∀ t ∈ p, fD j t ≤ d) (hE : E j = 0) (hd : d ≤ 127) (hE2 : ∀ x, E x ≤ 127)
  (hs : ∀ n, (sub (a0 p j n)).1 = 0 ∧ fh v (sub (a0 p j n)).2 = 0 ∧ kW E (sub (a0 p j n)).2) (hN : ar ((List.range v).map fun x => if x = j then d else E x) ≤ N) (hNT : N * T + N ≤ 4096) :
  ∀ i, i ≤ 128 → (bh q sub p j i).1 = 0 ∧ fh v (bh q sub p j i).2 = 0
 | 0, _ => ⟨rfl, (jf.nil (k := 0) (fJ hv)).e⟩
 | i + 1, hi => by
  obtain ⟨h1, h2⟩ := uu hv hq hqT hqB hD hE hd hE2 hs hN hNT i Sd;have hb := oD hqB hD hE (fun n _ => (hs n).2.2) i Sd h1;have hl : (bh q sub p j i).2.length ≤ N := SK (oS h2 (hb.mono fun x => by
   by_cases hx : x = j
   ·rw [Sj hx, Sj hx]; omega
   ·rw [Si hx, Si hx]; exact So _)) hN
  have hls : ∀ n, (sub (a0 p j n)).2.length ≤ N := fun n => SK (oS (hs n).2.1 ((hs n).2.2.mono fun x => by
   by_cases hx : x = j
   ·rw [Sj hx, hx, hE]; exact Sn _
   ·rw [Si hx]; exact So _)) hN
  obtain ⟨f1, f2, f3, f4⟩ := cm h2;obtain ⟨q1, q2, q3, q4⟩ := cm hq;have hpl : (bR (bh q sub p j i).2 q).length ≤ N * T := by rw [jE]; exact Tw hl hqT
  have hpe : ∀ e ∈ qt (bh q sub p j i).2 q, e = 0 := fun e he => by
   by_cases hlow : i + d ≤ 127
   ·rw [gG hD i hlow] at he
    cases he
   ·obtain ⟨x, hx, he⟩ := Uw.1 he;obtain ⟨y, hy, rfl⟩ := SB.1 he;refine Ef (f3 x hx) (q3 y hy) fun r => ?_;have a1 := hb x hx r;have a2 := hqB y hy r;have a3 := hE2 r;by_cases hr : r = j
    ·simp only [Sj hr] at a1 a2; omega
    ·simp only [Si hr] at a1 a2; omega
  have htm : e6 (bh q sub p j i).2 q = 0 := by
   rw [yi (by rw [← jE]; omega) hpe, k7 Sd]
  obtain ⟨s1, s2, s3⟩ := hs (127 - i);have hgl := cI (bR (bh q sub p j i).2 q);have hg : fY (aF (bR (bh q sub p j i).2 q) ++ (sub (a0 p j (127 - i))).2) = 0 := k7 (by rw [Sr]; have := hls (127 - i); omega);rw [iF];unfold gN;rw [Si (fun c => c h1)];by_cases c1 : (bh q sub p j i).2.length = 0 ∧ (a0 p j (127 - i)).length = 0
  ·rw [Sj c1]; exact ⟨h1, h2⟩
  ·rw [Si c1, Si (fun c => c htm), Si (fun c => c s1), Si (fun c => c hg)];refine ⟨rfl, eV (fJ hv) (rg hg) fun t ht => (S2.1 ht).elim (lE (mz f3 hpe) t) ((cm s2).2.2.1 t)⟩
theorem Hb {f g : Nat → Nat} (l : List Nat) (h : ∀ x, f x ≤ g x) : ar (l.map f) ≤ ar (l.map g) := by
 induction l with
 | nil => exact So _
 | cons x l ih => exact Tw (Nat.succ_le_succ (h x)) ih
theorem zV {v N T : Nat} (hv : v ≤ 12) (D : Nat → Nat) (hD7 : ∀ x, D x ≤ 127) (hN : ar ((List.range v).map D) ≤ N) (hNT : N * T + N ≤ 4096) : ∀ (qs : List (List TR)) (j : Nat) (p : List TR), (∀ (i : Nat) (q : List TR), qs[i]? = some q → fh v q = 0 ∧ q.length ≤ T ∧ kW (fun x => if x = j + i then 1 else 0) q) → (∀ t ∈ p, ∀ i, i < qs.length → fD (j + i) t ≤ D (j + i)) →
  (eh v qs j p).1 = 0 ∧ fh v (eh v qs j p).2 = 0
 | [], j, p, _, _ => ⟨rfl, eV (fJ hv) (SK (cI _) (by show 1 ≤ 4096; decide)) fun t ht => by
   rw [SN.1 ht];unfold fK;rw [SE, SJ];exact ⟨pX v, lH Sd⟩⟩
 | q :: qs, j, p, hq, hp => by
  obtain ⟨q1, q2, q3⟩ := hq 0 q rfl;rw [TB] at q3;have hpw : ∀ n, ∀ t ∈ a0 p j n, ∀ i, i < qs.length → fD (j + 1 + i) t ≤ D (j + 1 + i) := fun n t ht i hi => by
   have := hp t (jd t ht) (i + 1) (by rw [SG]; omega);rwa [show j + 1 + i = j + (i + 1) by omega]
  have hqs : ∀ (i : Nat) (r : List TR), qs[i]? = some r → fh v r = 0 ∧ r.length ≤ T ∧ kW (fun x => if x = j + 1 + i then 1 else 0) r := fun i r hr => by
   have := hq (i + 1) r (by simpa using hr);rwa [show j + 1 + i = j + (i + 1) by omega]
  have hs : ∀ n, (eh v qs (j + 1) (a0 p j n)).1 = 0 ∧ fh v (eh v qs (j + 1) (a0 p j n)).2 = 0 ∧ kW (fun x => if j + 1 ≤ x ∧ x < j + 1 + qs.length then D x else 0) (eh v qs (j + 1) (a0 p j n)).2 := fun n => by
   obtain ⟨a1, a2⟩ := zV hv D hD7 hN hNT qs (j + 1) (a0 p j n) hqs (hpw n);exact ⟨a1, a2, wI qs (j + 1) (a0 p j n) D (fun i r hr => (hqs i r hr).2.2) (hpw n) a1⟩
  rw [pH];exact uu (d := D j) (E := fun x => if j + 1 ≤ x ∧ x < j + 1 + qs.length then D x else 0) hv q1 q2 q3 (fun t ht => hp t ht 0 (by rw [SG]; omega)) (by rw [Si Sd]) (hD7 j) (fun x => by
   split
   ·exact hD7 x
   ·exact Sn _) hs (SK (Hb _ fun x => by
   by_cases hx : x = j
   ·rw [Sj hx, hx]; exact So _
   ·rw [Si hx];split
    ·exact So _
    ·exact Sn _) hN) hNT 128 (So _)
theorem Fu {p : PX} {v T : Nat} (hv : v ≤ 12) (h0 : p.e = 0) (hpv : p.v = (ls.length : Int)) (hn : 0 < ls.length) (hl : ds.length = v) (hlv : ls.length = v) (hls : ∀ (i : Nat) (g : PX), ls[i]? = some g → g.v = (v : Int) ∧ fh v g.ts = 0 ∧ g.ts.length ≤ T ∧ kW (fun x => if x = i then 1 else 0) g.ts)
  (hd : ∀ (i d : Nat), ds[i]? = some d → d ≤ 127 ∧ ∀ t ∈ p.ts, fD i t ≤ d) (hN : ar ds ≤ N) (hNT : N * T + N ≤ 4096) : (df p ls).1 = 0 ∧ fh v (df p ls).2 = 0 := by
 have hne : ls ≠ [] := fun e => by rw [e] at hn; exact absurd hn Se
 have hmem : ∀ g ∈ ls, g.v = (v : Int) ∧ fh v g.ts = 0 := fun g hg => by
  obtain ⟨i, hi⟩ := TV.1 hg;exact ⟨(hls i g hi).1, (hls i g hi).2.1⟩
 have hlk : fi ls = 0 := D2 (v := v) hne (fun g hg => by unfold PX.e; rw [(hmem g hg).1]; exact (hmem g hg).2) fun g hg => (hmem g hg).1;have hhv : ff ls = v := by
  obtain ⟨g, hg⟩ := av (l := ls) (k := 0) hn;rw [kD hg];exact (hls 0 g hg).1
 unfold df;rw [Si (fun c => c h0), Si Sd, Si (fun c => c.2 hlk), hhv];have hDD : ∀ i, ds.getD i 0 ≤ 127 := fun i => by
  rw [TC]
  cases h : ds[i]? with
  | none => exact Sn _
  | some d => exact (hd i d h).1
 have hDm : (List.range v).map (fun i => ds.getD i 0) = ds := by
  refine S0 fun i => ?_;rw [St];by_cases hi : i < v
  ·obtain ⟨d, hdd⟩ := av (l := ds) (k := i) Sd;rw [S8 hi, hdd];show some (ds.getD i 0) = some d;rw [TC, hdd]
   rfl
  ·exact OA
 refine zV hv (fun i => ds.getD i 0) hDD (by rw [hDm]; exact hN) hNT (ls.map PX.ts) 0 p.ts (fun i q hq => ?_) fun t ht i hi => ?_
 ·rw [St] at hq;obtain ⟨g, hg, rfl⟩ := TH.1 hq;rw [SM];exact (hls i g hg).2
 ·rw [Sx] at hi;rw [SM];obtain ⟨d, hdd⟩ := av (l := ds) (k := i) Sd;rw [TC, hdd];exact (hd i d hdd).2 t ht
theorem GO {p : PX} {ns : List Nat} (h : m8 p b ns) (hb : ∀ z ∈ b, z.fin k) (hk : k ≤ 1000) (hN : ar (cZ p.v p.ts) ≤ N) (hNT : N * 2 + N ≤ 4096) : (df p (bj b)).1 = 0 := by
 have hl := h.l5;have hpos := h.pos;have hln := iK b;obtain ⟨_, o2, o3⟩ := jl h.e;have hol := h.j4;refine (Fu (v := b.length) (ds := cZ p.v p.ts) (T := 2) hl h.e (by rw [hln]; exact h.v) Sd hol hln (fun i g hg => ?_) (fun i d hd => ⟨(o3 i d hd).1, (o3 i d hd).2.1⟩) hN hNT).1;obtain ⟨z, hz⟩ := av (l := b) (k := i) (by have := (SC.1 hg).1; rwa [hln] at this);rw [fw hz] at hg;obtain ⟨a1, a2⟩ := kV (v := b.length) (i := i) hl (hb z (Sp hz)) Sd;have hx := p6 b.length i z;rw [← Tc hg];exact ⟨rfl, a1.e, a2, hx⟩
end Go.Proofs.YteeckcbbnegmcaaGreatDoor
