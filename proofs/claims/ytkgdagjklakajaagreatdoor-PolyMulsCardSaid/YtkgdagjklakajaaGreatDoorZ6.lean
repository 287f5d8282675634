/- The row and the card of PolyMuls. -/
import Derived.Test.YtkgdagjklakajaaGreatDoorCards
import Derived.Test.YtkgdagjklakajaaGreatDoorTie
import Derived.SevenTiedAt
import Derived.Test.YtkgdagjklakajaaGreatDoorZ5
/- The walks through ogeeref08.Like and Times. -/
namespace Go.Proofs.YtkgdagjklakajaaGreatDoor
open Go.RowKit
theorem q6 (g : PX) (k : Nat) (w : World) (h : g.at_ w) (hl : g.mw k) :
  Calls Tryz.prog 22 #[.agg #[.int .i64 g.v, .slice g.A g.n g.c]] w fun r w' => r = .returned (.int .i64 g.e) ∧ Below w.heap.size w w' :=
 oa g.v g.A g.n g.c g.ts w h hl.n fun t ht => ⟨(hl.ok t ht).1, hl.sz t ht⟩
theorem pO (L : Option Addr) (n c : Nat) (ps : List PX) (k : Nat) (w : World) (hL : Sl w L n 2 (a5 PX.cells ps)) (hn : n ≤ 1000000) (hf : ∀ g ∈ ps, g.at_ w) (hl : ∀ g ∈ ps, g.mw k) :
  Calls Tryz.prog 105 #[.slice L n c] w fun r w' => r = .returned (.int .i64 (fV ps)) ∧ Below w.heap.size w w' := by
 have hh := Hp.start w
 have hln := hL.bX PX.len (by decide)
 refine ak (N := 39) (l := [.slice L n c]) Tryz.func105 rfl rfl (by simp) ?_
 refine sr (aI (ah (ai (sr (aI (ah (ao ?_)))))))
 refine bp [2, 3, 4, 6, 7, 8, 9, 10, 11, 12, 13, 14, 15, 16, 17, 18, 19] 3
  (fun v w' => ∃ i : Nat, i ≤ n ∧ v = .int .i64 i ∧ (ps.take i).any (fun g => decide (g.e ≠ 0)) = false ∧ Hp w [] w')
  (fun v _ => n - (intOf v).toNat) ?_ ?_
 ·exact ⟨0, Nat.zero_le _, rfl, rfl, hh⟩
 ·clear hh
  rintro ρ' v w' ⟨i, hi, rfl, hall, hh⟩
  by_cases hlt : i < n
  ·obtain ⟨g, hx⟩ := aD (l := ps) (k := i) (by omega)
   have hmem := List.mem_of_getElem? hx
   have hc := fun w1 hb => q6 g k w1 ((hf g hmem).ext hb) (hl g hmem)
   obtain ⟨ad, rfl, hr⟩ := hL.at_ (by omega)
   by_cases he : g.e = 0
   ·refine ai (sr (mI (mL (aW ?_))))
    refine aN (ah (cT (al (aj (ai (ao (sr (mL (mI ?_)))))))))
    refine aV (k := i) aF.out aC.size rfl rfl (by omega) (by omega) (by decide) ?_
    refine bK (vs := [_, _]) aC.out rfl ((hr.ext hh.below).recAt PX.len hx) rfl (by decide) ?_
    refine bz hh (hc _ hh.below) rfl ?_
    intro w16 hh
    refine aI (ah (sr (mI ?_)))
    refine dQ (ah (cF (al (aY (aj (aq (mI ?_)))))))
    refine bF (aI (aE (aj ?_)))
    refine ⟨⟨i + 1, by omega, rfl, by rw [aM hx, List.any_append, hall, List.any_cons, List.any_nil, decide_eq_false (by omega)]; rfl, hh⟩, by show n - (i + 1) < n - i; omega, ?_⟩
    (repeat (first | exact ax _ _ _ | refine az rfl ?_ | refine aw rfl ?_))
   ·refine ai (sr (mI (mL (aW ?_))))
    refine aN (ah (cT (al (aj (ai (ao (sr (mL (mI ?_)))))))))
    refine aV (k := i) aF.out aC.size rfl rfl (by omega) (by omega) (by decide) ?_
    refine bK (vs := [_, _]) aC.out rfl ((hr.ext hh.below).recAt PX.len hx) rfl (by decide) ?_
    refine bz hh (hc _ hh.below) rfl ?_
    intro w16 hh
    refine aI (ah (sr (mI ?_)))
    refine dQ (ah (cT (sr (mI (aI (ah (an (bA (aA (aA (bA ?_)))))))))))
    refine aA ?_
    refine cb ?_
    refine ⟨?_, hh.below⟩
    unfold fV
    rw [oN hall hx (decide_eq_true he)]
  ·rw [List.take_of_length_le (by omega)] at hall
   have hlk : fV ps = if ps.length = 0 ∨ qm ps = true then 1 else 0 := by unfold fV; rw [gJ hall]
   rw [hlk]
   clear hall
   refine ai (sr (mI (mL (aW ?_))))
   refine aN (ah (cF ?_))
   refine aU ?_
   refine ay (ay (a7 (aj (ai (sr (aI (ah (ao ?_))))))))
   refine bp [2, 5, 20, 21, 22, 23, 24, 25, 26, 27, 28, 29, 30, 31, 32, 33, 34, 35] 5
    (fun v w' => ∃ i : Nat, i ≤ n ∧ v = .int .i64 i ∧ (ps.take i).any (fun g => decide (g.v ≠ (ps.map PX.v).headD 0)) = false ∧ Hp w [] w')
    (fun v _ => n - (intOf v).toNat) ?_ ?_
   ·exact ⟨0, Nat.zero_le _, rfl, rfl, hh⟩
   ·clear hh
    rintro ρ2 v w2 ⟨j, hj, rfl, hall, hh⟩
    by_cases hlt2 : j < n
    ·obtain ⟨go, hx⟩ := aD (l := ps) (k := j) (by omega)
     obtain ⟨g0, h00⟩ := aD (l := ps) (k := 0) (by omega)
     obtain ⟨ad, rfl, hr⟩ := hL.at_ (by omega)
     have hhd : (ps.map PX.v).headD 0 = g0.v := by
      rcases ps with _ | ⟨g, l⟩
      ·cases h00
      ·have : g = g0 := by simpa using h00
       rw [← this]; rfl
     by_cases ho : go.v = g0.v
     ·refine ai (sr (mI (mL (aW ?_))))
      refine aN (ah (cT (al (aj (ai (ao (ai ?_)))))))
      refine aR 9 [[(0, none)], [(5, none)], [(26, some 0), (27, some 1)], [(28, some 2)], [(29, some 3)], [(0, none)], [(31, some 5)], [(32, some 6)], [(33, some 7)]] [(8, 34), (7, 33), (6, 32), (5, 31), (4, 30), (3, 29), (2, 28), (1, 27), (0, 26)] hh mixed (by kernel_rfl) ?_
      refine fp ?_
      refine dH ?_
      refine hG (j) ?_
      refine kI ?_
      refine hH (fun _ hj => cD hj.hp.below ((hr.recAt PX.len hx) 0 _ rfl)) ?_
      refine fp ?_
      refine hG (0) ?_
      refine kI ?_
      refine hH (fun _ hj => cD hj.hp.below ((hr.recAt PX.len h00) 0 _ rfl)) ?_
      refine a0 ?_
      intro f W hJ hV
      have hb_10 := hJ.bl
      obtain ⟨v34, v33, v32, v31, v30, v29, v28, v27, v26, _⟩ := hV
      replace hh := hJ.hp
      refine aO (a4 (aa v34 (aa v33 (aa v32 (aa v31 (aa v30 (aa v29 (aa v28 (aa v27 (aa v26 aQ)))))))))) ?_
      dsimp only [bU]
      clear hJ
      refine dQ (ah (cF (al (aY (aj (aq (mI ?_)))))))
      refine bF (aI (aE (aj ?_)))
      refine ⟨⟨j + 1, by omega, rfl, by rw [aM hx, List.any_append, hall, List.any_cons, List.any_nil, decide_eq_false (by omega)]; rfl, hh⟩, by show n - (j + 1) < n - j; omega, ?_⟩
      (repeat (first | exact ax _ _ _ | refine az rfl ?_ | refine aw rfl ?_))
     ·refine ai (sr (mI (mL (aW ?_))))
      refine aN (ah (cT (al (aj (ai (ao (ai ?_)))))))
      refine aR 9 [[(0, none)], [(5, none)], [(26, some 0), (27, some 1)], [(28, some 2)], [(29, some 3)], [(0, none)], [(31, some 5)], [(32, some 6)], [(33, some 7)]] [(8, 34), (7, 33), (6, 32), (5, 31), (4, 30), (3, 29), (2, 28), (1, 27), (0, 26)] hh mixed (by kernel_rfl) ?_
      refine fp ?_
      refine dH ?_
      refine hG (j) ?_
      refine kI ?_
      refine hH (fun _ hj => cD hj.hp.below ((hr.recAt PX.len hx) 0 _ rfl)) ?_
      refine fp ?_
      refine hG (0) ?_
      refine kI ?_
      refine hH (fun _ hj => cD hj.hp.below ((hr.recAt PX.len h00) 0 _ rfl)) ?_
      refine a0 ?_
      intro f W hJ hV
      have hb_10 := hJ.bl
      obtain ⟨v34, v33, v32, v31, v30, v29, v28, v27, v26, _⟩ := hV
      replace hh := hJ.hp
      refine aO (a4 (aa v34 (aa v33 (aa v32 (aa v31 (aa v30 (aa v29 (aa v28 (aa v27 (aa v26 aQ)))))))))) ?_
      dsimp only [bU]
      clear hJ
      refine dQ (ah (cT (sr (aI (ah (an (bA (aA (aA (bA (aA ?_)))))))))))
      refine cb ?_
      exact ⟨by rw [if_pos (.inr (List.any_eq_true.2 ⟨go, List.mem_of_getElem? hx, decide_eq_true (by omega)⟩))], hh.below⟩
    ·rw [List.take_of_length_le (by omega)] at hall
     have hod : qm ps = false := hall
     by_cases h0 : n = 0
     ·refine ai (sr (mI (mL (aW ?_))))
      refine aN (ah (cF ?_))
      refine aU ?_
      refine ay (ay (a7 (aj (ai (sr (mL (aW ?_)))))))
      refine dv (ah (cT (sr (aI (ah (an (aA ?_)))))))
      refine cb ?_
      exact ⟨by rw [if_pos (.inl (by omega))], hh.below⟩
     ·refine ai (sr (mI (mL (aW ?_))))
      refine aN (ah (cF ?_))
      refine aU ?_
      refine ay (ay (a7 (aj (ai (sr (mL (aW ?_)))))))
      refine dv (ah (cF (al (aj (sr (aI (ah (an ?_))))))))
      refine cb ?_
      refine ⟨?_, hh.below⟩
      rw [if_neg]
      rintro (h | h)
      ·omega
      ·rw [hod] at h
       cases h
theorem kg (p q : PX) (k k2 : Nat) (w : World) (hp : p.at_ w) (hq : q.at_ w) (lp : p.mw k) (lq : q.mw k2) (hk : k + k2 ≤ 900000) :
  Calls Tryz.prog 106 #[.agg #[.int .i64 p.v, .slice p.A p.n p.c], .agg #[.int .i64 q.v, .slice q.A q.n q.c]] w fun r w' => ∃ g : PX, cV (eU p.ts q.ts) p.v (bg (cM p.ts q.ts)) g ∧ r = .returned (.tuple #[.agg #[.int .i64 g.v, .slice g.A g.n g.c], .int .i64 (eU p.ts q.ts)]) ∧ Hp w [g.row] w' := by
 have hh := Hp.start w
 obtain ⟨pv, pA, pn, pc, ps⟩ := p
 obtain ⟨qv, qA, qn, qc, qs⟩ := q
 have hpl : ps.length = pn := hp.ln
 have hql : qs.length = qn := hq.ln
 have hpn : pn ≤ 1000000 := lp.n
 have hqn : qn ≤ 1000000 := lq.n
 have okp : iS k ps := lp.ok
 have okq : iS k2 qs := lq.ok
 have szp : ∀ t ∈ ps, t.m.size ≤ 100000 := lp.sz
 have szq : ∀ t ∈ qs, t.m.size ≤ 100000 := lq.sz
 replace hp : Sl w pA pn 4 (a5 TR.cells ps) := hp
 replace hq : Sl w qA qn 4 (a5 TR.cells qs) := hq
 clear lp lq
 show Calls _ _ _ _ fun r w' => ∃ g : PX, cV (eU ps qs) pv (bg (cM ps qs)) g ∧ r = .returned (.tuple #[.agg #[.int .i64 g.v, .slice g.A g.n g.c], .int .i64 (eU ps qs)]) ∧ Hp w [g.row] w'
 have hmm : pn * qn ≤ 1000000 * 1000000 := Nat.mul_le_mul hpn hqn
 obtain ⟨m, hm⟩ : ∃ m, m = pn * qn := ⟨_, rfl⟩
 have hmi : (pn : Int) * (qn : Int) = (m : Int) := by rw [hm]; exact (Int.natCast_mul _ _).symm
 by_cases h6 : 65536 < m
 ·rw [qP (by rw [hpl, hql, ← hm]; exact h6)]
  refine ak (N := 78) (l := [.agg #[.int .i64 pv, .slice pA pn pc], .agg #[.int .i64 qv, .slice qA qn qc]]) Tryz.func106 rfl rfl (by simp) ?_
  refine sr ?_
  refine cN hh [_,_] ?_
  intro b2 w2 hh
  refine cN hh [_,_] ?_
  intro b3 w3 hh
  refine cm hh ?_
  intro b4 w4 hh
  refine aI (ah (ai (sr (bI ?_))))
  refine bL hh 2 ?_
  refine aW (bI ?_)
  refine bL hh 1 ?_
  refine aW ?_
  refine mulC ?_
  refine bO (ah (cT (sr ?_)))
  refine eh [_,_] ?_
  refine bE hh 0 [_,_] ?_
  intro ws hh
  replace hh : Hp _ (.blk _ _ [_, _] _ :: _) _ := hh
  refine aI (ah (an (aA ?_)))
  refine iL (aH rfl (aK (vs := [_, _]) aC.out (hh.au (i := 0) (n := 2) rfl rfl) rfl) (bZ (cv rfl) a6)) ?_
  exact ⟨PX.nil, cV.err (by decide), rfl, (hh.sub (List.nil_sublist _)).gd⟩
 ·have hbig : ¬ 65536 < ps.length * qs.length := by rw [hpl, hql, ← hm]; exact h6
  refine ak (N := 78) (l := [.agg #[.int .i64 pv, .slice pA pn pc], .agg #[.int .i64 qv, .slice qA qn qc]]) Tryz.func106 rfl rfl (by simp) ?_
  refine sr ?_
  refine cN hh [_,_] ?_
  intro b2 w2 hh
  refine cN hh [_,_] ?_
  intro b3 w3 hh
  refine cm hh ?_
  intro b4 w4 hh
  refine aI (ah (ai (sr (bI ?_))))
  refine bL hh 2 ?_
  refine aW (bI ?_)
  refine bL hh 1 ?_
  refine aW ?_
  refine mulC ?_
  refine bO (ah (cF (al (aj (sr (aL (ah (ai (sr (aI (ah ?_)))))))))))
  refine ao ?_
  replace hh := hh.dY 58 4
  have hall : ∀ i, ((ps.take i).flatMap fun x => qs.map (kt x)).length ≤ 65536 := fun i => by
   have h1 : (cM ps qs).length = ((ps.take i).flatMap fun x => qs.map (kt x)).length + ((ps.drop i).flatMap fun x => qs.map (kt x)).length := by
    unfold cM
    rw [← List.length_append, ← List.flatMap_append, List.take_append_drop]
   rw [jX] at h1
   omega
  refine cd [5, 6, 7, 8, 9, 10, 20, 21, 22, 23, 24, 25, 26, 27, 28, 29, 30, 31, 32, 33, 34, 35, 36, 37, 38, 39, 40, 41, 42, 43, 44, 45, 46, 47, 48, 49, 50, 51, 52, 53, 54, 55, 56, 57, 58, 59, 60, 61, 62, 63, 64, 65, 66, 67, 68, 69, 70, 71] 6 7
   (fun a x w' => ∃ (i : Nat) (M : List TR) (A' : Option Addr) (c' : Nat), i ≤ pn ∧ x = .int .i64 i ∧ a = .slice A' M.length c' ∧ M = ((ps.take i).flatMap fun x => qs.map (kt x)) ∧ (∀ e ∈ ((ps.take i).flatMap fun x => qs.map fun y => jg x.m y.m), e = 0) ∧ Hp w [.row A' M.length c' 58 4 (a5 TR.cells M), .blk b4 31 [.int .i64 0, .slice none 0 0] (0, 0), .blk b3 31 [.int .i64 qv, .slice qA qn qc] (0, 0), .blk b2 31 [.int .i64 pv, .slice pA pn pc] (0, 0)] w')
   (fun _ x _ => pn - (intOf x).toNat) ?_ ?_
  ·exact ⟨0, [], none, 0, Nat.zero_le _, rfl, rfl, rfl, fun e he => (nomatch he), hh⟩
  ·clear hh
   rintro ρ' a_ x_ w' ⟨i, M, A', c', hi, rfl, rfl, hM, hz, hh⟩
   have hMl := hall i
   rw [← hM] at hMl
   by_cases hlt : i < pn
   ·obtain ⟨x, hx⟩ := aD (l := ps) (k := i) (by omega)
    obtain ⟨ad, rfl, hr⟩ := hp.at_ (by omega)
    have hxm := List.mem_of_getElem? hx
    have hxo := okp x hxm
    have hxs := szp x hxm
    refine ai (sr (mI (bI ?_)))
    refine bL hh 3 ?_
    refine aW ?_
    refine aN (ah (cT (al (aj (ai (ao (sr (aI (ah (ao ?_))))))))))
    refine cd [5, 6, 8, 9, 10, 27, 28, 29, 30, 31, 32, 33, 34, 35, 36, 37, 38, 39, 40, 41, 42, 43, 44, 45, 46, 47, 48, 49, 50, 51, 52, 53, 54, 55, 56, 57, 58, 59, 60, 61, 62, 63, 64, 65, 66, 67, 68, 69, 70, 71] 6 8
     (fun a z w' => ∃ (j : Nat) (N : List TR) (A' : Option Addr) (c' : Nat), j ≤ qn ∧ z = .int .i64 j ∧ a = .slice A' N.length c' ∧ N = M ++ (qs.take j).map (kt x) ∧ (∀ e ∈ (qs.take j).map (fun y => jg x.m y.m), e = 0) ∧ Hp w [.row A' N.length c' 58 4 (a5 TR.cells N), .blk b4 31 [.int .i64 0, .slice none 0 0] (0, 0), .blk b3 31 [.int .i64 qv, .slice qA qn qc] (0, 0), .blk b2 31 [.int .i64 pv, .slice (some ad) pn pc] (0, 0)] w')
     (fun _ z _ => qn - (intOf z).toNat) ?_ ?_
    ·exact ⟨0, M, A', c', Nat.zero_le _, rfl, rfl, by simp, fun e he => (nomatch he), hh⟩
    ·clear hh
     rintro ρ2 a2 x2 w2 ⟨j, N, A2, c2, hj, rfl, rfl, hN, hz2, hh⟩
     by_cases hjn : j < qn
     ·obtain ⟨y, hy⟩ := aD (l := qs) (k := j) (by omega)
      obtain ⟨ad2, rfl, hr2⟩ := hq.at_ (by omega)
      have hym := List.mem_of_getElem? hy
      have hyo := okq y hym
      have hys := szq y hym
      have hmul : ∀ w1, Calls Tryz.prog 176 #[.string x.m, .string y.m] w1 fun r w' => r = .returned (.tuple #[.string (mulM x.m y.m), .int .i64 (jg x.m y.m)]) ∧ Below w1.heap.size w1 w' := fun w1 => sR x.m y.m w1 hxs hys
      have htm := fun w1 => pQ x.c y.c w1 (by have := hxo.1.1; omega) (by have := hyo.1.1; omega) (by have := hxo.1.2.1; omega) (by have := hxo.1.2.2; omega) (by have := hyo.1.2.1; omega) (by have := hyo.1.2.2; omega)
      obtain ⟨R, hR⟩ := nG (f := fun x y => jg x.m y.m) hx hy
      have hzz : ∀ e ∈ ((ps.take i).flatMap fun x => qs.map fun y => jg x.m y.m) ++ (qs.take j).map (fun y => jg x.m y.m), e = 0 := fun e he => by
       rcases List.mem_append.1 he with he | he
       ·exact hz e he
       ·exact hz2 e he
      have hNl : N.length < 65536 := by
       have h1 := hall (i + 1)
       rw [gK hx, List.length_append, ← hM] at h1
       rw [hN, List.length_append]
       simp at h1 ⊢
       omega
      by_cases he : jg x.m y.m = 0
      ·refine ai (sr (mI (bI ?_)))
       refine bL hh 2 ?_
       refine aW ?_
       refine aN (ah (cT (al (aj (ai (ao (ai ?_)))))))
       refine aR 17 [[(2, none)], [(35, some 0)], [(7, none)], [(36, some 1), (37, some 2)], [(38, some 3)], [(39, some 4)], [(3, none)], [(41, some 6)], [(8, none)], [(42, some 7), (43, some 8)], [(44, some 9)], [(45, some 10)], [(40, some 5), (46, some 11)], [(47, some 12)], [(34, some 13)], [(34, some 13)], [(48, some 14)]] [(16, 9), (15, 49), (14, 48), (13, 34), (12, 47), (11, 46), (10, 45), (9, 44), (8, 43), (7, 42), (6, 41), (5, 40), (4, 39), (3, 38), (2, 37), (1, 36), (0, 35)] hh mixed (by kernel_rfl) ?_
       refine cf ?_
       refine df 3 ?_
       refine dH ?_
       refine hG (i) ?_
       refine kI ?_
       refine hH (fun _ hj => ((hr.ext hj.hp.below).recAt TR.len hx).cell (i := 0) rfl) ?_
       refine cf ?_
       refine df 2 ?_
       refine dH ?_
       refine hG (j) ?_
       refine kI ?_
       refine hH (fun _ hj => ((hr2.ext hj.hp.below).recAt TR.len hy).cell (i := 0) rfl) ?_
       refine dC (fun _ hj => hmul _) ?_
       refine An ?_
       refine y3 ?_
       refine y3 ?_
       refine Au ?_
       refine a0 ?_
       intro f W hJ hV
       have hb_10 := hJ.bl
       obtain ⟨v9, v49, v48, v34, v47, v46, v45, v44, v43, v42, v41, v40, v39, v38, v37, v36, v35, _⟩ := hV
       replace hh := hJ.hp
       refine aO (a4 (aa v9 (aa v49 (aa v48 (aa v34 (aa v47 (aa v46 (aa v45 (aa v44 (aa v43 (aa v42 (aa v41 (aa v40 (aa v39 (aa v38 (aa v37 (aa v36 (aa v35 aQ)))))))))))))))))) ?_
       dsimp only [bU]
       clear hJ
       refine aI (ah (ai (sr (mI ?_))))
       refine dQ (ah (cF (al (aj ?_))))
       refine aR 17 [[(6, none)], [(9, none)], [(2, none)], [(56, some 2)], [(7, none)], [(57, some 3), (58, some 4)], [(59, some 5)], [(60, some 6)], [(3, none)], [(62, some 8)], [(8, none)], [(63, some 9), (64, some 10)], [(65, some 11)], [(66, some 12)], [(61, some 7), (67, some 13)], [(55, some 1), (68, some 14)], [(69, some 15)]] [(16, 70), (15, 69), (14, 68), (13, 67), (12, 66), (11, 65), (10, 64), (9, 63), (8, 62), (7, 61), (6, 60), (5, 59), (4, 58), (3, 57), (2, 56), (1, 55), (0, 54)] hh mixed (by kernel_rfl) ?_
       refine fp ?_
       refine z7 ?_
       refine cf ?_
       refine df 3 ?_
       refine dH ?_
       refine hG (i) ?_
       refine kI ?_
       refine sf [_,_,_] (fun _ hj => ((hr.ext hj.hp.below).recAt TR.len hx).drop 1) ?_
       refine cf ?_
       refine df 2 ?_
       refine dH ?_
       refine hG (j) ?_
       refine kI ?_
       refine sf [_,_,_] (fun _ hj => ((hr2.ext hj.hp.below).recAt TR.len hy).drop 1) ?_
       refine dC (fun _ hj => htm _) ?_
       refine dB [_,_,_,_] ?_
       refine vp [_,_,_,_] ?_
       refine a0 ?_
       intro f W hJ hV
       have hb_13 := hJ.bl
       obtain ⟨v70, v69, v68, v67, v66, v65, v64, v63, v62, v61, v60, v59, v58, v57, v56, v55, v54, _⟩ := hV
       obtain ⟨A70, c70, e70, f70⟩ : Rows _ _ _ (f 16) W := v70
       replace hh := hJ.hp
       refine aO (a4 (aa e70 (aa v69 (aa v68 (aa v67 (aa v66 (aa v65 (aa v64 (aa v63 (aa v62 (aa v61 (aa v60 (aa v59 (aa v58 (aa v57 (aa v56 (aa v55 (aa v54 aQ)))))))))))))))))) ?_
       dsimp only [bU]
       clear e70 hJ
       refine bQ hh (i := 0) rfl rfl rfl (f70) aF.out aC.out rfl (by decide) (by first | rfl | exact ck _ | exact bW _ | exact oneCells_i64s _ | exact bm NR.one _) (by omega) (by omega) (by decide) ?_
       intro A71 c71 w71 hh
       simp only [List.set_cons_zero] at hh
       refine aL (aE (aY (aj (aq (mI ?_)))))
       refine bF (aI (aE (aj ?_)))
       have e1 : a5 TR.cells N ++ [.string (mulM x.m y.m), .bool (nR (x.c.d * y.c.d)).neg, .string (nR (x.c.d * y.c.d)).bT, .int .i64 (nR (x.c.d * y.c.d)).e] = a5 TR.cells (N ++ [kt x y]) := by rw [cg, lr]; rfl
       rw [e1] at hh
       refine ⟨⟨j + 1, N ++ [kt x y], _, _, by omega, rfl, by rw [List.length_append]; rfl, by rw [hN, aM hy, List.map_append, List.append_assoc]; rfl, fun e h => ?_, ?_⟩, by show qn - (j + 1) < qn - j; omega, ?_⟩
       ·rw [aM hy, List.map_append, List.mem_append] at h
        rcases h with h | h
        ·exact hz2 e h
        ·rw [List.mem_singleton.1 h]; exact he
       ·rw [List.length_append]; exact hh
       ·(repeat (first | exact ax _ _ _ | refine az rfl ?_ | refine aw rfl ?_))
      ·rw [tU hbig hR hzz he]
       generalize jg x.m y.m = e at *
       refine ai (sr (mI (bI ?_)))
       refine bL hh 2 ?_
       refine aW ?_
       refine aN (ah (cT (al (aj (ai (ao (ai ?_)))))))
       refine aR 17 [[(2, none)], [(35, some 0)], [(7, none)], [(36, some 1), (37, some 2)], [(38, some 3)], [(39, some 4)], [(3, none)], [(41, some 6)], [(8, none)], [(42, some 7), (43, some 8)], [(44, some 9)], [(45, some 10)], [(40, some 5), (46, some 11)], [(47, some 12)], [(34, some 13)], [(34, some 13)], [(48, some 14)]] [(16, 9), (15, 49), (14, 48), (13, 34), (12, 47), (11, 46), (10, 45), (9, 44), (8, 43), (7, 42), (6, 41), (5, 40), (4, 39), (3, 38), (2, 37), (1, 36), (0, 35)] hh mixed (by kernel_rfl) ?_
       refine cf ?_
       refine df 3 ?_
       refine dH ?_
       refine hG (i) ?_
       refine kI ?_
       refine hH (fun _ hj => ((hr.ext hj.hp.below).recAt TR.len hx).cell (i := 0) rfl) ?_
       refine cf ?_
       refine df 2 ?_
       refine dH ?_
       refine hG (j) ?_
       refine kI ?_
       refine hH (fun _ hj => ((hr2.ext hj.hp.below).recAt TR.len hy).cell (i := 0) rfl) ?_
       refine dC (fun _ hj => hmul _) ?_
       refine An ?_
       refine y3 ?_
       refine y3 ?_
       refine Au ?_
       refine a0 ?_
       intro f W hJ hV
       have hb_10 := hJ.bl
       obtain ⟨v9, v49, v48, v34, v47, v46, v45, v44, v43, v42, v41, v40, v39, v38, v37, v36, v35, _⟩ := hV
       replace hh := hJ.hp
       refine aO (a4 (aa v9 (aa v49 (aa v48 (aa v34 (aa v47 (aa v46 (aa v45 (aa v44 (aa v43 (aa v42 (aa v41 (aa v40 (aa v39 (aa v38 (aa v37 (aa v36 (aa v35 aQ)))))))))))))))))) ?_
       dsimp only [bU]
       clear hJ
       refine aI (ah (ai (sr (mI ?_))))
       refine dQ (ah (cT (sr ?_)))
       refine eh [_,_] (mI ?_)
       refine bE hh 1 [_,_] ?_
       intro ws hh
       replace hh : Hp _ (_ :: .blk _ _ [_, _] _ :: _) _ := hh
       refine aI (ah (an (aA (bA (aA (aA (bA (bA (aA (aA (bA ?_)))))))))))
       refine aA ?_
       refine iL (aH rfl (aK (vs := [_, _]) aC.out (hh.au (i := 1) (n := 2) rfl rfl) rfl) (bZ (cv rfl) a6)) ?_
       exact ⟨PX.nil, cV.err he, rfl, (hh.sub (List.nil_sublist _)).gd⟩
     ·obtain rfl : j = qn := by omega
      rw [List.take_of_length_le (by omega)] at hz2 hN
      refine ai (sr (mI (bI ?_)))
      refine bL hh 2 ?_
      refine aW ?_
      refine aN (ah (cF ?_))
      refine aU ?_
      refine ay (ay (a7 (aY (aj (aq (mI ?_))))))
      refine bF (aI (aE (aj ?_)))
      refine ⟨⟨i + 1, N, A2, c2, by omega, rfl, rfl, by rw [gK hx, ← hM, List.take_of_length_le (by omega)]; exact hN, fun e h => ?_, hh⟩, by show pn - (i + 1) < pn - i; omega, ?_⟩
      ·rw [gK (f := fun (x y : TR) => jg x.m y.m) hx, List.mem_append, List.take_length] at h
       rcases h with h | h
       ·exact hz e h
       ·exact hz2 e h
      ·(repeat (first | exact ax _ _ _ | refine az rfl ?_ | refine aw rfl ?_))
   ·obtain rfl : i = pn := by omega
    rw [List.take_of_length_le (by omega)] at hz hM
    have hMp : M = cM ps qs := hM
    rw [m0 hbig hz, ← hMp]
    have hpo := nx okp okq (by omega)
    rw [← hMp] at hpo
    refine ai (sr (mI (bI ?_)))
    refine bL hh 3 ?_
    refine aW ?_
    refine aN (ah (cF ?_))
    refine aU ?_
    refine ay (ay (a7 (aj (sr (bI ?_)))))
    refine bL hh 3 ?_
    refine mL ?_
    refine aP (ko pv A' M.length c' M (k + k2) _ (hh.aJ (i := 0) rfl) (by omega) hpo (by omega)) ar.out rfl (by decide) ?_
    rintro e_ w75 ⟨g, og, rfl, h3⟩
    refine ⟨_, rfl, ?_⟩
    replace hh := hh.join h3
    simp only [List.cons_append, List.nil_append] at hh
    refine dJ ?_
    refine dJ ?_
    refine bE hh 2 [_,_] ?_
    intro ws hh
    replace hh : Hp _ (_ :: _ :: .blk _ _ [_, _] _ :: _) _ := hh
    refine aI (ah (an ?_))
    refine iL (aH rfl (aK (vs := [_, _]) aC.out (hh.au (i := 2) (n := 2) rfl rfl) rfl) (bZ (cv rfl) a6)) ?_
    exact ⟨g, og, rfl, hh.sub (List.Sublist.cons_cons _ (List.nil_sublist _))⟩
end Go.Proofs.YtkgdagjklakajaaGreatDoor
/- The walks through poly.Const and poly.Var. -/
namespace Go.Proofs.YtkgdagjklakajaaGreatDoor
open Go.RowKit
def dK (v : Int) : ByteArray := ⟨(List.replicate v.toNat 0).toArray⟩
theorem jc {v : Int} (h : 0 ≤ v) : ((dK v).size : Int) = v := by
 have : (dK v).size = v.toNat := by unfold dK; show (List.replicate v.toNat (0 : UInt8)).toArray.size = _; rw [List.size_toArray, List.length_replicate]
 omega
theorem vA (v : Int) : eE (dK v).data.toList = true := by
 unfold eE dK
 rw [List.all_eq_true]
 intro c hc
 have : (⟨(List.replicate v.toNat (0 : UInt8)).toArray⟩ : ByteArray).data.toList = List.replicate v.toNat 0 := rfl
 rw [this] at hc
 rw [(List.mem_replicate.1 hc).2]
 decide
theorem rp {l : List TR} (h : l.length ≤ 4096) : hF l = 0 := by
 unfold hF
 have := fZ l
 rw [if_neg (by omega)]
theorem sa {v : Int} {t : TR} (hf : gm v = true) (h : kv v t = true) : kW v [t] = 0 := by
 unfold kW
 rw [if_neg (by rw [hf]; simp [h]), if_neg (by simp), rp (by simp)]
def j9 (v : Int) : Int := if gm v = false then 1 else 0
theorem kK (v : Int) (c : NR) (k : Nat) (w : World) (hT : g9 w) (hc : c.ok ∧ Sz k c.d) (hk : k ≤ 2999980) :
  Calls Tryz.prog 26 #[.int .i64 v, .agg #[.bool c.neg, .string c.bT, .int .i64 c.e]] w fun r w' => ∃ g : PX, cV (j9 v) v (bg [⟨dK v, c⟩]) g ∧ r = .returned (.tuple #[.agg #[.int .i64 g.v, .slice g.A g.n g.c], .int .i64 (j9 v)]) ∧ Hp w [g.row] w' := by
 have hh := Hp.start w
 have hfw := fun w1 => j7 v w1
 cases hf : gm v with
 | false =>
  rw [hf] at hfw
  rw [show j9 v = 1 by unfold j9; rw [if_pos hf]]
  refine ak (N := 20) (l := [.int .i64 v, .agg #[.bool c.neg, .string c.bT, .int .i64 c.e]]) Tryz.func26 rfl rfl (by simp) ?_
  refine sr ?_
  refine cN hh [_,_,_] ?_
  intro b3 w3 hh
  refine cm hh ?_
  intro b4 w4 hh
  refine aI (ah (ai (sr (mI ?_))))
  refine bz hh (hfw _) rfl ?_
  intro w7 hh
  refine eF ?_
  refine ah (cT (sr ?_))
  refine eh [_,_] ?_
  refine bE hh 0 [_,_] ?_
  intro ws hh
  replace hh : Hp _ (.blk _ _ [_, _] _ :: _) _ := hh
  refine aI (ah (an (aA ?_)))
  refine iL (aH rfl (aK (vs := [_, _]) aC.out (hh.au (i := 0) (n := 2) rfl rfl) rfl) (bZ (cv rfl) a6)) ?_
  exact ⟨PX.nil, cV.err (by decide), rfl, (hh.sub (List.nil_sublist _)).gd⟩
 | true =>
  rw [hf] at hfw
  obtain ⟨h0, h12⟩ := fI.1 hf
  have hm : kW v [⟨dK v, c⟩] = 0 := sa hf (by unfold kv; rw [vA, decide_eq_true (jc h0)]; rfl)
  have hmk := fun A cc w1 hT1 hS1 => jD v A 1 cc [⟨dK v, c⟩] k w1 hT1 hS1 (by decide) (by omega) (fun t ht => by rw [List.mem_singleton.1 ht]; exact hc) (fun t ht => by rw [List.mem_singleton.1 ht]; have := jc h0; show (dK v).size ≤ _; omega)
  rw [hm] at hmk
  rw [show j9 v = 0 by unfold j9; rw [if_neg (by rw [hf]; decide)]]
  refine ak (N := 20) (l := [.int .i64 v, .agg #[.bool c.neg, .string c.bT, .int .i64 c.e]]) Tryz.func26 rfl rfl (by simp) ?_
  refine sr ?_
  refine cN hh [_,_,_] ?_
  intro b3 w3 hh
  refine cm hh ?_
  intro b4 w4 hh
  refine aI (ah (ai (sr (mI ?_))))
  refine bz hh (hfw _) rfl ?_
  intro w7 hh
  refine eF ?_
  refine ah (cF (al (aj (ai ?_))))
  refine iC [] [0, 0, 2, 6, 0, 30, 62, 127, 255, 255, 1023, 2047] 7 [[(0, none)], [(0, none)], [(11, some 1)], [(12, some 2)], [(3, none)], [(13, some 3), (14, some 4)], [(15, some 5)]] [(6, 16), (5, 15), (4, 14), (3, 13), (2, 12), (1, 11), (0, 10)] [([], 4, [(6, 16), (5, 15), (4, 14), (3, 13), (2, 12), (1, 11), (0, 10)])] hh mixed (by kernel_rfl) (by kernel_rfl) (by decide) ?_
  refine dH ?_
  refine dH ?_
  refine bP (i := 2) (iq v.toNat 1 (jV (List.replicate v.toNat 0))) (iq.ext) ?_ ?_
  ·intro ρ1 w1 hj hR
   exact kA v.toNat ▸ tQ (n := v.toNat) (show ρ1 11 = Value.int _ _ from hR.1) (show ρ1 11 = Value.int _ _ from hR.1) (by omega) (by omega) aF.out aC.out rfl (by omega) (by omega) (fun _ _ h1 h2 => ⟨h2, h1⟩)
  refine bP (i := 3) (Is (.string (dK v))) (Is.ext) ?_ ?_
  ·intro ρ1 w1 hj hR
   exact let ⟨g, e, o⟩ := hR.1; ep rfl (hQ (l := List.replicate v.toNat 0) aF.out aF.out aF.out e o) ⟨Below.refl _ _, rfl⟩
  refine eL 1 [_,_,_] ?_
  refine dB [_,_,_,_] ?_
  refine vp [_,_,_,_] ?_
  refine a0 ?_
  intro p_ hp_
  simp only [List.mem_cons, List.not_mem_nil, or_false] at hp_
  rcases hp_ with rfl
  intro f W hJ hV
  have hb_3 := hJ.bl
  obtain ⟨v16, v15, v14, v13, v12, v11, v10, _⟩ := hV
  simp only [iX]
  have e10 : f 0 = _ := v10
  rw [e10]
  have e11 : f 1 = _ := v11
  rw [e11]
  obtain ⟨g12, e12, o12⟩ : iq v.toNat 1 (jV (List.replicate v.toNat 0)) (f 2) W := v12
  rw [e12]
  have e13 : f 3 = _ := v13
  rw [e13]
  have e14 : f 4 = _ := v14
  rw [e14]
  have e15 : f 5 = _ := v15
  rw [e15]
  obtain ⟨A16, c16, e16, f16⟩ : Rows _ _ _ (f 6) W := v16
  rw [e16]
  replace hh := hJ.hp
  clear e10 e11 e12 e13 e14 e15 e16 hJ
  refine aP (hmk _ _ _ (hT.hp hh) f16) ar.out rfl (by decide) ?_; rintro e_ w17 ⟨g, og, rfl, h3⟩; refine ⟨_, rfl, ?_⟩; replace hh := hh.join h3
  refine cA ?_
  simp only [List.cons_append, List.nil_append] at hh
  refine cq (i := 8) (by repeat (first | exact bS | refine bB ?_ | refine bR ?_ | refine np_scope ?_)) rfl (by kernel_rfl) (by kernel_rfl) (by kernel_rfl) (fun _ => cR (show _ = Value.tuple (List.toArray _) from rfl) rfl) (by decide) ?_
  refine cq (i := 9) (by repeat (first | exact bS | refine bB ?_ | refine bR ?_ | refine np_scope ?_)) rfl (by kernel_rfl) (by kernel_rfl) (by kernel_rfl) (fun _ => cR (show _ = Value.tuple (List.toArray _) from rfl) rfl) (by decide) ?_
  refine dP 10 (by decide) (by kernel_rfl) (by decide) (by kernel_rfl) (by kernel_rfl) ?_
  refine bE hh 1 [_,_] ?_
  intro ws hh
  replace hh : Hp _ (_ :: .blk _ _ [_, _] _ :: _) _ := hh
  refine aI (ah (an ?_))
  refine iL (aH rfl (aK (vs := [_, _]) aC.out (hh.au (i := 1) (n := 2) rfl rfl) rfl) (bZ (cv rfl) a6)) ?_
  exact ⟨g, og, rfl, hh.sub (List.Sublist.cons_cons _ (List.nil_sublist _))⟩
def pZ (v : Int) (x : Nat) : ByteArray := ⟨((List.replicate v.toNat (0 : UInt8)).set x 1).toArray⟩
theorem pb {v : Int} {x : Nat} (h : 0 ≤ v) : ((pZ v x).size : Int) = v := by
 have : (pZ v x).size = v.toNat := by unfold pZ; show ((List.replicate v.toNat (0 : UInt8)).set x 1).toArray.size = _; rw [List.size_toArray, List.length_set, List.length_replicate]
 omega
theorem wB (v : Int) (x : Nat) : eE (pZ v x).data.toList = true := by
 unfold eE
 rw [List.all_eq_true]
 intro c hc
 have : (pZ v x).data.toList = (List.replicate v.toNat 0).set x 1 := rfl
 rw [this] at hc
 rcases List.mem_or_eq_of_mem_set hc with h | rfl
 ·rw [(List.mem_replicate.1 h).2]; decide
 ·decide
theorem vc {l : List UInt8} {i : Nat} {c : UInt8} (h : i < l.length) : ca (jV l) (i * 1) [.int .u8 c.toNat] = jV (l.set i c) := by
 unfold ca jV
 rw [Nat.mul_one, List.set_eq_take_append_cons_drop, if_pos h, List.map_append, List.map_cons, List.map_take, List.map_drop, List.append_assoc]
 rfl
def om (v x : Int) : Int := if gm v = false ∨ x < 0 ∨ v ≤ x then 1 else 0
theorem sv (v x : Int) (w : World) (hT : g9 w) :
  Calls Tryz.prog 28 #[.int .i64 v, .int .i64 x] w fun r w' => ∃ g : PX, cV (om v x) v (bg [⟨pZ v x.toNat, nR ((1 : Int) : Dyadic)⟩]) g ∧ r = .returned (.tuple #[.agg #[.int .i64 g.v, .slice g.A g.n g.c], .int .i64 (om v x)]) ∧ Hp w [g.row] w' := by
 have hh := Hp.start w
 have hfw := fun w1 => j7 v w1
 cases hf : gm v with
 | false =>
  rw [hf] at hfw
  rw [show om v x = 1 by unfold om; rw [if_pos (.inl hf)]]
  refine ak (N := 34) (l := [.int .i64 v, .int .i64 x]) Tryz.func28 rfl rfl (by simp) ?_
  refine sr ?_
  refine cm hh ?_
  intro b4 w4 hh
  refine aI (ah (ai (sr (mI ?_))))
  refine bz hh (hfw _) rfl ?_
  intro w8 hh
  refine eF ?_
  refine mB ?_
  first | refine gS ?_ | (refine gT ?_; refine mI ?_) | refine gV ?_
  first | refine gS ?_ | (refine gT ?_; refine aN ?_) | refine gV ?_
  first | refine cw ?_ | refine cx ?_
  refine mB ?_
  first | refine gS ?_ | (refine gT ?_; refine mI ?_) | refine gV ?_
  first | refine gS ?_ | (refine gT ?_; refine mI ?_) | refine gV ?_
  first | refine gS ?_ | (refine gT ?_; refine dw ?_) | refine gV ?_
  first | refine cw ?_ | refine cx ?_
  refine ah (cT (sr ?_))
  refine eh [_,_] ?_
  refine bE hh 0 [_,_] ?_
  intro ws hh
  replace hh : Hp _ (.blk _ _ [_, _] _ :: _) _ := hh
  refine aI (ah (an (aA ?_)))
  refine iL (aH rfl (aK (vs := [_, _]) aC.out (hh.au (i := 0) (n := 2) rfl rfl) rfl) (bZ (cv rfl) a6)) ?_
  exact ⟨PX.nil, cV.err (by decide), rfl, (hh.sub (List.nil_sublist _)).gd⟩
 | true =>
  rw [hf] at hfw
  obtain ⟨h0, h12⟩ := fI.1 hf
  by_cases hx0 : x < 0
  ·rw [show om v x = 1 by unfold om; rw [if_pos (.inr (.inl hx0))]]
   refine ak (N := 34) (l := [.int .i64 v, .int .i64 x]) Tryz.func28 rfl rfl (by simp) ?_
   refine sr ?_
   refine cm hh ?_
   intro b4 w4 hh
   refine aI (ah (ai (sr (mI ?_))))
   refine bz hh (hfw _) rfl ?_
   intro w8 hh
   refine eF ?_
   refine mB ?_
   first | refine gS ?_ | (refine gT ?_; refine mI ?_) | refine gV ?_
   first | refine gS ?_ | (refine gT ?_; refine aN ?_) | refine gV ?_
   first | refine cw ?_ | refine cx ?_
   refine mB ?_
   first | refine gS ?_ | (refine gT ?_; refine mI ?_) | refine gV ?_
   first | refine gS ?_ | (refine gT ?_; refine mI ?_) | refine gV ?_
   first | refine gS ?_ | (refine gT ?_; refine dw ?_) | refine gV ?_
   first | refine cw ?_ | refine cx ?_
   refine ah (cT (sr ?_))
   refine eh [_,_] ?_
   refine bE hh 0 [_,_] ?_
   intro ws hh
   replace hh : Hp _ (.blk _ _ [_, _] _ :: _) _ := hh
   refine aI (ah (an (aA ?_)))
   refine iL (aH rfl (aK (vs := [_, _]) aC.out (hh.au (i := 0) (n := 2) rfl rfl) rfl) (bZ (cv rfl) a6)) ?_
   exact ⟨PX.nil, cV.err (by decide), rfl, (hh.sub (List.nil_sublist _)).gd⟩
  ·by_cases hx1 : v ≤ x
   ·rw [show om v x = 1 by unfold om; rw [if_pos (.inr (.inr hx1))]]
    refine ak (N := 34) (l := [.int .i64 v, .int .i64 x]) Tryz.func28 rfl rfl (by simp) ?_
    refine sr ?_
    refine cm hh ?_
    intro b4 w4 hh
    refine aI (ah (ai (sr (mI ?_))))
    refine bz hh (hfw _) rfl ?_
    intro w8 hh
    refine eF ?_
    refine mB ?_
    first | refine gS ?_ | (refine gT ?_; refine mI ?_) | refine gV ?_
    first | refine gS ?_ | (refine gT ?_; refine aN ?_) | refine gV ?_
    first | refine cw ?_ | refine cx ?_
    refine mB ?_
    first | refine gS ?_ | (refine gT ?_; refine mI ?_) | refine gV ?_
    first | refine gS ?_ | (refine gT ?_; refine mI ?_) | refine gV ?_
    first | refine gS ?_ | (refine gT ?_; refine dw ?_) | refine gV ?_
    first | refine cw ?_ | refine cx ?_
    refine ah (cT (sr ?_))
    refine eh [_,_] ?_
    refine bE hh 0 [_,_] ?_
    intro ws hh
    replace hh : Hp _ (.blk _ _ [_, _] _ :: _) _ := hh
    refine aI (ah (an (aA ?_)))
    refine iL (aH rfl (aK (vs := [_, _]) aC.out (hh.au (i := 0) (n := 2) rfl rfl) rfl) (bZ (cv rfl) a6)) ?_
    exact ⟨PX.nil, cV.err (by decide), rfl, (hh.sub (List.nil_sublist _)).gd⟩
   ·rw [show om v x = 0 by unfold om; rw [if_neg (by rintro (h | h | h); exact absurd (hf.symm.trans h) (by decide); omega; omega)]]
    have hm : kW v [⟨pZ v x.toNat, nR ((1 : Int) : Dyadic)⟩] = 0 := sa hf (by unfold kv; rw [wB, decide_eq_true (pb h0)]; rfl)
    have z1 : Sz 24 ((1 : Int) : Dyadic) := vR (m := 1) (e := 0) (by decide) (by decide) (by decide)
    have hmk := fun A cc w1 hT1 hS1 => jD v A 1 cc [⟨pZ v x.toNat, nR ((1 : Int) : Dyadic)⟩] 24 w1 hT1 hS1 (by decide) (by omega) (fun t ht => by rw [List.mem_singleton.1 ht]; exact ⟨z1.ok (by decide), by show Sz 24 (nR _).d; rw [eQ]; exact z1⟩) (fun t ht => by rw [List.mem_singleton.1 ht]; have := pb (x := x.toNat) h0; show (pZ v x.toNat).size ≤ _; omega)
    rw [hm] at hmk
    refine ak (N := 34) (l := [.int .i64 v, .int .i64 x]) Tryz.func28 rfl rfl (by simp) ?_
    refine sr ?_
    refine cm hh ?_
    intro b4 w4 hh
    refine aI (ah (ai (sr (mI ?_))))
    refine bz hh (hfw _) rfl ?_
    intro w8 hh
    refine eF ?_
    refine mB ?_
    first | refine gS ?_ | (refine gT ?_; refine mI ?_) | refine gV ?_
    first | refine gS ?_ | (refine gT ?_; refine aN ?_) | refine gV ?_
    first | refine cw ?_ | refine cx ?_
    refine mB ?_
    first | refine gS ?_ | (refine gT ?_; refine mI ?_) | refine gV ?_
    first | refine gS ?_ | (refine gT ?_; refine mI ?_) | refine gV ?_
    first | refine gS ?_ | (refine gT ?_; refine dw ?_) | refine gV ?_
    first | refine cw ?_ | refine cx ?_
    refine ah (cF (al (aj (sr (mI ?_)))))
    refine fR (n := (v.toNat)) hh rfl rfl (by omega) (by omega) aF.out aC.out rfl (by omega) (by omega) (by decide) ?_
    intro b21 w21 hh
    refine aL (ah (sr (mL (mI ?_))))
    refine bj (k := (x.toNat)) aF.out aC.size rfl rfl (by omega) (by omega) (by decide) ?_
    rw [kA] at hh
    have hll : (jV (List.replicate v.toNat 0)).length = v.toNat := by simp [jV]
    refine bC hh (i := 0) (vs := [_]) rfl rfl (bM rfl) rfl aC.out rfl (by rw [hll]; omega) rfl ?_
    intro ws hh
    simp only [List.set_cons_zero] at hh
    rw [show ca (jV (List.replicate v.toNat 0)) (x.toNat * 1) [.int .u8 1] = jV ((List.replicate v.toNat 0).set x.toNat 1) from vc (l := List.replicate v.toNat 0) (i := x.toNat) (c := 1) (by rw [List.length_replicate]; omega)] at hh
    refine ah (ai ?_)
    refine iC [] [0, 0, 2, 0, 14, 30, 63, 127, 127, 511, 1023] 6 [[(0, none)], [(6, none)], [(26, some 1)], [], [(27, some 2), (28, some 3)], [(29, some 4)]] [(5, 30), (4, 29), (3, 28), (2, 27), (1, 26), (0, 25)] [([], 4, [(5, 30), (4, 29), (3, 28), (2, 27), (1, 26), (0, 25)])] hh mixed (by kernel_rfl) (by kernel_rfl) (by decide) ?_
    refine dH ?_
    refine fp ?_
    refine bP (i := 2) (Is (.string ⟨(((List.replicate v.toNat 0).set x.toNat 1)).toArray⟩)) Is.ext ?_ ?_
    ·intro ρ1 w1 hj hR
     exact ep rfl (hQ (l := ((List.replicate v.toNat 0).set x.toNat 1)) aF.out aF.out aF.out (show ρ1 26 = Value.slice _ _ _ from hR.1) (hj.hp.aJ (i := 0) rfl)) ⟨Below.refl _ _, rfl⟩
    refine dC (fun _ hj => lS 1 _ (hT.hp hj.hp) (by decide) (by decide)) ?_
    refine dB [_,_,_,_] ?_
    refine vp [_,_,_,_] ?_
    refine a0 ?_
    intro p_ hp_
    simp only [List.mem_cons, List.not_mem_nil, or_false] at hp_
    rcases hp_ with rfl
    intro f W hJ hV
    have hb_5 := hJ.bl
    obtain ⟨v30, v29, v28, v27, v26, v25, _⟩ := hV
    simp only [iX]
    have e25 : f 0 = _ := v25
    rw [e25]
    have e26 : f 1 = _ := v26
    rw [e26]
    have e27 : f 2 = _ := v27
    rw [e27]
    have e28 : f 3 = _ := v28
    rw [e28]
    have e29 : f 4 = _ := v29
    rw [e29]
    obtain ⟨A30, c30, e30, f30⟩ : Rows _ _ _ (f 5) W := v30
    rw [e30]
    replace hh := hJ.hp
    clear e25 e26 e27 e28 e29 e30 hJ
    refine aP (hmk _ _ _ (hT.hp hh) f30) ar.out rfl (by decide) ?_; rintro e_ w31 ⟨g, og, rfl, h3⟩; refine ⟨_, rfl, ?_⟩; replace hh := hh.join h3
    refine cA ?_
    simp only [List.cons_append, List.nil_append] at hh
    refine cq (i := 7) (by repeat (first | exact bS | refine bB ?_ | refine bR ?_ | refine np_scope ?_)) rfl (by kernel_rfl) (by kernel_rfl) (by kernel_rfl) (fun _ => cR (show _ = Value.tuple (List.toArray _) from rfl) rfl) (by decide) ?_
    refine cq (i := 8) (by repeat (first | exact bS | refine bB ?_ | refine bR ?_ | refine np_scope ?_)) rfl (by kernel_rfl) (by kernel_rfl) (by kernel_rfl) (fun _ => cR (show _ = Value.tuple (List.toArray _) from rfl) rfl) (by decide) ?_
    refine dP 9 (by decide) (by kernel_rfl) (by decide) (by kernel_rfl) (by kernel_rfl) ?_
    refine bE hh 2 [_,_] ?_
    intro ws hh
    replace hh : Hp _ (_ :: _ :: .blk _ _ [_, _] _ :: _) _ := hh
    refine aI (ah (an ?_))
    refine iL (aH rfl (aK (vs := [_, _]) aC.out (hh.au (i := 2) (n := 2) rfl rfl) rfl) (bZ (cv rfl) a6)) ?_
    exact ⟨g, og, rfl, hh.sub (List.Sublist.cons_cons _ (List.nil_sublist _))⟩
end Go.Proofs.YtkgdagjklakajaaGreatDoor
/- The walks through ogeeref08.Make, Const, Var. -/
namespace Go.Proofs.YtkgdagjklakajaaGreatDoor
open Go.RowKit
theorem oq (v : Int) (c : NR) (k : Nat) (w : World) (hc : c.ok ∧ Sz k c.d) (hk : k ≤ 2999980) :
  Calls Tryz.prog 27 #[.int .i64 v, .agg #[.bool c.neg, .string c.bT, .int .i64 c.e]] w fun r w' => ∃ g : PX, cV (j9 v) v (bg [⟨dK v, c⟩]) g ∧ r = .returned (.tuple #[.agg #[.int .i64 g.v, .slice g.A g.n g.c], .int .i64 (j9 v)]) ∧ Hp w [g.row] w' := by
 have hh := Hp.start w
 cases hf : gm v with
 | false =>
  have hbv : ¬ (0 ≤ v ∧ v ≤ 12) := fun h => by rw [fI.2 h] at hf; cases hf
  rw [show j9 v = 1 by unfold j9; rw [if_pos hf]]
  by_cases h0 : v < 0
  ·refine ak (N := 23) (l := [.int .i64 v, .agg #[.bool c.neg, .string c.bT, .int .i64 c.e]]) Tryz.func27 rfl rfl (by simp) ?_
   refine sr ?_
   refine cN hh [_,_,_] ?_
   intro b3 w3 hh
   refine cm hh ?_
   intro b4 w4 hh
   refine aI (ah (ai (sr (mI ?_))))
   refine aN (mB ?_)
   first | refine gS ?_ | (refine gT ?_; refine mI ?_) | refine gV ?_
   first | refine gS ?_ | (refine gT ?_; refine bO ?_) | refine gV ?_
   first | refine cw ?_ | refine cx ?_
   refine ah (cT (sr ?_))
   refine eh [_,_] ?_
   refine bE hh 0 [_,_] ?_
   intro ws hh
   replace hh : Hp _ (.blk _ _ [_, _] _ :: _) _ := hh
   refine aI (ah (an (aA ?_)))
   refine iL (aH rfl (aK (vs := [_, _]) aC.out (hh.au (i := 0) (n := 2) rfl rfl) rfl) (bZ (cv rfl) a6)) ?_
   exact ⟨PX.nil, cV.err (by decide), rfl, (hh.sub (List.nil_sublist _)).gd⟩
  ·refine ak (N := 23) (l := [.int .i64 v, .agg #[.bool c.neg, .string c.bT, .int .i64 c.e]]) Tryz.func27 rfl rfl (by simp) ?_
   refine sr ?_
   refine cN hh [_,_,_] ?_
   intro b3 w3 hh
   refine cm hh ?_
   intro b4 w4 hh
   refine aI (ah (ai (sr (mI ?_))))
   refine aN (mB ?_)
   first | refine gS ?_ | (refine gT ?_; refine mI ?_) | refine gV ?_
   first | refine gS ?_ | (refine gT ?_; refine bO ?_) | refine gV ?_
   first | refine cw ?_ | refine cx ?_
   refine ah (cT (sr ?_))
   refine eh [_,_] ?_
   refine bE hh 0 [_,_] ?_
   intro ws hh
   replace hh : Hp _ (.blk _ _ [_, _] _ :: _) _ := hh
   refine aI (ah (an (aA ?_)))
   refine iL (aH rfl (aK (vs := [_, _]) aC.out (hh.au (i := 0) (n := 2) rfl rfl) rfl) (bZ (cv rfl) a6)) ?_
   exact ⟨PX.nil, cV.err (by decide), rfl, (hh.sub (List.nil_sublist _)).gd⟩
 | true =>
  obtain ⟨h0, h12⟩ := fI.1 hf
  have hg := fun A cc w1 hS1 => ko v A 1 cc [⟨dK v, c⟩] k w1 hS1 (by decide) (fun t ht => by rw [List.mem_singleton.1 ht]; exact hc) (by omega)
  rw [rp (by simp)] at hg
  rw [show j9 v = 0 by unfold j9; rw [if_neg (by rw [hf]; decide)]]
  generalize bg [⟨dK v, c⟩] = G at *
  refine ak (N := 23) (l := [.int .i64 v, .agg #[.bool c.neg, .string c.bT, .int .i64 c.e]]) Tryz.func27 rfl rfl (by simp) ?_
  refine sr ?_
  refine cN hh [_,_,_] ?_
  intro b3 w3 hh
  refine cm hh ?_
  intro b4 w4 hh
  refine aI (ah (ai (sr (mI ?_))))
  refine aN (mB ?_)
  first | refine gS ?_ | (refine gT ?_; refine mI ?_) | refine gV ?_
  first | refine gS ?_ | (refine gT ?_; refine bO ?_) | refine gV ?_
  first | refine cw ?_ | refine cx ?_
  refine ah (cF (al (aj (ai ?_))))
  refine iC [] [0, 0, 2, 6, 0, 30, 62, 127, 255, 255, 1023, 2047] 7 [[(0, none)], [(0, none)], [(14, some 1)], [(15, some 2)], [(3, none)], [(16, some 3), (17, some 4)], [(18, some 5)]] [(6, 19), (5, 18), (4, 17), (3, 16), (2, 15), (1, 14), (0, 13)] [([], 4, [(6, 19), (5, 18), (4, 17), (3, 16), (2, 15), (1, 14), (0, 13)])] hh mixed (by kernel_rfl) (by kernel_rfl) (by decide) ?_
  refine dH ?_
  refine dH ?_
  refine bP (i := 2) (iq v.toNat 1 (jV (List.replicate v.toNat 0))) (iq.ext) ?_ ?_
  ·intro ρ1 w1 hj hR
   exact kA v.toNat ▸ tQ (n := v.toNat) (show ρ1 14 = Value.int _ _ from hR.1) (show ρ1 14 = Value.int _ _ from hR.1) (by omega) (by omega) aF.out aC.out rfl (by omega) (by omega) (fun _ _ h1 h2 => ⟨h2, h1⟩)
  refine bP (i := 3) (Is (.string (dK v))) (Is.ext) ?_ ?_
  ·intro ρ1 w1 hj hR
   exact let ⟨g, e, o⟩ := hR.1; ep rfl (hQ (l := List.replicate v.toNat 0) aF.out aF.out aF.out e o) ⟨Below.refl _ _, rfl⟩
  refine eL 1 [_,_,_] ?_
  refine dB [_,_,_,_] ?_
  refine vp [_,_,_,_] ?_
  refine a0 ?_
  intro p_ hp_
  simp only [List.mem_cons, List.not_mem_nil, or_false] at hp_
  rcases hp_ with rfl
  intro f W hJ hV
  have hb_3 := hJ.bl
  obtain ⟨v19, v18, v17, v16, v15, v14, v13, _⟩ := hV
  simp only [iX]
  have e13 : f 0 = _ := v13
  rw [e13]
  have e14 : f 1 = _ := v14
  rw [e14]
  obtain ⟨g15, e15, o15⟩ : iq v.toNat 1 (jV (List.replicate v.toNat 0)) (f 2) W := v15
  rw [e15]
  have e16 : f 3 = _ := v16
  rw [e16]
  have e17 : f 4 = _ := v17
  rw [e17]
  have e18 : f 5 = _ := v18
  rw [e18]
  obtain ⟨A19, c19, e19, f19⟩ : Rows _ _ _ (f 6) W := v19
  rw [e19]
  replace hh := hJ.hp
  clear e13 e14 e15 e16 e17 e18 e19 hJ
  refine aP (hg _ _ _ f19) ar.out rfl (by decide) ?_; rintro e_ w20 ⟨g, og, rfl, h3⟩; refine ⟨_, rfl, ?_⟩; replace hh := hh.join h3
  refine cA ?_
  simp only [List.cons_append, List.nil_append] at hh
  refine cq (i := 8) (by repeat (first | exact bS | refine bB ?_ | refine bR ?_ | refine np_scope ?_)) rfl (by kernel_rfl) (by kernel_rfl) (by kernel_rfl) (fun _ => cR (show _ = Value.tuple (List.toArray _) from rfl) rfl) (by decide) ?_
  refine cq (i := 9) (by repeat (first | exact bS | refine bB ?_ | refine bR ?_ | refine np_scope ?_)) rfl (by kernel_rfl) (by kernel_rfl) (by kernel_rfl) (fun _ => cR (show _ = Value.tuple (List.toArray _) from rfl) rfl) (by decide) ?_
  refine dP 10 (by decide) (by kernel_rfl) (by decide) (by kernel_rfl) (by kernel_rfl) ?_
  refine bE hh 1 [_,_] ?_
  intro ws hh
  replace hh : Hp _ (_ :: .blk _ _ [_, _] _ :: _) _ := hh
  refine aI (ah (an ?_))
  refine iL (aH rfl (aK (vs := [_, _]) aC.out (hh.au (i := 1) (n := 2) rfl rfl) rfl) (bZ (cv rfl) a6)) ?_
  exact ⟨g, og, rfl, hh.sub (List.Sublist.cons_cons _ (List.nil_sublist _))⟩
end Go.Proofs.YtkgdagjklakajaaGreatDoor
/- The walk through poly.Mul. -/
namespace Go.Proofs.YtkgdagjklakajaaGreatDoor
open Go.RowKit
def gO (base : Nat) (E v : Int) (ts : List TR) : VP := fun x W => ∃ (g : PX) (w1 : World), x = .agg #[.int .i64 g.v, .slice g.A g.n g.c] ∧ cV E v ts g ∧ base ≤ w1.heap.size ∧ Hp w1 [g.row] W
theorem gO.ext {base : Nat} {E v : Int} {ts : List TR} (x : Value) (w w' : World) (h : gO base E v ts x w) (hb : Below w.heap.size w w') : gO base E v ts x w' := let ⟨g, w1, h1, h2, h3, h4⟩ := h; ⟨g, w1, h1, h2, h3, h4.ext hb⟩
def gM (base : Nat) (E v : Int) (ts : List TR) : VP := fun x W => ∃ (g : PX) (w1 : World), x = .tuple #[.agg #[.int .i64 g.v, .slice g.A g.n g.c], .int .i64 E] ∧ cV E v ts g ∧ base ≤ w1.heap.size ∧ Hp w1 [g.row] W
theorem gM.ext {base : Nat} {E v : Int} {ts : List TR} (x : Value) (w w' : World) (h : gM base E v ts x w) (hb : Below w.heap.size w w') : gM base E v ts x w' := let ⟨g, w1, h1, h2, h3, h4⟩ := h; ⟨g, w1, h1, h2, h3, h4.ext hb⟩
def se (base : Nat) (v : Int) (ts : List TR) : VP := fun x W => ∃ (g : PX) (w1 : World), x = .slice g.A g.n g.c ∧ cV 0 v ts g ∧ base ≤ w1.heap.size ∧ Hp w1 [g.row] W
theorem se.ext {base : Nat} {v : Int} {ts : List TR} (x : Value) (w w' : World) (h : se base v ts x w) (hb : Below w.heap.size w w') : se base v ts x w' := let ⟨g, w1, h1, h2, h3, h4⟩ := h; ⟨g, w1, h1, h2, h3, h4.ext hb⟩
theorem PX.ne {g : PX} {w1 W : World} {b : Nat} {t : TypeId} {cs : Array Value} {fz : Nat × Nat} (h : Hp w1 [g.row] W) (h3 : W.heap[b]? = some (.cells cs t fz)) (h1 : 58 ≠ t) : ∀ x ∈ [g.row], x.id ≠ some b := fun x hx => by
 have hx2 := h.own x hx
 obtain rfl := List.mem_singleton.1 hx
 exact y5 hx2 h3 h1
def du (a : List TR × Int) (g : PX) : List TR × Int := if a.2 = 0 then (bg (cM a.1 g.ts), eU a.1 g.ts) else a
def lF (ps : List PX) : List TR × Int := match ps with | [] => ([], 0) | g :: l => l.foldl du (g.ts, 0)
def iO (ps : List PX) : Int := if fV ps = 0 then (lF ps).2 else fV ps
theorem nJ {a : List TR × Int} (h : a.2 ≠ 0) : ∀ l : List PX, l.foldl du a = a
 | [] => rfl
 | g :: l => by
  rw [List.foldl_cons, show du a g = a by unfold du; rw [if_neg h]]
  exact nJ h l
theorem oS {l : List PX} {a : List TR × Int} {i : Nat} {g : PX} (hx : l[i]? = some g) (h0 : ((l.take i).foldl du a).2 = 0) (h : eU ((l.take i).foldl du a).1 g.ts ≠ 0) : (l.foldl du a).2 = eU ((l.take i).foldl du a).1 g.ts := by
 have e : l = l.take i ++ g :: l.drop (i + 1) := by rw [← jk hx, List.take_append_drop]
 have e2 : l.foldl du a = (l.drop (i + 1)).foldl du (du ((l.take i).foldl du a) g) := by
  conv => lhs; rw [e]
  rw [List.foldl_append, List.foldl_cons]
 rw [e2]
 have e3 : du ((l.take i).foldl du a) g = (bg (cM ((l.take i).foldl du a).1 g.ts), eU ((l.take i).foldl du a).1 g.ts) := if_pos h0
 rw [e3, nJ h]
theorem oB {l : List PX} {a : List TR × Int} {i : Nat} {g : PX} (hx : l[i]? = some g) (h0 : ((l.take i).foldl du a).2 = 0) : (l.take (i + 1)).foldl du a = (bg (cM ((l.take i).foldl du a).1 g.ts), eU ((l.take i).foldl du a).1 g.ts) := by
 rw [aM hx, List.foldl_append, List.foldl_cons, List.foldl_nil]
 exact if_pos h0
theorem mG {p q : List TR} {k j : Nat} (hp : iS k p) (hq : iS j q) (sq : ∀ t ∈ q, t.m.size ≤ 100000) (h : eU p q = 0) (hk : k + j ≤ 900000) : iS (k + j + 65536) (bg (cM p q)) ∧ ∀ t ∈ bg (cM p q), t.m.size ≤ 100000 := by
 obtain ⟨h6, _, h4⟩ := jM h
 have ho := nx hp hq (by omega)
 have hz := lB fun t ht => (ho t ht).2
 rw [jX] at hz
 refine ⟨fun t ht => ?_, fun t ht => ?_⟩
 ·have : Sz (k + j + 65536) t.c.d := (hz t ht).mono (by omega)
  refine ⟨?_, this⟩
  rw [(fM _).nf t ht]
  exact this.ok (by omega)
 ·obtain ⟨s, hs, e⟩ := kD t ht
  obtain ⟨x, hx, hs⟩ := List.mem_flatMap.1 hs
  obtain ⟨y, hy, rfl⟩ := List.mem_map.1 hs
  rw [← e]
  exact Nat.le_trans (u6 _ _) (sq y hy)
theorem m5 (L : Option Addr) (n c : Nat) (ps : List PX) (k : Nat) (w : World) (hT : g9 w) (hL : Sl w L n 2 (a5 PX.cells ps)) (hcn : n ≤ c) (hn : n ≤ 8) (hf : ∀ g ∈ ps, g.at_ w) (hl : ∀ g ∈ ps, g.mw k) (hk : k ≤ 2000) :
  Calls Tryz.prog 33 #[.slice L n c] w fun r w' => ∃ g : PX, cV (iO ps) (jy ps) (lF ps).1 g ∧ r = .returned (.tuple #[.agg #[.int .i64 g.v, .slice g.A g.n g.c], .int .i64 (iO ps)]) ∧ Hp w [g.row] w' := by
 have hh := Hp.start w
 have hln := hL.bX PX.len (by decide)
 have hlk := fun w1 hT1 hb => md L n c ps k w1 hT1 (hL.ext hb) (by omega) (fun g hg => (hf g hg).ext hb) hl
 unfold iO
 by_cases h0 : fV ps = 0
 ·rw [if_pos h0]
  rw [h0] at hlk
  obtain ⟨hne, hev, hvv⟩ := pF h0
  obtain ⟨g0, pt, rfl⟩ := List.exists_cons_of_ne_nil hne
  rw [nF (g := g0) rfl]
  have hnp : pt.length + 1 = n := hln
  obtain ⟨ad, rfl, hr⟩ := hL.at_ (by omega)
  have hm0 : g0 ∈ g0 :: pt := List.mem_cons_self
  have hg0 := hl g0 hm0
  have h00 : (g0 :: pt)[0]? = some g0 := rfl
  show Calls _ _ _ _ fun r w' => ∃ g : PX, cV (pt.foldl du (g0.ts, 0)).2 g0.v (pt.foldl du (g0.ts, 0)).1 g ∧ r = .returned (.tuple #[.agg #[.int .i64 g.v, .slice g.A g.n g.c], .int .i64 (pt.foldl du (g0.ts, 0)).2]) ∧ Hp w [g.row] w'
  refine ak (N := 46) (l := [.slice (some ad) n c]) Tryz.func33 rfl rfl (by simp) ?_
  refine sr ?_
  refine cm hh ?_
  intro b2 w2 hh
  refine aI (ah (ai (sr (mL ?_))))
  refine bz hh (hlk _ (hT.hp hh) hh.below) rfl ?_
  intro w11 hh
  refine aI (ah (sr (mI ?_)))
  refine dQ (ah (cF (al (aj (ai ?_)))))
  refine aR 11 [[(0, none)], [(16, some 0)], [(17, some 1)], [(18, some 2)], [(0, none)], [(20, some 4)], [(21, some 5)], [(22, some 6)], [(23, some 7)], [(19, some 3), (24, some 8)], []] [(10, 5), (9, 25), (8, 24), (7, 23), (6, 22), (5, 21), (4, 20), (3, 19), (2, 18), (1, 17), (0, 16)] hh mixed (by kernel_rfl) ?_
  refine fp ?_
  refine hG (0) ?_
  refine kI ?_
  refine hH (fun _ hj => cD hj.hp.below ((hr.recAt PX.len h00) 0 _ rfl)) ?_
  refine fp ?_
  refine hG (0) ?_
  refine kI ?_
  refine hH (fun _ hj => cD hj.hp.below ((hr.recAt PX.len h00) 1 _ rfl)) ?_
  refine bP (i := 8) (se w11.heap.size g0.v g0.ts) (se.ext) ?_ ?_
  ·intro ρ1 w1 hj hR
   exact dn rfl (bk ar.out (aG (show ρ1 23 = Value.slice _ _ _ from hR.1) bo)) (k6 g0.A g0.n g0.c g0.ts w1 ((hf g0 hm0).ext hj.hp.below) hg0.n) (fun _ _ ⟨A, c, hq, ho, hb⟩ => ⟨_, hq, hb, ⟨g0.v, A, g0.n, c, g0.ts⟩, w1, rfl, ⟨rfl, rfl⟩, hj.bl.size, (Hp.start w1).bf (x := .row _ _ _ _ _ _) hb ho⟩)
  refine bP (i := 9) (gO w11.heap.size 0 g0.v g0.ts) (gO.ext) ?_ ?_
  ·intro ρ1 w1 hj hR
   exact let ⟨g, u, e, o, q, h⟩ := hR.2.1; ep rfl (pU (cs := [_, _]) aC.out jo.out (br (show ρ1 19 = Value.int _ _ from hR.1) (br e cn)) rfl) ⟨Below.refl _ _, g, u, by rw [show g.v = g0.v from o.v], o, q, h⟩
  refine bP (i := 10) (cU _ 31 _) cU.ext (fun ρ1 w1 hj hR => gu aC.out hj.bl (fun v w2 h hb => ⟨hb, h⟩)) ?_
  refine a0 ?_
  intro f W hJ hV
  have hb_4 := hJ.bl
  obtain ⟨v5, v25, v24, v23, v22, v21, v20, v19, v18, v17, v16, _⟩ := hV
  obtain ⟨g24, u24, e24, -⟩ := v24
  obtain ⟨g25, u25, e25, o25, q25, h25⟩ := v25
  obtain ⟨b5, e5, hl5, hc5⟩ : cU _ _ _ (f 10) W := v5
  replace hh := hJ.jT hh hl5 hc5 q25 h25 (PX.ne h25 hc5 (by decide))
  refine aO (a4 (aa e5 (aa e25 (aa e24 (aa v23 (aa v22 (aa v21 (aa v20 (aa v19 (aa v18 (aa v17 (aa v16 aQ)))))))))))) ?_
  dsimp only [bU]
  clear e24 e25 e5 hJ
  simp only [List.cons_append, List.nil_append] at hh
  obtain ⟨gv, gA, gn, gc, gts⟩ := g25
  obtain rfl : g0.v = gv := o25.v.symm
  obtain rfl : g0.ts = gts := o25.ts.symm
  replace hh := show Hp w (_ :: .row gA gn gc 58 4 (a5 TR.cells g0.ts) :: _) W from hh
  have hgn : g0.ts.length = gn := (hh.aJ (i := 1) rfl).bX TR.len (by decide)
  have hgc : gn ≤ gc := hh.fW (i := 1) rfl
  refine bE hh 0 [_,_] ?_
  intro ws hh
  replace hh : Hp _ (.blk _ _ [_, _] _ :: _) _ := hh
  refine ah (ai (sr (mL ?_)))
  refine a3 rfl rfl (by decide) (fO aF.out aC.size rfl rfl (l := 1) rfl (by omega) (by omega)) ?_
  refine aW (mI (ah (ao ?_)))
  replace hh := hh.perm (List.perm_middle (l₁ := [_]))
  simp only [List.cons_append, List.nil_append] at hh
  refine bp [3, 7, 8, 9, 29, 30, 31, 32, 33, 34, 35, 36, 37, 38, 39, 40, 41, 42, 43, 44] 29
   (fun v w' => ∃ (i : Nat) (g : PX), i ≤ n - 1 ∧ v = .int .i64 i ∧ ((pt.take i).foldl du (g0.ts, 0)).2 = 0 ∧ g.v = g0.v ∧ g.ts = ((pt.take i).foldl du (g0.ts, 0)).1 ∧ g.mw (2000 + i * 67536) ∧ Hp w [.row g.A g.n g.c 58 4 (a5 TR.cells g.ts), .blk b5 31 [.int .i64 g.v, .slice g.A g.n g.c] (0, 0), .blk b2 31 [.int .i64 0, .slice none 0 0] (0, 0)] w')
   (fun v _ => n - 1 - (intOf v).toNat) ?_ ?_
  ·exact ⟨0, ⟨g0.v, gA, gn, gc, g0.ts⟩, Nat.zero_le _, rfl, rfl, rfl, rfl, ⟨by show gn ≤ 1000000; have := hg0.n; have h9 := (hf g0 hm0).ln; omega, hgc, hg0.ok.mono (by omega), hg0.sz⟩, hh⟩
  ·clear hh
   rintro ρ' v w' ⟨i, g, hi, rfl, hz, hgv, hts, hgl, hh⟩
   by_cases hlt : i < n - 1
   ·obtain ⟨f, hx⟩ := aD (l := pt) (k := i) (by omega)
    have hmem : f ∈ g0 :: pt := List.mem_cons_of_mem _ (List.mem_of_getElem? hx)
    have hbk : Sl w (if c = 1 then some ad else (some ad : Option Addr).map (·.add (1 * 2))) (n - 1) 2 (a5 PX.cells pt) := hL.back (by omega) hcn
    obtain ⟨ab, hAb, sb⟩ := hbk.at_ (by omega)
    have hev : Value.slice (if c = 1 then some ad else (some ad : Option Addr).map (·.add (1 * 2))) (n - 1) (c - 1) = .slice (some ab) (n - 1) (c - 1) := by rw [hAb]
    have hfl := hl f hmem
    have hnx := oB (a := (g0.ts, 0)) hx hz
    have hsp := oS (a := (g0.ts, 0)) hx hz
    rw [← hts] at hnx hsp
    refine sr ?_
    refine aN (ah (ai (cT (al (aj (ai (ao (sr ?_))))))))
    refine aV (k := i) aF.out aC.size hev rfl (by omega) (by omega) (by decide) ?_
    refine bK (vs := [_, _]) aC.out rfl (show Rd _ _ [.int .i64 f.v, .slice f.A f.n f.c] from (sb.ext hh.below).recAt PX.len hx) rfl (by decide) ?_
    refine cm hh ?_
    intro b7 w7 hh
    refine bE hh 0 [_,_] ?_
    intro ws hh
    replace hh : Hp _ (.blk _ _ [_, _] _ :: _) _ := hh
    refine ah (sr ?_)
    refine dx hh 2 [_,_] ?_
    refine dx hh 0 [_,_] ?_
    refine aP (kO g f (2000 + i * 67536) k _ (hT.hp hh) (hh.aJ (i := 1) rfl) ((hf f hmem).ext hh.below) hgl hfl (by omega)) ar.out rfl (by decide) ?_
    rintro e_ w36 ⟨h, oh, rfl, h3⟩
    refine ⟨_, rfl, ?_⟩
    replace hh := hh.join h3
    simp only [List.cons_append, List.nil_append] at hh
    by_cases he : eU g.ts f.ts = 0
    ·obtain ⟨hv, hA, hn2, hc2, hts2⟩ := h
     rw [he] at oh
     obtain rfl : g.v = hv := oh.v.symm
     obtain rfl : bg (cM g.ts f.ts) = hts2 := oh.ts.symm
     replace hh := show Hp w (.row hA hn2 hc2 58 4 (a5 TR.cells (bg (cM g.ts f.ts))) :: _) w36 from hh
     have hhn : (bg (cM g.ts f.ts)).length = hn2 := (hh.aJ (i := 0) rfl).bX TR.len (by decide)
     have hhc : hn2 ≤ hc2 := hh.fW (i := 0) rfl
     have h4 := (jM he).2.2
     have htl := mG hgl.ok hfl.ok hfl.sz he (by omega)
     refine mT ?_
     refine dJ ?_
     refine dJ ?_
     refine cm hh ?_
     intro b8 w8 hh
     refine bE hh 0 [_,_] ?_
     intro ws hh
     replace hh : Hp _ (.blk _ _ [_, _] _ :: _) _ := hh
     refine aI (ah (ai (sr (mI ?_))))
     refine dQ (ah (cF (al (aj (aq ?_)))))
     refine dx hh 0 [_,_] ?_
     refine bE hh 4 [_,_] ?_
     intro ws hh
     replace hh : Hp _ (_ :: _ :: _ :: _ :: .blk _ _ [_, _] _ :: _) _ := hh
     refine aE (aY (aj (aq ?_)))
     refine bF (mI (aE (aj ?_)))
     replace hh := hh.sub (List.Sublist.cons _ (List.Sublist.cons_cons _ (List.Sublist.cons _ (List.Sublist.cons _ (List.Sublist.cons_cons _ (List.Sublist.cons_cons _ List.Sublist.slnil))))))
     refine ⟨⟨i + 1, ⟨g.v, hA, hn2, hc2, bg (cM g.ts f.ts)⟩, by omega, rfl, by rw [hnx]; exact he, hgv, by rw [hnx], ⟨by show hn2 ≤ 1000000; omega, hhc, htl.1.mono (by omega), htl.2⟩, hh⟩, by show n - 1 - (i + 1) < n - 1 - i; omega, ?_⟩
     (repeat (first | exact ax _ _ _ | refine az rfl ?_ | refine aw rfl ?_))
    ·rw [hsp he]
     refine mT ?_
     refine dJ ?_
     refine dJ ?_
     refine cm hh ?_
     intro b8 w8 hh
     refine bE hh 0 [_,_] ?_
     intro ws hh
     replace hh : Hp _ (.blk _ _ [_, _] _ :: _) _ := hh
     refine aI (ah (ai (sr (mI ?_))))
     refine dQ (ah (cT (sr ?_)))
     refine eh [_,_] (mI ?_)
     refine bE hh 5 [_,_] ?_
     intro ws hh
     replace hh : Hp _ (_ :: _ :: _ :: _ :: _ :: .blk _ _ [_, _] _ :: _) _ := hh
     refine aI (ah (an (aA (bA (aA (aA (bA (aA ?_))))))))
     refine iL (aH rfl (aK (vs := [_, _]) aC.out (hh.au (i := 5) (n := 2) rfl rfl) rfl) (bZ (cv rfl) a6)) ?_
     exact ⟨PX.nil, cV.err he, rfl, (hh.sub (List.nil_sublist _)).gd⟩
   ·obtain rfl : i = n - 1 := by omega
    rw [List.take_of_length_le (by omega)] at hz hts
    refine sr ?_
    refine aN (ah (ai (cF ?_)))
    refine aU ?_
    refine ay (ay (a7 (aj (sr ?_))))
    refine dx hh 1 [_,_] ?_
    refine bE hh 2 [_,_] ?_
    intro ws hh
    replace hh : Hp _ (_ :: _ :: .blk _ _ [_, _] _ :: _) _ := hh
    refine aI (ah (an ?_))
    refine iL (aH rfl (aK (vs := [_, _]) aC.out (hh.au (i := 2) (n := 2) rfl rfl) rfl) (bZ (cv rfl) a6)) ?_
    rw [hz]
    exact ⟨g, ⟨hgv, hts⟩, rfl, hh.sub (List.Sublist.cons_cons _ (List.nil_sublist _))⟩
 ·rw [if_neg h0]
  generalize fV ps = e at *
  refine ak (N := 46) (l := [.slice L n c]) Tryz.func33 rfl rfl (by simp) ?_
  refine sr ?_
  refine cm hh ?_
  intro b2 w2 hh
  refine aI (ah (ai (sr (mL ?_))))
  refine bz hh (hlk _ (hT.hp hh) hh.below) rfl ?_
  intro w11 hh
  refine aI (ah (sr (mI ?_)))
  refine dQ (ah (cT (sr ?_)))
  refine eh [_,_] (mI ?_)
  refine bE hh 0 [_,_] ?_
  intro ws hh
  replace hh : Hp _ (.blk _ _ [_, _] _ :: _) _ := hh
  refine aI (ah (an (aA ?_)))
  refine iL (aH rfl (aK (vs := [_, _]) aC.out (hh.au (i := 0) (n := 2) rfl rfl) rfl) (bZ (cv rfl) a6)) ?_
  exact ⟨PX.nil, cV.err h0, rfl, (hh.sub (List.nil_sublist _)).gd⟩
end Go.Proofs.YtkgdagjklakajaaGreatDoor
/- The walk through poly.Pow. -/
namespace Go.Proofs.YtkgdagjklakajaaGreatDoor
open Go.RowKit
def gy (p : PX) (n : Nat) : List TR × Int := (List.replicate n p).foldl du (bg [⟨dK p.v, nR ((1 : Int) : Dyadic)⟩], 0)
def gN (p : PX) (n : Int) : Int := if p.e = 0 then (if n < 0 ∨ 127 < n then 1 else (gy p n.toNat).2) else p.e
theorem iQ (p : PX) (i : Nat) : gy p (i + 1) = du (gy p i) p := by unfold gy; rw [List.replicate_succ', List.foldl_append]; rfl
theorem lR {p : PX} {i : Nat} (h : (gy p i).2 ≠ 0) : ∀ {n : Nat}, i ≤ n → gy p n = gy p i
 | 0, hn => by rw [show i = 0 by omega]
 | n + 1, hn => by
  rcases Nat.lt_or_ge n i with h1 | h1
  ·rw [show i = n + 1 by omega]
  ·rw [iQ, lR h h1]
   exact if_neg h
theorem ji (p : PX) (n : Int) (k : Nat) (w : World) (hT : g9 w) (hp : p.at_ w) (lp : p.mw k) (hk : k ≤ 2000) (hn : n ≤ 4 ∨ 127 < n) :
  Calls Tryz.prog 35 #[.agg #[.int .i64 p.v, .slice p.A p.n p.c], .int .i64 n] w fun r w' => ∃ g : PX, cV (gN p n) p.v (gy p n.toNat).1 g ∧ r = .returned (.tuple #[.agg #[.int .i64 g.v, .slice g.A g.n g.c], .int .i64 (gN p n)]) ∧ Hp w [g.row] w' := by
 have hh := Hp.start w
 have hck := fun w1 hT1 hb => pH p k w1 hT1 (hp.ext hb) lp
 unfold gN
 by_cases h0 : p.e = 0
 ·rw [if_pos h0]
  rw [h0] at hck
  obtain ⟨hf, h4, _, _⟩ := jZ h0
  have hpl : p.ts.length = p.n := hp.ln
  have hco : j9 p.v = 0 := by unfold j9; rw [if_neg (by rw [hf]; decide)]
  have z1 : Sz 24 ((1 : Int) : Dyadic) := vR (m := 1) (e := 0) (by decide) (by decide) (by decide)
  have hcn := fun w1 hT1 => kK p.v (nR ((1 : Int) : Dyadic)) 24 w1 hT1 ⟨z1.ok (by decide), by rw [eQ]; exact z1⟩ (by decide)
  rw [hco] at hcn
  have hg1 := fZ [⟨dK p.v, nR ((1 : Int) : Dyadic)⟩]
  have hgo : iS 2000 (bg [⟨dK p.v, nR ((1 : Int) : Dyadic)⟩]) := fun t ht => by
   have h1 : Sz 2000 t.c.d := (lB (k := 24) (l := [⟨dK p.v, nR ((1 : Int) : Dyadic)⟩]) (fun s hs => by rw [List.mem_singleton.1 hs, eQ]; exact z1) t ht).mono (show 24 + 1 ≤ 2000 by decide)
   exact ⟨by rw [(fM _).nf t ht]; exact h1.ok (by decide), h1⟩
  have hgz : ∀ t ∈ bg [⟨dK p.v, nR ((1 : Int) : Dyadic)⟩], t.m.size ≤ 100000 := fun t ht => by
   obtain ⟨s, hs, e⟩ := kD t ht
   rw [← e, List.mem_singleton.1 hs]
   have h1 := fI.1 hf
   have h2 := jc h1.1
   show (dK p.v).size ≤ 100000
   omega
  have hpw : gy p 0 = (bg [⟨dK p.v, nR ((1 : Int) : Dyadic)⟩], 0) := rfl
  generalize bg [⟨dK p.v, nR ((1 : Int) : Dyadic)⟩] = G at *
  refine ak (N := 47) (l := [.agg #[.int .i64 p.v, .slice p.A p.n p.c], .int .i64 n]) Tryz.func35 rfl rfl (by simp) ?_
  refine sr ?_
  refine cN hh [_,_] ?_
  intro b2 w2 hh
  refine cm hh ?_
  intro b4 w4 hh
  refine aI (ah (ai (sr ?_)))
  refine dx hh 1 [_,_] ?_
  refine bz hh (hck _ (hT.hp hh) hh.below) rfl ?_
  intro w11 hh
  refine aI (ah (sr (mI ?_)))
  refine dQ (ah (cF (al (aj (ai ?_)))))
  refine cH [7] [6] [0, 1, 0, 7, 15, 31, 31, 0, 191, 511] 8 [[(2, none)], [(17, some 0)], [], [(18, some 1), (19, some 2)], [(20, some 3)], [(16, some 4)], [(16, some 4)], []] [(7, 7), (6, 22), (5, 21), (4, 16), (3, 20), (2, 19), (1, 18), (0, 17)] hh mixed (by kernel_rfl) (lK rfl aC.out cW) rfl (by repeat (first | exact bS | refine bB ?_ | refine bR ?_)) ?_
  refine cf ?_
  refine df 1 ?_
  refine dC (fun _ hj => lS 1 _ (hT.hp hj.hp) (by decide) (by decide)) ?_
  refine bP (i := 3) (gM w11.heap.size 0 p.v G) (gM.ext) ?_ ?_
  ·intro ρ1 w1 hj hR
   exact dn rfl (bk ar.out (aG (show ρ1 18 = Value.int _ _ from hR.1) (aG (show ρ1 19 = Value.agg _ from hR.2.1) bo))) (hcn w1 (hT.hp hj.hp)) (fun _ _ ⟨g, og, hq, h3⟩ => ⟨_, hq, h3.below, g, w1, rfl, og, hj.bl.size, h3⟩)
  refine bP (i := 4) (gM w11.heap.size 0 p.v G) (gM.ext) ?_ ?_
  ·intro ρ1 w1 hj hR
   exact let ⟨g, u, e1, e2⟩ := hR.1; ep rfl (dR e1) ⟨Below.refl _ _, g, u, rfl, e2⟩
  refine bP (i := 5) (gO w11.heap.size 0 p.v G) (gO.ext) ?_ ?_
  ·intro ρ1 w1 hj hR
   exact let ⟨g, u, e1, e2⟩ := hR.1; ep rfl (cR (vs := [_, _]) e1 rfl) ⟨Below.refl _ _, g, u, rfl, e2⟩
  refine bP (i := 6) (Is (.int .i64 0)) (Is.ext) ?_ ?_
  ·intro ρ1 w1 hj hR
   exact let ⟨g, u, e1, e2⟩ := hR.1; ep rfl (cR (vs := [_, _]) e1 rfl) ⟨Below.refl _ _, rfl⟩
  refine bP (i := 7) (cU _ 31 _) cU.ext (fun ρ1 w1 hj hR => gu aC.out hj.bl (fun v w2 h hb => ⟨hb, h⟩)) ?_
  refine a0 ?_
  intro f W hJ hV _
  have hb_4 := hJ.bl
  obtain ⟨v7, v22, v21, v16, v20, v19, v18, v17, _⟩ := hV
  obtain ⟨g20, u20, e20, -⟩ := v20
  obtain ⟨g16, u16, e16, -⟩ := v16
  obtain ⟨g21, u21, e21, o21, q21, h21⟩ := v21
  obtain ⟨b7, e7, hl7, hc7⟩ : cU _ _ _ (f 7) W := v7
  replace hh := hJ.jT hh hl7 hc7 q21 h21 (PX.ne h21 hc7 (by decide))
  refine aO (a4 (aa e7 (aa v22 (aa e21 (aa e16 (aa e20 (aa v19 (aa v18 (aa v17 aQ))))))))) ?_
  dsimp only [bU]
  clear e20 e16 e21 e7 hJ
  simp only [List.cons_append, List.nil_append] at hh
  obtain ⟨gv, gA, gn, gc, gts⟩ := g21
  obtain rfl : p.v = gv := o21.v.symm
  obtain rfl : G = gts := o21.ts.symm
  replace hh := show Hp w (_ :: .row gA gn gc 58 4 (a5 TR.cells G) :: _) W from hh
  have hgn : G.length = gn := (hh.aJ (i := 1) rfl).bX TR.len (by decide)
  have hgc : gn ≤ gc := hh.fW (i := 1) rfl
  by_cases hb : n < 0 ∨ 127 < n
  ·rw [if_pos hb]
   by_cases hneg : n < 0
   ·refine bE hh 0 [_,_] ?_
    intro ws hh
    replace hh : Hp _ (.blk _ _ [_, _] _ :: _) _ := hh
    refine aI (ah (ai (sr (mI ?_))))
    refine aN (mB ?_)
    first | refine gS ?_ | (refine gT ?_; refine mI ?_) | refine gV ?_
    first | refine gS ?_ | (refine gT ?_; refine bO ?_) | refine gV ?_
    first | refine cw ?_ | refine cx ?_
    refine ah (cT (sr ?_))
    refine eh [_,_] ?_
    refine bE hh 2 [_,_] ?_
    intro ws hh
    replace hh : Hp _ (_ :: _ :: .blk _ _ [_, _] _ :: _) _ := hh
    refine aI (ah (an (aA ?_)))
    refine iL (aH rfl (aK (vs := [_, _]) aC.out (hh.au (i := 2) (n := 2) rfl rfl) rfl) (bZ (cv rfl) a6)) ?_
    exact ⟨PX.nil, cV.err (by decide), rfl, (hh.sub (List.nil_sublist _)).gd⟩
   ·refine bE hh 0 [_,_] ?_
    intro ws hh
    replace hh : Hp _ (.blk _ _ [_, _] _ :: _) _ := hh
    refine aI (ah (ai (sr (mI ?_))))
    refine aN (mB ?_)
    first | refine gS ?_ | (refine gT ?_; refine mI ?_) | refine gV ?_
    first | refine gS ?_ | (refine gT ?_; refine bO ?_) | refine gV ?_
    first | refine cw ?_ | refine cx ?_
    refine ah (cT (sr ?_))
    refine eh [_,_] ?_
    refine bE hh 2 [_,_] ?_
    intro ws hh
    replace hh : Hp _ (_ :: _ :: .blk _ _ [_, _] _ :: _) _ := hh
    refine aI (ah (an (aA ?_)))
    refine iL (aH rfl (aK (vs := [_, _]) aC.out (hh.au (i := 2) (n := 2) rfl rfl) rfl) (bZ (cv rfl) a6)) ?_
    exact ⟨PX.nil, cV.err (by decide), rfl, (hh.sub (List.nil_sublist _)).gd⟩
  ·rw [if_neg hb]
   refine bE hh 0 [_,_] ?_
   intro ws hh
   replace hh : Hp _ (.blk _ _ [_, _] _ :: _) _ := hh
   refine aI (ah (ai (sr (mI ?_))))
   refine aN (mB ?_)
   first | refine gS ?_ | (refine gT ?_; refine mI ?_) | refine gV ?_
   first | refine gS ?_ | (refine gT ?_; refine bO ?_) | refine gV ?_
   first | refine cw ?_ | refine cx ?_
   refine ah (cF (al (aj (ai (sr (aI (ah (ao ?_))))))))
   have hnn : n = (n.toNat : Int) := by omega
   have hn4 : n.toNat ≤ 4 := by omega
   generalize n.toNat = m at *
   subst hnn
   replace hh := hh.perm (List.perm_middle (l₁ := [_]))
   simp only [List.cons_append, List.nil_append] at hh
   refine cd [8, 9, 30, 31, 32, 33, 34, 35, 36, 37, 38, 39, 40, 41, 42, 43, 44] 8 9
    (fun e x w' => ∃ (i : Nat) (g : PX), i ≤ m ∧ x = .int .i64 i ∧ e = .int .i64 (gy p i).2 ∧ cV (gy p i).2 p.v (gy p i).1 g ∧ ((gy p i).2 = 0 → g.mw (2000 + i * 67536)) ∧ Hp w [.row g.A g.n g.c 58 4 (a5 TR.cells g.ts), .blk b7 31 [.int .i64 g.v, .slice g.A g.n g.c] (0, 0), .blk b4 31 [.int .i64 0, .slice none 0 0] (0, 0), .blk b2 31 [.int .i64 p.v, .slice p.A p.n p.c] (0, 0)] w')
    (fun _ x _ => m - (intOf x).toNat) ?_ ?_
   ·refine ⟨0, ⟨p.v, gA, gn, gc, G⟩, Nat.zero_le _, rfl, by rw [hpw]; rfl, by rw [hpw]; exact ⟨rfl, rfl⟩, fun _ => ⟨?_, hgc, hgo, hgz⟩, hh⟩
    show gn ≤ 1000000
    have : G.length ≤ 1 := hg1
    omega
   ·clear hh
    rintro ρ' e_ x_ w' ⟨i, g, hi, rfl, rfl, og, hgl, hh⟩
    have hnx := iQ p i
    have hst := fun h => lR (p := p) (i := i) h hi
    generalize hpi : gy p i = a at *
    obtain ⟨av, ae⟩ := a
    by_cases hlt : i < m
    ·by_cases h0 : ae = 0
     ·subst h0
      rw [show du (av, 0) p = (bg (cM av p.ts), eU av p.ts) from if_pos rfl] at hnx
      have hgv : g.v = p.v := og.v
      have hgt : g.ts = av := og.ts
      have hlim := hgl rfl
      have hti := fun h => mG hlim.ok lp.ok lp.sz h (by omega)
      refine ai (sr (mI (mI ?_)))
      refine aN (mB ?_)
      first | refine gS ?_ | (refine gT ?_; refine mI ?_) | refine gV ?_
      first | refine gS ?_ | (refine gT ?_; refine dv ?_) | refine gV ?_
      first | refine cw ?_ | refine cx ?_
      refine ah (cT (al (aj (ai (ao (aq ?_))))))
      refine dx hh 1 [_,_] ?_
      refine dx hh 3 [_,_] ?_
      refine aP (kO g p (2000 + i * 67536) k _ (hT.hp hh) (hh.aJ (i := 0) rfl) (hp.ext hh.below) hlim lp (by omega)) ar.out rfl (by decide) ?_
      rintro e_ w42 ⟨h, oh, rfl, h3⟩
      refine ⟨_, rfl, ?_⟩
      replace hh := hh.join h3
      simp only [List.cons_append, List.nil_append] at hh
      obtain ⟨hv, hA, hn2, hc2, hts2⟩ := h
      replace hh := show Hp w (.row hA hn2 hc2 58 4 (a5 TR.cells hts2) :: _) w42 from hh
      have hhn : hts2.length = hn2 := (hh.aJ (i := 0) rfl).bX TR.len (by decide)
      have hhc : hn2 ≤ hc2 := hh.fW (i := 0) rfl
      refine mT ?_
      refine dJ ?_
      refine dJ ?_
      refine bE hh 2 [_,_] ?_
      intro ws hh
      replace hh : Hp _ (_ :: _ :: .blk _ _ [_, _] _ :: _) _ := hh
      refine aI (aE (aY (aj (aq (mI ?_)))))
      refine bF (aI (aE (aj ?_)))
      replace hh := hh.sub (List.Sublist.cons_cons _ (List.Sublist.cons _ (List.Sublist.cons_cons _ (List.Sublist.cons_cons _ (List.Sublist.cons_cons _ List.Sublist.slnil)))))
      rw [hgt, hgv] at oh
      rw [hgt] at hti
      refine ⟨⟨i + 1, ⟨hv, hA, hn2, hc2, hts2⟩, by omega, rfl, by rw [hnx, hgt]; rfl, by rw [hnx]; exact oh, fun h => ?_, hh⟩, by show m - (i + 1) < m - i; omega, ?_⟩
      ·rw [hnx] at h
       have htl := hti h
       have he : hts2 = bg (cM av p.ts) := by have := oh.ts; rwa [if_pos h] at this
       subst he
       have h4 := (jM h).2.2
       exact ⟨by show hn2 ≤ 1000000; omega, hhc, htl.1.mono (by omega), htl.2⟩
      ·(repeat (first | exact ax _ _ _ | refine az rfl ?_ | refine aw rfl ?_))
     ·rw [hst h0]
      refine ai (sr (mI (mI ?_)))
      refine aN (mB ?_)
      first | refine gS ?_ | (refine gT ?_; refine mI ?_) | refine gV ?_
      first | refine gS ?_ | (refine gT ?_; refine dv ?_) | refine gV ?_
      first | refine cw ?_ | refine cx ?_
      refine ah (cF ?_)
      refine aU ?_
      refine ay (ay (a7 (aj (sr ?_))))
      refine dx hh 1 [_,_] (mI ?_)
      refine bE hh 2 [_,_] ?_
      intro ws hh
      replace hh : Hp _ (_ :: _ :: .blk _ _ [_, _] _ :: _) _ := hh
      refine aI (ah (an ?_))
      refine iL (aH rfl (aK (vs := [_, _]) aC.out (hh.au (i := 2) (n := 2) rfl rfl) rfl) (bZ (cv rfl) a6)) ?_
      exact ⟨g, og, rfl, hh.sub (List.Sublist.cons_cons _ (List.nil_sublist _))⟩
    ·obtain rfl : i = m := by omega
     rw [hpi]
     refine ai (sr (mI (mI ?_)))
     refine aN (mB ?_)
     first | refine gS ?_ | (refine gT ?_; refine mI ?_) | refine gV ?_
     first | refine gS ?_ | (refine gT ?_; refine dv ?_) | refine gV ?_
     first | refine cw ?_ | refine cx ?_
     refine ah (cF ?_)
     refine aU ?_
     refine ay (ay (a7 (aj (sr ?_))))
     refine dx hh 1 [_,_] (mI ?_)
     refine bE hh 2 [_,_] ?_
     intro ws hh
     replace hh : Hp _ (_ :: _ :: .blk _ _ [_, _] _ :: _) _ := hh
     refine aI (ah (an ?_))
     refine iL (aH rfl (aK (vs := [_, _]) aC.out (hh.au (i := 2) (n := 2) rfl rfl) rfl) (bZ (cv rfl) a6)) ?_
     exact ⟨g, og, rfl, hh.sub (List.Sublist.cons_cons _ (List.nil_sublist _))⟩
 ·rw [if_neg h0]
  refine ak (N := 47) (l := [.agg #[.int .i64 p.v, .slice p.A p.n p.c], .int .i64 n]) Tryz.func35 rfl rfl (by simp) ?_
  refine sr ?_
  refine cN hh [_,_] ?_
  intro b2 w2 hh
  refine cm hh ?_
  intro b4 w4 hh
  refine aI (ah (ai (sr ?_)))
  refine dx hh 1 [_,_] ?_
  refine bz hh (hck _ (hT.hp hh) hh.below) rfl ?_
  intro w11 hh
  refine aI (ah (sr (mI ?_)))
  refine dQ (ah (cT (sr ?_)))
  refine eh [_,_] (mI ?_)
  refine bE hh 0 [_,_] ?_
  intro ws hh
  replace hh : Hp _ (.blk _ _ [_, _] _ :: _) _ := hh
  refine aI (ah (an (aA ?_)))
  refine iL (aH rfl (aK (vs := [_, _]) aC.out (hh.au (i := 0) (n := 2) rfl rfl) rfl) (bZ (cv rfl) a6)) ?_
  exact ⟨PX.nil, cV.err h0, rfl, (hh.sub (List.nil_sublist _)).gd⟩
end Go.Proofs.YtkgdagjklakajaaGreatDoor
/- The walks through ogeeref08.Mul and Pow. -/
namespace Go.Proofs.YtkgdagjklakajaaGreatDoor
open Go.RowKit
def qG (ps : List PX) (R : List HE) (g : PX) : Prop := (g ∈ ps ∧ R = []) ∨ R = [g.row]
theorem qG.at_ {w w' : World} {ps : List PX} {R H : List HE} {g : PX} (h : qG ps R g) (hf : ∀ g ∈ ps, g.at_ w) (hh : Hp w (H ++ R) w') : g.at_ w' := by
 rcases h with ⟨h, _⟩ | rfl
 ·exact (hf g h).ext hh.below
 ·exact mF (hh.own g.row (List.mem_append_right _ List.mem_cons_self))
theorem rq (L : Option Addr) (n c : Nat) (ps : List PX) (k : Nat) (w : World) (hL : Sl w L n 2 (a5 PX.cells ps)) (hn : n ≤ 8) (hf : ∀ g ∈ ps, g.at_ w) (hl : ∀ g ∈ ps, g.mw k) (hk : k ≤ 2000) :
  Calls Tryz.prog 34 #[.slice L n c] w fun r w' => ∃ (g : PX) (R : List HE), cV (iO ps) (jy ps) (lF ps).1 g ∧ (qG ps R g ∧ g.n ≤ 1000000) ∧ r = .returned (.tuple #[.agg #[.int .i64 g.v, .slice g.A g.n g.c], .int .i64 (iO ps)]) ∧ Hp w R w' := by
 have hh := Hp.start w
 have hln := hL.bX PX.len (by decide)
 have hlk := fun w1 hb => pO L n c ps k w1 (hL.ext hb) (by omega) (fun g hg => (hf g hg).ext hb) hl
 unfold iO
 by_cases h0 : fV ps = 0
 ·rw [if_pos h0]
  rw [h0] at hlk
  obtain ⟨hne, hev, hvv⟩ := pF h0
  obtain ⟨g0, pt, rfl⟩ := List.exists_cons_of_ne_nil hne
  rw [nF (g := g0) rfl]
  have hnp : pt.length + 1 = n := hln
  obtain ⟨ad, rfl, hr⟩ := hL.at_ (by omega)
  have hm0 : g0 ∈ g0 :: pt := List.mem_cons_self
  have hg0 := hl g0 hm0
  have h00 : (g0 :: pt)[0]? = some g0 := rfl
  show Calls _ _ _ _ fun r w' => ∃ (g : PX) (R : List HE), cV (pt.foldl du (g0.ts, 0)).2 g0.v (pt.foldl du (g0.ts, 0)).1 g ∧ (qG (g0 :: pt) R g ∧ g.n ≤ 1000000) ∧ r = .returned (.tuple #[.agg #[.int .i64 g.v, .slice g.A g.n g.c], .int .i64 (pt.foldl du (g0.ts, 0)).2]) ∧ Hp w R w'
  refine ak (N := 39) (l := [.slice (some ad) n c]) Tryz.func34 rfl rfl (by simp) ?_
  refine sr ?_
  refine cm hh ?_
  intro b2 w2 hh
  refine aI (ah (ai (sr (mL ?_))))
  refine bz hh (hlk _ hh.below) rfl ?_
  intro w10 hh
  refine aI (ah (sr (mI ?_)))
  refine dQ (ah (cF (al (aj (sr (mL ?_))))))
  refine aV (k := 0) aF.out aC.size rfl rfl (by omega) (by omega) (by decide) ?_
  refine bK (vs := [_, _]) aC.out rfl ((hr.ext hh.below).recAt PX.len h00) rfl (by decide) ?_
  refine cm hh ?_
  intro b5 w5 hh
  refine bE hh 0 [_,_] ?_
  intro ws hh
  replace hh : Hp _ (.blk _ _ [_, _] _ :: _) _ := hh
  refine ah (ai (sr (aI (ah (ao ?_)))))
  refine bp [3, 6, 7, 8, 18, 19, 20, 21, 22, 23, 24, 25, 26, 27, 28, 29, 30, 31, 32, 33, 34, 35, 36, 37] 6
   (fun v w' => ∃ (i : Nat) (g : PX) (R : List HE), i ≤ n - 1 ∧ v = .int .i64 ((i + 1 : Nat) : Int) ∧ ((pt.take i).foldl du (g0.ts, 0)).2 = 0 ∧ g.v = g0.v ∧ g.ts = ((pt.take i).foldl du (g0.ts, 0)).1 ∧ g.mw (2000 + i * 67536) ∧ qG (g0 :: pt) R g ∧ Hp w (.blk b5 31 [.int .i64 g.v, .slice g.A g.n g.c] (0, 0) :: .blk b2 31 [.int .i64 0, .slice none 0 0] (0, 0) :: R) w')
   (fun v _ => n - (intOf v).toNat) ?_ ?_
  ·exact ⟨0, g0, [], Nat.zero_le _, rfl, rfl, rfl, rfl, ⟨hg0.n, hg0.cap, hg0.ok.mono (by omega), hg0.sz⟩, .inl ⟨hm0, rfl⟩, hh⟩
  ·clear hh
   rintro ρ' v w' ⟨i, g, R, hi, rfl, hz, hgv, hts, hgl, hkp, hh⟩
   by_cases hlt : i < n - 1
   ·obtain ⟨q, hx⟩ := aD (l := pt) (k := i) (by omega)
    have hmem : q ∈ g0 :: pt := List.mem_cons_of_mem _ (List.mem_of_getElem? hx)
    have hxx : (g0 :: pt)[i + 1]? = some q := by rw [List.getElem?_cons_succ]; exact hx
    have hfl := hl q hmem
    have hnx := oB (a := (g0.ts, 0)) hx hz
    have hsp := oS (a := (g0.ts, 0)) hx hz
    rw [← hts] at hnx hsp
    have htc := fun w1 (hj : Hp w (.blk b5 31 [.int .i64 g.v, .slice g.A g.n g.c] (0, 0) :: .blk b2 31 [.int .i64 0, .slice none 0 0] (0, 0) :: R) w1) => kg g q (2000 + i * 67536) k w1 (hkp.at_ (H := [_, _]) hf hj) ((hf q hmem).ext hj.below) hgl hfl (by omega)
    refine ai (sr (mI (mL (aW ?_))))
    refine aN (ah (cT (al (aj (ai (ao (ai ?_)))))))
    refine cH [9] [8] [0, 0, 0, 6, 14, 31, 63, 127, 127, 0, 767, 2047] 10 [[(5, none)], [(0, none)], [(6, none)], [(26, some 1), (27, some 2)], [(28, some 3)], [(25, some 0), (29, some 4)], [(30, some 5)], [(24, some 6)], [(24, some 6)], []] [(9, 7), (8, 32), (7, 31), (6, 24), (5, 30), (4, 29), (3, 28), (2, 27), (1, 26), (0, 25)] hh mixed (by kernel_rfl) (lK rfl aC.out cW) rfl (by repeat (first | exact bS | refine bB ?_ | refine bR ?_)) ?_
    refine eL 0 [_,_] ?_
    refine fp ?_
    refine dH ?_
    refine hG ((i + 1)) ?_
    refine sf [_,_] (fun _ hj => (hr.ext hj.hp.below).recAt PX.len hxx) ?_
    refine bP (i := 5) (gM hh.sz (eU g.ts q.ts) g.v (bg (cM g.ts q.ts))) (gM.ext) ?_ ?_
    ·intro ρ1 w1 hj hR
     exact dn rfl (bk ar.out (aG (show ρ1 25 = Value.agg (List.toArray _) from hR.1) (aG (show ρ1 29 = Value.agg (List.toArray _) from hR.2.1) bo))) (htc w1 hj.hp) (fun _ _ ⟨g, og, hq, h3⟩ => ⟨_, hq, h3.below, g, w1, rfl, og, hj.bl.size, h3⟩)
    refine bP (i := 6) (gM hh.sz (eU g.ts q.ts) g.v (bg (cM g.ts q.ts))) (gM.ext) ?_ ?_
    ·intro ρ1 w1 hj hR
     exact let ⟨g, u, e1, e2⟩ := hR.1; ep rfl (dR e1) ⟨Below.refl _ _, g, u, rfl, e2⟩
    refine bP (i := 7) (gO hh.sz (eU g.ts q.ts) g.v (bg (cM g.ts q.ts))) (gO.ext) ?_ ?_
    ·intro ρ1 w1 hj hR
     exact let ⟨g, u, e1, e2⟩ := hR.1; ep rfl (cR (vs := [_, _]) e1 rfl) ⟨Below.refl _ _, g, u, rfl, e2⟩
    refine bP (i := 8) (Is (.int .i64 (eU g.ts q.ts))) (Is.ext) ?_ ?_
    ·intro ρ1 w1 hj hR
     exact let ⟨g, u, e1, e2⟩ := hR.1; ep rfl (cR (vs := [_, _]) e1 rfl) ⟨Below.refl _ _, rfl⟩
    refine bP (i := 9) (cU _ 31 _) cU.ext (fun ρ1 w1 hj hR => gu aC.out hj.bl (fun v w2 h hb => ⟨hb, h⟩)) ?_
    refine a0 ?_
    intro f W hJ hV _
    have hb_8 := hJ.bl
    obtain ⟨v7, v32, v31, v24, v30, v29, v28, v27, v26, v25, _⟩ := hV
    obtain ⟨g30, u30, e30, -⟩ := v30
    obtain ⟨g24, u24, e24, -⟩ := v24
    obtain ⟨g31, u31, e31, o31, q31, h31⟩ := v31
    obtain ⟨b7, e7, hl7, hc7⟩ : cU _ _ _ (f 9) W := v7
    replace hh := hJ.jT hh hl7 hc7 q31 h31 (PX.ne h31 hc7 (by decide))
    refine aO (a4 (aa e7 (aa v32 (aa e31 (aa e24 (aa e30 (aa v29 (aa v28 (aa v27 (aa v26 (aa v25 aQ))))))))))) ?_
    dsimp only [bU]
    clear e30 e24 e31 e7 hJ
    simp only [List.cons_append, List.nil_append] at hh
    obtain ⟨hv, hA, hn2, hc2, hts2⟩ := g31
    replace hh := show Hp w (_ :: .row hA hn2 hc2 58 4 (a5 TR.cells hts2) :: _) W from hh
    have hhn : hts2.length = hn2 := (hh.aJ (i := 1) rfl).bX TR.len (by decide)
    have hhc : hn2 ≤ hc2 := hh.fW (i := 1) rfl
    by_cases he : eU g.ts q.ts = 0
    ·rw [he] at o31
     obtain rfl : g.v = hv := o31.v.symm
     obtain rfl : bg (cM g.ts q.ts) = hts2 := o31.ts.symm
     have h4 := (jM he).2.2
     have htl := mG hgl.ok hfl.ok hfl.sz he (by omega)
     refine bE hh 0 [_,_] ?_
     intro ws hh
     replace hh : Hp _ (.blk _ _ [_, _] _ :: _) _ := hh
     refine aI (ah (ai (sr (mI ?_))))
     refine dQ (ah (cF (al (aj (aq ?_)))))
     refine dx hh 0 [_,_] ?_
     refine bE hh 2 [_,_] ?_
     intro ws hh
     replace hh : Hp _ (_ :: _ :: .blk _ _ [_, _] _ :: _) _ := hh
     refine aE (aY (aj (aq (mI ?_))))
     refine bF (aI (aE (aj ?_)))
     replace hh := hh.perm (List.perm_middle (l₁ := [_, _, _]))
     simp only [List.cons_append, List.nil_append] at hh
     replace hh := hh.perm (List.perm_middle (l₁ := [_, _, _]))
     simp only [List.cons_append, List.nil_append] at hh
     refine ⟨⟨i + 1, ⟨g.v, hA, hn2, hc2, bg (cM g.ts q.ts)⟩, _, by omega, rfl, by rw [hnx]; exact he, hgv, by rw [hnx], ⟨by show hn2 ≤ 1000000; omega, hhc, htl.1.mono (by omega), htl.2⟩, .inr rfl, hh.sub (.cons_cons _ (.cons_cons _ (.cons _ (.cons_cons _ (List.nil_sublist _)))))⟩, by show n - (i + 1 + 1) < n - (i + 1); omega, ?_⟩
     (repeat (first | exact ax _ _ _ | refine az rfl ?_ | refine aw rfl ?_))
    ·rw [hsp he]
     refine bE hh 0 [_,_] ?_
     intro ws hh
     replace hh : Hp _ (.blk _ _ [_, _] _ :: _) _ := hh
     refine aI (ah (ai (sr (mI ?_))))
     refine dQ (ah (cT (sr ?_)))
     refine eh [_,_] (mI ?_)
     refine bE hh 3 [_,_] ?_
     intro ws hh
     replace hh : Hp _ (_ :: _ :: _ :: .blk _ _ [_, _] _ :: _) _ := hh
     refine aI (ah (an (aA (bA (aA (aA (bA (aA ?_))))))))
     refine iL (aH rfl (aK (vs := [_, _]) aC.out (hh.au (i := 3) (n := 2) rfl rfl) rfl) (bZ (cv rfl) a6)) ?_
     replace hh := (hh.sub (List.nil_sublist _)).gd
     exact ⟨PX.nil, _, cV.err he, ⟨.inr rfl, by decide⟩, rfl, hh⟩
   ·obtain rfl : i = n - 1 := by omega
    rw [List.take_of_length_le (by omega)] at hz hts
    refine ai (sr (mI (mL (aW ?_))))
    refine aN (ah (cF ?_))
    refine aU ?_
    refine ay (ay (a7 (aj (sr ?_))))
    refine dx hh 0 [_,_] ?_
    refine bE hh 1 [_,_] ?_
    intro ws hh
    replace hh : Hp _ (_ :: .blk _ _ [_, _] _ :: _) _ := hh
    refine aI (ah (an ?_))
    refine iL (aH rfl (aK (vs := [_, _]) aC.out (hh.au (i := 1) (n := 2) rfl rfl) rfl) (bZ (cv rfl) a6)) ?_
    rw [hz]
    exact ⟨g, _, ⟨hgv, hts⟩, ⟨hkp, hgl.n⟩, rfl, hh.sub (.cons _ (.cons _ (List.Sublist.refl _)))⟩
 ·rw [if_neg h0]
  generalize fV ps = e at *
  refine ak (N := 39) (l := [.slice L n c]) Tryz.func34 rfl rfl (by simp) ?_
  refine sr ?_
  refine cm hh ?_
  intro b2 w2 hh
  refine aI (ah (ai (sr (mL ?_))))
  refine bz hh (hlk _ hh.below) rfl ?_
  intro w10 hh
  refine aI (ah (sr (mI ?_)))
  refine dQ (ah (cT (sr ?_)))
  refine eh [_,_] (mI ?_)
  refine bE hh 0 [_,_] ?_
  intro ws hh
  replace hh : Hp _ (.blk _ _ [_, _] _ :: _) _ := hh
  refine aI (ah (an (aA ?_)))
  refine iL (aH rfl (aK (vs := [_, _]) aC.out (hh.au (i := 0) (n := 2) rfl rfl) rfl) (bZ (cv rfl) a6)) ?_
  replace hh := (hh.sub (List.nil_sublist _)).gd
  exact ⟨PX.nil, _, cV.err h0, ⟨.inr rfl, by decide⟩, rfl, hh⟩
theorem mi (p : PX) (n : Int) (k : Nat) (w : World) (hp : p.at_ w) (lp : p.mw k) (hk : k ≤ 2000) (hn : n ≤ 4 ∨ 127 < n) :
  Calls Tryz.prog 36 #[.agg #[.int .i64 p.v, .slice p.A p.n p.c], .int .i64 n] w fun r w' => ∃ g : PX, cV (gN p n) p.v (gy p n.toNat).1 g ∧ r = .returned (.tuple #[.agg #[.int .i64 g.v, .slice g.A g.n g.c], .int .i64 (gN p n)]) ∧ Hp w [g.row] w' := by
 have hh := Hp.start w
 have hck := fun w1 hb => q6 p k w1 (hp.ext hb) lp
 unfold gN
 by_cases h0 : p.e = 0
 ·rw [if_pos h0]
  rw [h0] at hck
  obtain ⟨hf, h4, _, _⟩ := jZ h0
  have hpl : p.ts.length = p.n := hp.ln
  have hco : j9 p.v = 0 := by unfold j9; rw [if_neg (by rw [hf]; decide)]
  have z1 : Sz 24 ((1 : Int) : Dyadic) := vR (m := 1) (e := 0) (by decide) (by decide) (by decide)
  have hcn := fun w1 => oq p.v (nR ((1 : Int) : Dyadic)) 24 w1 ⟨z1.ok (by decide), by rw [eQ]; exact z1⟩ (by decide)
  rw [hco] at hcn
  have hg1 := fZ [⟨dK p.v, nR ((1 : Int) : Dyadic)⟩]
  have hgo : iS 2000 (bg [⟨dK p.v, nR ((1 : Int) : Dyadic)⟩]) := fun t ht => by
   have h1 : Sz 2000 t.c.d := (lB (k := 24) (l := [⟨dK p.v, nR ((1 : Int) : Dyadic)⟩]) (fun s hs => by rw [List.mem_singleton.1 hs, eQ]; exact z1) t ht).mono (show 24 + 1 ≤ 2000 by decide)
   exact ⟨by rw [(fM _).nf t ht]; exact h1.ok (by decide), h1⟩
  have hgz : ∀ t ∈ bg [⟨dK p.v, nR ((1 : Int) : Dyadic)⟩], t.m.size ≤ 100000 := fun t ht => by
   obtain ⟨s, hs, e⟩ := kD t ht
   rw [← e, List.mem_singleton.1 hs]
   have h1 := fI.1 hf
   have h2 := jc h1.1
   show (dK p.v).size ≤ 100000
   omega
  have hpw : gy p 0 = (bg [⟨dK p.v, nR ((1 : Int) : Dyadic)⟩], 0) := rfl
  generalize bg [⟨dK p.v, nR ((1 : Int) : Dyadic)⟩] = G at *
  by_cases hb : n < 0 ∨ 127 < n
  ·rw [if_pos hb]
   by_cases hneg : n < 0
   ·refine ak (N := 49) (l := [.agg #[.int .i64 p.v, .slice p.A p.n p.c], .int .i64 n]) Tryz.func36 rfl rfl (by simp) ?_
    refine sr ?_
    refine cN hh [_,_] ?_
    intro b2 w2 hh
    refine cm hh ?_
    intro b4 w4 hh
    refine aI (ah (ai (sr ?_)))
    refine dx hh 1 [_,_] ?_
    refine bz hh (hck _ hh.below) rfl ?_
    intro w13 hh
    refine aI (ah (sr (mI ?_)))
    refine dQ (ah (cF (al (aj (ai (sr (mI ?_)))))))
    refine aN (mB ?_)
    first | refine gS ?_ | (refine gT ?_; refine mI ?_) | refine gV ?_
    first | refine gS ?_ | (refine gT ?_; refine bO ?_) | refine gV ?_
    first | refine cw ?_ | refine cx ?_
    refine ah (cT (sr ?_))
    refine eh [_,_] ?_
    refine bE hh 0 [_,_] ?_
    intro ws hh
    replace hh : Hp _ (.blk _ _ [_, _] _ :: _) _ := hh
    refine aI (ah (an (aA ?_)))
    refine iL (aH rfl (aK (vs := [_, _]) aC.out (hh.au (i := 0) (n := 2) rfl rfl) rfl) (bZ (cv rfl) a6)) ?_
    exact ⟨PX.nil, cV.err (by decide), rfl, (hh.sub (List.nil_sublist _)).gd⟩
   ·refine ak (N := 49) (l := [.agg #[.int .i64 p.v, .slice p.A p.n p.c], .int .i64 n]) Tryz.func36 rfl rfl (by simp) ?_
    refine sr ?_
    refine cN hh [_,_] ?_
    intro b2 w2 hh
    refine cm hh ?_
    intro b4 w4 hh
    refine aI (ah (ai (sr ?_)))
    refine dx hh 1 [_,_] ?_
    refine bz hh (hck _ hh.below) rfl ?_
    intro w13 hh
    refine aI (ah (sr (mI ?_)))
    refine dQ (ah (cF (al (aj (ai (sr (mI ?_)))))))
    refine aN (mB ?_)
    first | refine gS ?_ | (refine gT ?_; refine mI ?_) | refine gV ?_
    first | refine gS ?_ | (refine gT ?_; refine bO ?_) | refine gV ?_
    first | refine cw ?_ | refine cx ?_
    refine ah (cT (sr ?_))
    refine eh [_,_] ?_
    refine bE hh 0 [_,_] ?_
    intro ws hh
    replace hh : Hp _ (.blk _ _ [_, _] _ :: _) _ := hh
    refine aI (ah (an (aA ?_)))
    refine iL (aH rfl (aK (vs := [_, _]) aC.out (hh.au (i := 0) (n := 2) rfl rfl) rfl) (bZ (cv rfl) a6)) ?_
    exact ⟨PX.nil, cV.err (by decide), rfl, (hh.sub (List.nil_sublist _)).gd⟩
  ·rw [if_neg hb]
   have hnn : n = (n.toNat : Int) := by omega
   have hn4 : n.toNat ≤ 4 := by omega
   generalize n.toNat = m at *
   subst hnn
   refine ak (N := 49) (l := [.agg #[.int .i64 p.v, .slice p.A p.n p.c], .int .i64 m]) Tryz.func36 rfl rfl (by simp) ?_
   refine sr ?_
   refine cN hh [_,_] ?_
   intro b2 w2 hh
   refine cm hh ?_
   intro b4 w4 hh
   refine aI (ah (ai (sr ?_)))
   refine dx hh 1 [_,_] ?_
   refine bz hh (hck _ hh.below) rfl ?_
   intro w13 hh
   refine aI (ah (sr (mI ?_)))
   refine dQ (ah (cF (al (aj (ai (sr (mI ?_)))))))
   refine aN (mB ?_)
   first | refine gS ?_ | (refine gT ?_; refine mI ?_) | refine gV ?_
   first | refine gS ?_ | (refine gT ?_; refine bO ?_) | refine gV ?_
   first | refine cw ?_ | refine cx ?_
   refine ah (cF (al (aj (ai ?_))))
   refine cH [7] [6] [0, 1, 0, 7, 15, 31, 31, 0, 191, 511] 8 [[(2, none)], [(26, some 0)], [], [(27, some 1), (28, some 2)], [(29, some 3)], [(25, some 4)], [(25, some 4)], []] [(7, 7), (6, 31), (5, 30), (4, 25), (3, 29), (2, 28), (1, 27), (0, 26)] hh mixed (by kernel_rfl) (lK rfl aC.out cW) rfl (by repeat (first | exact bS | refine bB ?_ | refine bR ?_)) ?_
   refine cf ?_
   refine df 1 ?_
   refine dC (fun _ hj => oU 1 _ (by decide) (by decide)) ?_
   refine bP (i := 3) (gM hh.sz 0 p.v G) (gM.ext) ?_ ?_
   ·intro ρ1 w1 hj hR
    exact dn rfl (bk ar.out (aG (show ρ1 27 = Value.int _ _ from hR.1) (aG (show ρ1 28 = Value.agg _ from hR.2.1) bo))) (hcn w1) (fun _ _ ⟨g, og, hq, h3⟩ => ⟨_, hq, h3.below, g, w1, rfl, og, hj.bl.size, h3⟩)
   refine bP (i := 4) (gM hh.sz 0 p.v G) (gM.ext) ?_ ?_
   ·intro ρ1 w1 hj hR
    exact let ⟨g, u, e1, e2⟩ := hR.1; ep rfl (dR e1) ⟨Below.refl _ _, g, u, rfl, e2⟩
   refine bP (i := 5) (gO hh.sz 0 p.v G) (gO.ext) ?_ ?_
   ·intro ρ1 w1 hj hR
    exact let ⟨g, u, e1, e2⟩ := hR.1; ep rfl (cR (vs := [_, _]) e1 rfl) ⟨Below.refl _ _, g, u, rfl, e2⟩
   refine bP (i := 6) (Is (.int .i64 0)) (Is.ext) ?_ ?_
   ·intro ρ1 w1 hj hR
    exact let ⟨g, u, e1, e2⟩ := hR.1; ep rfl (cR (vs := [_, _]) e1 rfl) ⟨Below.refl _ _, rfl⟩
   refine bP (i := 7) (cU _ 31 _) cU.ext (fun ρ1 w1 hj hR => gu aC.out hj.bl (fun v w2 h hb => ⟨hb, h⟩)) ?_
   refine a0 ?_
   intro f W hJ hV _
   have hb_6 := hJ.bl
   obtain ⟨v7, v31, v30, v25, v29, v28, v27, v26, _⟩ := hV
   obtain ⟨g29, u29, e29, -⟩ := v29
   obtain ⟨g25, u25, e25, -⟩ := v25
   obtain ⟨g30, u30, e30, o30, q30, h30⟩ := v30
   obtain ⟨b7, e7, hl7, hc7⟩ : cU _ _ _ (f 7) W := v7
   replace hh := hJ.jT hh hl7 hc7 q30 h30 (PX.ne h30 hc7 (by decide))
   refine aO (a4 (aa e7 (aa v31 (aa e30 (aa e25 (aa e29 (aa v28 (aa v27 (aa v26 aQ))))))))) ?_
   dsimp only [bU]
   clear e29 e25 e30 e7 hJ
   simp only [List.cons_append, List.nil_append] at hh
   obtain ⟨gv, gA, gn, gc, gts⟩ := g30
   obtain rfl : p.v = gv := o30.v.symm
   obtain rfl : G = gts := o30.ts.symm
   replace hh := show Hp w (_ :: .row gA gn gc 58 4 (a5 TR.cells G) :: _) W from hh
   have hgn : G.length = gn := (hh.aJ (i := 1) rfl).bX TR.len (by decide)
   have hgc : gn ≤ gc := hh.fW (i := 1) rfl
   refine bE hh 0 [_,_] ?_
   intro ws hh
   replace hh : Hp _ (.blk _ _ [_, _] _ :: _) _ := hh
   refine aI (ah (ai (sr (aI (ah (ao ?_))))))
   replace hh := hh.perm (List.perm_middle (l₁ := [_]))
   simp only [List.cons_append, List.nil_append] at hh
   refine bp [5, 9, 10, 11, 32, 33, 34, 35, 36, 37, 38, 39, 40, 41, 42, 43, 44, 45, 46, 47] 9
    (fun x w' => ∃ (i : Nat) (g : PX), i ≤ m ∧ x = .int .i64 i ∧ (gy p i).2 = 0 ∧ g.v = p.v ∧ g.ts = (gy p i).1 ∧ g.mw (2000 + i * 67536) ∧ Hp w [.row g.A g.n g.c 58 4 (a5 TR.cells g.ts), .blk b7 31 [.int .i64 g.v, .slice g.A g.n g.c] (0, 0), .blk b4 31 [.int .i64 0, .slice none 0 0] (0, 0), .blk b2 31 [.int .i64 p.v, .slice p.A p.n p.c] (0, 0)] w')
    (fun x _ => m - (intOf x).toNat) ?_ ?_
   ·refine ⟨0, ⟨p.v, gA, gn, gc, G⟩, Nat.zero_le _, rfl, by rw [hpw], rfl, by rw [hpw], ⟨?_, hgc, hgo, hgz⟩, hh⟩
    show gn ≤ 1000000
    have : G.length ≤ 1 := hg1
    omega
   ·clear hh
    rintro ρ' x_ w' ⟨i, g, hi, rfl, hz, hgv, hgt, hlim, hh⟩
    have hnx := iQ p i
    have hst := fun h n => lR (p := p) (i := i + 1) (n := n) h
    rw [show du (gy p i) p = (bg (cM g.ts p.ts), eU g.ts p.ts) by rw [hgt]; exact if_pos hz] at hnx
    by_cases hlt : i < m
    ·have hti := fun h => mG hlim.ok lp.ok lp.sz h (by omega)
     refine ai (sr (mI (mI ?_)))
     refine aN (ah (cT (al (aj (ai (ao (sr ?_)))))))
     refine dx hh 1 [_,_] ?_
     refine dx hh 3 [_,_] ?_
     refine aP (kg g p (2000 + i * 67536) k _ (hh.aJ (i := 0) rfl) (hp.ext hh.below) hlim lp (by omega)) ar.out rfl (by decide) ?_
     rintro e_ w40 ⟨h, oh, rfl, h3⟩
     refine ⟨_, rfl, ?_⟩
     replace hh := hh.join h3
     simp only [List.cons_append, List.nil_append] at hh
     obtain ⟨hv, hA, hn2, hc2, hts2⟩ := h
     replace hh := show Hp w (.row hA hn2 hc2 58 4 (a5 TR.cells hts2) :: _) w40 from hh
     have hhn : hts2.length = hn2 := (hh.aJ (i := 0) rfl).bX TR.len (by decide)
     have hhc : hn2 ≤ hc2 := hh.fW (i := 0) rfl
     by_cases he : eU g.ts p.ts = 0
     ·rw [he] at oh
      have htl := hti he
      have h4 := (jM he).2.2
      obtain rfl : g.v = hv := oh.v.symm
      obtain rfl : bg (cM g.ts p.ts) = hts2 := oh.ts.symm
      refine mT ?_
      refine dJ ?_
      refine dJ ?_
      refine cm hh ?_
      intro b10 w10 hh
      refine bE hh 0 [_,_] ?_
      intro ws hh
      replace hh : Hp _ (.blk _ _ [_, _] _ :: _) _ := hh
      refine aI (ah (ai (sr (mI ?_))))
      refine dQ (ah (cF (al (aj (aq ?_)))))
      refine dx hh 0 [_,_] ?_
      refine bE hh 3 [_,_] ?_
      intro ws hh
      replace hh : Hp _ (_ :: _ :: _ :: .blk _ _ [_, _] _ :: _) _ := hh
      refine aE (aY (aj (aq (mI ?_))))
      refine bF (aI (aE (aj ?_)))
      replace hh := hh.sub (List.Sublist.cons _ (List.Sublist.cons_cons _ (List.Sublist.cons _ (List.Sublist.cons_cons _ (List.Sublist.cons_cons _ (List.Sublist.cons_cons _ List.Sublist.slnil))))))
      refine ⟨⟨i + 1, ⟨g.v, hA, hn2, hc2, bg (cM g.ts p.ts)⟩, by omega, rfl, by rw [hnx]; exact he, hgv, by rw [hnx], ⟨by show hn2 ≤ 1000000; omega, hhc, htl.1.mono (by omega), htl.2⟩, hh⟩, by show m - (i + 1) < m - i; omega, ?_⟩
      (repeat (first | exact ax _ _ _ | refine az rfl ?_ | refine aw rfl ?_))
     ·rw [hst (by rw [hnx]; exact he) m (by omega), hnx]
      refine mT ?_
      refine dJ ?_
      refine dJ ?_
      refine cm hh ?_
      intro b10 w10 hh
      refine bE hh 0 [_,_] ?_
      intro ws hh
      replace hh : Hp _ (.blk _ _ [_, _] _ :: _) _ := hh
      refine aI (ah (ai (sr (mI ?_))))
      refine dQ (ah (cT (sr ?_)))
      refine eh [_,_] (mI ?_)
      refine bE hh 4 [_,_] ?_
      intro ws hh
      replace hh : Hp _ (_ :: _ :: _ :: _ :: .blk _ _ [_, _] _ :: _) _ := hh
      refine aI (ah (an (aA (bA (aA (aA (bA (aA ?_))))))))
      refine iL (aH rfl (aK (vs := [_, _]) aC.out (hh.au (i := 4) (n := 2) rfl rfl) rfl) (bZ (cv rfl) a6)) ?_
      exact ⟨PX.nil, cV.err he, rfl, (hh.sub (List.nil_sublist _)).gd⟩
    ·obtain rfl : i = m := by omega
     rw [hz]
     refine ai (sr (mI (mI ?_)))
     refine aN (ah (cF ?_))
     refine aU ?_
     refine ay (ay (a7 (aj (sr ?_))))
     refine dx hh 1 [_,_] ?_
     refine bE hh 2 [_,_] ?_
     intro ws hh
     replace hh : Hp _ (_ :: _ :: .blk _ _ [_, _] _ :: _) _ := hh
     refine aI (ah (an ?_))
     refine iL (aH rfl (aK (vs := [_, _]) aC.out (hh.au (i := 2) (n := 2) rfl rfl) rfl) (bZ (cv rfl) a6)) ?_
     exact ⟨g, ⟨hgv, hgt⟩, rfl, hh.sub (List.Sublist.cons_cons _ (List.nil_sublist _))⟩
 ·rw [if_neg h0]
  refine ak (N := 49) (l := [.agg #[.int .i64 p.v, .slice p.A p.n p.c], .int .i64 n]) Tryz.func36 rfl rfl (by simp) ?_
  refine sr ?_
  refine cN hh [_,_] ?_
  intro b2 w2 hh
  refine cm hh ?_
  intro b4 w4 hh
  refine aI (ah (ai (sr ?_)))
  refine dx hh 1 [_,_] ?_
  refine bz hh (hck _ hh.below) rfl ?_
  intro w13 hh
  refine aI (ah (sr (mI ?_)))
  refine dQ (ah (cT (sr ?_)))
  refine eh [_,_] (mI ?_)
  refine bE hh 0 [_,_] ?_
  intro ws hh
  replace hh : Hp _ (.blk _ _ [_, _] _ :: _) _ := hh
  refine aI (ah (an (aA ?_)))
  refine iL (aH rfl (aK (vs := [_, _]) aC.out (hh.au (i := 0) (n := 2) rfl rfl) rfl) (bZ (cv rfl) a6)) ?_
  exact ⟨PX.nil, cV.err h0, rfl, (hh.sub (List.nil_sublist _)).gd⟩
end Go.Proofs.YtkgdagjklakajaaGreatDoor
/- The walk through poly.Degs. -/
namespace Go.Proofs.YtkgdagjklakajaaGreatDoor
open Go.RowKit
def uo (s : ByteArray) (i : Nat) : Int := match s.data.toList[i]? with | some c => c.toNat | none => 0
def xd (l : List TR) (i : Nat) : Int := l.foldl (fun m t => max m (uo t.m i)) 0
def ju (m : Nat) (l : List TR) : List Int := (List.range m).map (xd l)
def y4 (v : Int) (ts : List TR) : List Int := if gF v ts = 0 then ju v.toNat ts else []
theorem gq (m : Nat) (l : List TR) : (ju m l).length = m := by unfold ju; rw [List.length_map, List.length_range]
theorem qB {m j : Nat} (l : List TR) (h : j < m) : (ju m l)[j]? = some (xd l j) := by
 unfold ju
 rw [List.getElem?_map, List.getElem?_range h]
 rfl
theorem wW (l : List TR) (t : TR) (i : Nat) : xd (l ++ [t]) i = max (xd l i) (uo t.m i) := by unfold xd; rw [List.foldl_append]; rfl
theorem vW {s : ByteArray} {i : Nat} {c : UInt8} (h : s.data.toList[i]? = some c) : uo s i = c.toNat := by unfold uo; rw [h]
theorem xo {α : Type} {A B : List α} {j : Nat} {y : α} (h : A.length = B.length) (hy : B[j]? = some y) : (B.take j ++ A.drop j).set j y = B.take (j + 1) ++ A.drop (j + 1) := by
 have hj := (List.getElem?_eq_some_iff.1 hy).1
 have hl : (B.take j).length = j := by rw [List.length_take]; omega
 obtain ⟨x, hx⟩ := aD (l := A) (k := j) (by omega)
 rw [jk hx, aM hy, List.set_append_right _ _ (by omega), hl, Nat.sub_self]
 simp
theorem xW {α : Type} {A B : List α} {j : Nat} {x : α} (h : A.length = B.length) (hx : A[j]? = some x) : (B.take j ++ A.drop j)[j]? = some x := by
 have hj := (List.getElem?_eq_some_iff.1 hx).1
 have hl : (B.take j).length = j := by rw [List.length_take]; omega
 rw [List.getElem?_append_right (by omega), hl, Nat.sub_self, List.getElem?_drop, Nat.add_zero, hx]
theorem vM (m : Nat) : eI m [.int .i64 0] = er (ju m []) := by
 have h1 : ∀ n, eI n [.int .i64 0] = er (List.replicate n 0) := fun n => by
  induction n with
  | zero => rfl
  | succ n ih => rw [eI, ih, List.replicate_succ]; rfl
 rw [h1]
 congr 1
 apply List.ext_getElem?
 intro i
 by_cases h : i < m
 ·rw [qB [] h, List.getElem?_replicate, if_pos h]
  rfl
 ·rw [List.getElem?_eq_none (by rw [List.length_replicate]; omega), List.getElem?_eq_none (by rw [gq]; omega)]
theorem qR (p : PX) (k : Nat) (w : World) (hT : g9 w) (hp : p.at_ w) (lp : p.mw k) :
  Calls Tryz.prog 24 #[.agg #[.int .i64 p.v, .slice p.A p.n p.c]] w fun r w' => ∃ A c, r = .returned (.slice A (y4 p.v p.ts).length c) ∧ Hp w [.row A (y4 p.v p.ts).length c 3 1 (er (y4 p.v p.ts))] w' := by
 have hh := Hp.start w
 have hck := fun w1 hT1 hb => pH p k w1 hT1 (hp.ext hb) lp
 by_cases h0 : p.e = 0
 ·rw [show y4 p.v p.ts = ju p.v.toNat p.ts from if_pos h0, gq]
  rw [h0] at hck
  obtain ⟨hf, h4, hmy, _⟩ := jZ h0
  have hpl : p.ts.length = p.n := hp.ln
  obtain ⟨pv, pA, pn, pc, ts⟩ := p
  replace hf := fI.1 hf
  replace hmy : ∀ t ∈ ts, kv pv t = true := hmy
  replace hp : Sl w pA pn 4 (a5 TR.cells ts) := hp
  have hsz : ∀ t ∈ ts, t.m.size ≤ 100000 := lp.sz
  have hn := lp.n
  replace hn : pn ≤ 1000000 := hn
  replace hpl : ts.length = pn := hpl
  obtain ⟨m, rfl⟩ : ∃ m : Nat, pv = (m : Int) := ⟨pv.toNat, by show pv = _; have : 0 ≤ pv := hf.1; omega⟩
  replace hf : m ≤ 12 := by have h9 : (m : Int) ≤ 12 := hf.2; omega
  show Calls _ _ _ _ fun r w' => ∃ A c, r = .returned (.slice A m c) ∧ Hp w [.row A m c 3 1 (er (ju m ts))] w'
  refine ak (N := 42) (l := [.agg #[.int .i64 m, .slice pA pn pc]]) Tryz.func24 rfl rfl (by simp) ?_
  refine sr ?_
  refine cN hh [_,_] ?_
  intro b1 w1 hh
  refine aL (ah (ai (sr ?_)))
  refine dx hh 0 [_,_] ?_
  refine bz hh (hck _ (hT.hp hh) hh.below) rfl ?_
  intro w9 hh
  refine dQ (ah (cF (al (aj (sr (bI ?_))))))
  refine bL hh 0 ?_
  refine fR (n := m) hh rfl rfl (by omega) (by omega) aF.out aC.out rfl (by omega) (by omega) (by decide) ?_
  intro b13 w13 hh
  refine aL (ah (ai (sr (bI ?_))))
  refine bL hh 1 ?_
  refine aW (mI (ah (ao ?_)))
  rw [vM] at hh
  refine bp [5, 6, 7, 17, 18, 19, 20, 21, 22, 23, 24, 25, 26, 27, 28, 29, 30, 31, 32, 33, 34, 35, 36, 37, 38, 39, 40] 17
   (fun v w' => ∃ i : Nat, i ≤ pn ∧ v = .int .i64 i ∧ Hp w [.row (some ⟨b13, 0, none⟩) m m 3 1 (er (ju m (ts.take i))), .blk b1 31 [.int .i64 m, .slice pA pn pc] (0, 0)] w')
   (fun v _ => pn - (intOf v).toNat) ?_ ?_
  ·exact ⟨0, Nat.zero_le _, rfl, hh⟩
  ·clear hh
   rintro ρ' v w' ⟨i, hi, rfl, hh⟩
   by_cases hlt : i < pn
   ·obtain ⟨x, hx⟩ := aD (l := ts) (k := i) (by omega)
    obtain ⟨ad, rfl, hr⟩ := hp.at_ (by omega)
    have hxm := List.mem_of_getElem? hx
    have hxs := hsz x hxm
    have hmx := Bool.and_eq_true_iff.1 (hmy x hxm)
    have hxz : x.m.size = m := by have := of_decide_eq_true hmx.2; omega
    have hxl : x.m.data.toList.length = m := by rw [← dD]; exact hxz
    have hex : gQ x.m.data.toList = ints x.m.data.toList := jP hmx.1
    have hel : (gQ x.m.data.toList).length = m := by rw [hex, eA]; exact hxl
    have hBl : (ju m (ts.take i)).length = (ju m (ts.take (i + 1))).length := by rw [gq, gq]
    refine sr ?_
    refine aN (ah (ai (cT (al (aj (ai (ao (sr ?_))))))))
    refine aV (k := i) aF.out aC.size rfl rfl (by omega) (by omega) (by decide) ?_
    refine bK (vs := [_, _, _, _]) aC.out rfl ((hr.ext hh.below).recAt TR.len hx) rfl (by decide) ?_
    refine cm hh ?_
    intro b5 w5 hh
    refine bE hh 0 [_,_,_,_] ?_
    intro ws hh
    replace hh : Hp _ (.blk _ _ [_, _, _, _] _ :: _) _ := hh
    refine ah (sr (bI ?_))
    refine bL hh 0 ?_
    refine aP (g8 x.m _ hxs) ar.out rfl (by decide) ?_
    rintro e_ w23 ⟨A23, c23, rfl, hown_, hb_⟩
    refine ⟨_, rfl, ?_⟩
    replace hh := hh.bf (x := .row _ _ _ _ _ _) hb_ hown_
    rw [hel] at hh ⊢
    refine aW (mI (ah (ao ?_)))
    refine bp [6, 7, 25, 26, 27, 28, 29, 30, 31, 32, 33, 34, 35, 36, 37, 38, 39] 25
     (fun v w' => ∃ j : Nat, j ≤ m ∧ v = .int .i64 j ∧ Hp w [.row A23 m c23 3 1 (er (gQ x.m.data.toList)), .blk b5 58 [.string x.m, .bool x.c.neg, .string x.c.bT, .int .i64 x.c.e] (0, 0), .row (some ⟨b13, 0, none⟩) m m 3 1 (er ((ju m (ts.take (i + 1))).take j ++ (ju m (ts.take i)).drop j)), .blk b1 31 [.int .i64 m, .slice (some ad) pn pc] (0, 0)] w')
     (fun v _ => m - (intOf v).toNat) ?_ ?_
    ·exact ⟨0, Nat.zero_le _, rfl, hh⟩
    ·clear hh
     rintro ρ2 v w2 ⟨j, hj, rfl, hh⟩
     by_cases hjn : j < m
     ·obtain ⟨e, he⟩ := aD (l := x.m.data.toList) (k := j) (by omega)
      have hee : (gQ x.m.data.toList)[j]? = some (e.toNat : Int) := by rw [hex]; exact pX he
      have ho := xW hBl (qB (ts.take i) hjn)
      have hset := xo hBl (qB (ts.take (i + 1)) hjn)
      have hmx2 : xd (ts.take (i + 1)) j = max (xd (ts.take i) j) (e.toNat : Int) := by rw [aM hx, wW, vW he]
      rw [hmx2] at hset
      have hol : ((ju m (ts.take (i + 1))).take j ++ (ju m (ts.take i)).drop j).length = m := by rw [List.length_append, List.length_take, List.length_drop, gq, gq]; omega
      generalize (ju m (ts.take (i + 1))).take j ++ (ju m (ts.take i)).drop j = M at *
      have hee2 := dX hee
      have ho2 := dX ho
      have hll : (er M).length = m := by rw [ez]; exact hol
      obtain ⟨g, rfl⟩ := hh.fm (i := 0) rfl (by omega)
      refine sr ?_
      refine aN (ah (ai (cT (al (aj (ai (ao (sr (mI ?_)))))))))
      refine bj (k := j) aF.out aC.size rfl rfl (by omega) (by omega) (by decide) ?_
      refine bu aC.out rfl (hh.cz (i := 0) rfl (by first | assumption | (simp only [Nat.mul_one]; assumption))) (by decide) ?_
      refine aI (aI (ah (aq (mL (mI (mL (mI ?_)))))))
      refine bj (k := j) aF.out aC.size rfl rfl (by omega) (by omega) (by decide) ?_
      refine bu aC.out rfl (hh.cz (i := 2) rfl (by first | assumption | (simp only [Nat.mul_one]; assumption))) (by decide) ?_
      refine mI ?_
      refine jn rfl rfl (by decide) ?_
      refine bj aF.out aC.size rfl rfl rfl (by omega) (by decide) ?_
      have hmv : (if (e.toNat : Int) > xd (ts.take i) j then (e.toNat : Int) else xd (ts.take i) j) = max (xd (ts.take i) j) (e.toNat : Int) := by split <;> omega
      refine bC hh (i := 2) (vs := [_]) rfl rfl (bM rfl) rfl aC.out rfl (by omega) rfl ?_
      intro ws hh
      simp only [List.set_cons_zero, List.set_cons_succ] at hh
      rw [hmv, rk _ (by rw [← ez]; omega), hset] at hh
      refine aE (aY (aj (aq ?_)))
      refine bF (mI (aE (aj ?_)))
      refine ⟨⟨j + 1, by omega, rfl, hh⟩, by show m - (j + 1) < m - j; omega, ?_⟩
      (repeat (first | exact ax _ _ _ | refine az rfl ?_ | refine aw rfl ?_))
     ·obtain rfl : j = m := by omega
      rw [List.take_of_length_le (by rw [gq]; omega), List.drop_of_length_le (by rw [gq]; omega), List.append_nil] at hh
      refine sr ?_
      refine aN (ah (ai (cF ?_)))
      refine aU ?_
      refine ay (ay (a7 (aY (aj (aq ?_)))))
      refine bF (mI (aE (aj ?_)))
      replace hh := hh.sub (List.Sublist.cons _ (List.Sublist.cons _ (List.Sublist.cons_cons _ (List.Sublist.cons_cons _ List.Sublist.slnil))))
      refine ⟨⟨i + 1, by omega, rfl, hh⟩, by show pn - (i + 1) < pn - i; omega, ?_⟩
      (repeat (first | exact ax _ _ _ | refine az rfl ?_ | refine aw rfl ?_))
   ·obtain rfl : i = pn := by omega
    rw [List.take_of_length_le (by omega)] at hh
    refine sr ?_
    refine aN (ah (ai (cF ?_)))
    refine aU ?_
    refine ay (ay (a7 (aj (sr (mL (aL (ah (an ?_))))))))
    refine cb ?_
    exact ⟨_, _, rfl, hh.sub (List.Sublist.cons_cons _ (List.nil_sublist _))⟩
 ·rw [show y4 p.v p.ts = [] from if_neg h0]
  refine ak (N := 42) (l := [.agg #[.int .i64 p.v, .slice p.A p.n p.c]]) Tryz.func24 rfl rfl (by simp) ?_
  refine sr ?_
  refine cN hh [_,_] ?_
  intro b1 w1 hh
  refine aL (ah (ai (sr ?_)))
  refine dx hh 0 [_,_] ?_
  refine bz hh (hck _ (hT.hp hh) hh.below) rfl ?_
  intro w9 hh
  refine dQ (ah (cT (sr (aL (ah (an (aA ?_)))))))
  refine cb ?_
  exact ⟨none, 0, rfl, (hh.sub (List.nil_sublist _)).dY 3 1⟩
end Go.Proofs.YtkgdagjklakajaaGreatDoor
/- The walks through ogeeref08.Degs and Own. -/
namespace Go.Proofs.YtkgdagjklakajaaGreatDoor
open Go.RowKit
theorem rz (g : PX) (w : World) (hg : g.at_ w) (hn : g.n ≤ 1000000) :
  Calls Tryz.prog 32 #[.agg #[.int .i64 g.v, .slice g.A g.n g.c]] w fun r w' => ∃ h : PX, (h.v = g.v ∧ h.ts = g.ts ∧ h.n = g.n) ∧ r = .returned (.agg #[.int .i64 h.v, .slice h.A h.n h.c]) ∧ Hp w [h.row] w' := by
 have hh := Hp.start w
 have hgl := hg.ln
 have og := bm TR.one g.ts
 refine ak (N := 10) (l := [.agg #[.int .i64 g.v, .slice g.A g.n g.c]]) Tryz.func32 rfl rfl (by simp) ?_
 refine sr ?_
 refine cN hh [_,_] ?_
 intro b1 w1 hh
 refine cm hh ?_
 intro b2 w2 hh
 refine ah (ai ?_)
 refine iC [] [0, 1, 0, 0, 8, 28, 63, 127] 6 [[(1, none)], [(3, some 0)], [], [(1, none)], [(6, some 3)], [(5, some 2), (7, some 4)]] [(5, 8), (4, 7), (3, 6), (2, 5), (1, 4), (0, 3)] [([], 1, [(5, 8), (4, 7), (3, 6), (2, 5), (1, 4), (0, 3)])] hh mixed (by kernel_rfl) (by kernel_rfl) (by decide) ?_
 refine cf ?_
 refine df 1 ?_
 refine vz (i := 2) aF.out aC.out (fun w1 hj => hj.bl.size) ?_
 refine cf ?_
 refine df 1 ?_
 refine tv (i := 5) (fun ρ1 w1 hj hR => hR.1) (fun ρ1 w1 hj hR => ⟨_, _, (show ρ1 7 = Value.slice _ _ _ from hR.2.1), hg.ext hj.hp.below⟩) aF.out aC.out rfl (by decide) (by first | rfl | assumption) (by unfold maxLen; omega) (by omega) (fun w1 hj => hj.bl.size) ?_
 refine a0 ?_
 intro p_ hp_
 simp only [List.mem_cons, List.not_mem_nil, or_false] at hp_
 rcases hp_ with rfl
 intro f W hJ hV
 have hb_1 := hJ.bl
 obtain ⟨v8, v7, v6, v5, v4, v3, _⟩ := hV
 simp only [iX]
 have e3 : f 0 = _ := v3
 rw [e3]
 have e4 : f 1 = _ := v4
 rw [e4]
 obtain ⟨g5, e5, _⟩ : qH _ _ _ (f 2) W := v5
 rw [e5]
 have e6 : f 3 = _ := v6
 rw [e6]
 have e7 : f 4 = _ := v7
 rw [e7]
 obtain ⟨A8, c8, e8, o8⟩ : n7 _ _ _ _ _ (f 5) W := v8
 rw [e8]
 replace hh := JJ.wF hh hJ.hp o8
 clear o8
 clear e3 e4 e5 e6 e7 e8 hJ
 refine eh [_,_] ?_
 refine cA ?_
 refine dP 7 (by decide) (by kernel_rfl) (by decide) (by kernel_rfl) (by kernel_rfl) ?_
 refine bE hh 1 [_,_] ?_
 intro ws hh
 replace hh : Hp _ (_ :: .blk _ _ [_, _] _ :: _) _ := hh
 refine ah (an ?_)
 refine gx (aH rfl (aK (vs := [_, _]) aC.out (hh.au (i := 1) (n := 2) rfl rfl) rfl) a6) ?_
 exact ⟨⟨g.v, A8, g.n, c8, g.ts⟩, ⟨rfl, rfl, rfl⟩, rfl, hh.sub (List.Sublist.cons_cons _ (List.nil_sublist _))⟩
end Go.Proofs.YtkgdagjklakajaaGreatDoor
/- The walks through ogeeref08.Terms and Same. -/
namespace Go.Proofs.YtkgdagjklakajaaGreatDoor
open Go.RowKit
theorem x9 (n : Nat) (m m' : ByteArray) (s s' : Bool) (a a' : ByteArray) (e e' : Int) (w : World) : (Op.equalIn (n + 4) 58 (.agg #[.string m, .bool s, .string a, .int .i64 e]) (.agg #[.string m', .bool s', .string a', .int .i64 e'])).run Tryz.prog w = .ok (m == m' && ((s == s' && a == a') && e == e')) w := by
 have h1 := fun (u : ByteArray) (x : Bool) (y : ByteArray) (z : Int) => uf (P := Tryz.prog) (cs := #[.string u, .bool x, .string y, .int .i64 z]) (off := 0) (aC.out (P := Tryz.prog) (t := 9)) rfl
 have h2 := fun (u : ByteArray) (x : Bool) (y : ByteArray) (z : Int) => yw (P := Tryz.prog) (cs := #[.string u, .bool x, .string y, .int .i64 z]) (vs := #[.bool x, .string y, .int .i64 z]) (off := 1) (aC.out (P := Tryz.prog) (t := 26)) rfl
 rw [Op.equalIn]
 simp [run_underlying Tryz.underlying58, h1, h2, zH, tc]
 cases h : m == m' <;> cases h' : ((s == s' && a == a') && e == e') <;> simp_all
theorem r4 {x y : TR} : (x.m == y.m && ((x.c.neg == y.c.neg && x.c.bT == y.c.bT) && x.c.e == y.c.e)) = true ↔ x = y := by
 obtain ⟨m, s, a, e⟩ := x
 obtain ⟨m', s', a', e'⟩ := y
 rw [Bool.and_eq_true, k0, wa, TR.mk.injEq]
section
variable {ρ : Rf} {w : World} {d : Option Nat} {ty u : TypeId} {pos : String} {af : Array Edge} {g : Option (Nat × Bool)} {x y : Operand} {s t : TR}
theorem yE {r : Bool} (hx : ev ρ x = .agg s.cells.toArray) (hy : ev ρ y = .agg t.cells.toArray) (hr : (s.m == t.m && ((s.c.neg == t.c.neg && s.c.bT == t.c.bT) && s.c.e == t.c.e)) = r) :
  (execOp (ev ρ) ⟨d, .binOp .neq 58 x y u, ty, pos, af, g⟩).run Tryz.prog w = .ok (.value (.bool !r)) w := by
 have h1 : (Op.equal 58 (.agg s.cells.toArray) (.agg t.cells.toArray)).run Tryz.prog w = .ok r w := by rw [← hr]; exact x9 9996 s.m t.m s.c.neg t.c.neg s.c.bT t.c.bT s.c.e t.c.e w
 simp only [execOp, hx, hy]
 simp [eqGuard, binOp, h1]
theorem xU (hx : ev ρ x = .agg s.cells.toArray) (hy : ev ρ y = .agg t.cells.toArray) (h : s = t) :
  (execOp (ev ρ) ⟨d, .binOp .neq 58 x y u, ty, pos, af, g⟩).run Tryz.prog w = .ok (.value (.bool false)) w := yE hx hy (r4.2 h)
theorem xM (hx : ev ρ x = .agg s.cells.toArray) (hy : ev ρ y = .agg t.cells.toArray) (h : ¬ s = t) :
  (execOp (ev ρ) ⟨d, .binOp .neq 58 x y u, ty, pos, af, g⟩).run Tryz.prog w = .ok (.value (.bool true)) w := yE hx hy (r := false) (Bool.eq_false_iff.2 fun h1 => h (r4.1 h1))
end
theorem xL {α : Type} {a b : List α} {i : Nat} (ha : a.length ≤ i) (hb : b.length ≤ i) (h : a.take i = b.take i) : a = b := by
 rwa [List.take_of_length_le ha, List.take_of_length_le hb] at h
theorem lg (A : Option Addr) (n c : Nat) (a : List TR) (B : Option Addr) (m d : Nat) (b : List TR) (w : World) (hS : Sl w A n 4 (a5 TR.cells a)) (hS2 : Sl w B m 4 (a5 TR.cells b)) (hn : n ≤ 1000000) (hm : m ≤ 1000000) :
  Calls Tryz.prog 30 #[.slice A n c, .slice B m d] w fun r w' => ∃ v, r = .returned (.bool v) ∧ (v = true ↔ a = b) ∧ Below w.heap.size w w' := by
 have hh := Hp.start w
 have hla := hS.bX TR.len (by decide)
 have hlb := hS2.bX TR.len (by decide)
 by_cases hnm : n = m
 ·subst hnm
  refine ak (N := 26) (l := [.slice A n c, .slice B n d]) Tryz.func30 rfl rfl (by simp) ?_
  refine sr (aB (ah (ai (sr (mL (aW (mL (aW ?_))))))))
  refine dQ (ah (cF (al (aj (ai (sr (aI (ah (ao ?_)))))))))
  refine bp [4, 5, 11, 12, 13, 14, 15, 16, 17, 18, 19, 20, 21, 22, 23, 24, 25] 5
   (fun v w' => ∃ i : Nat, i ≤ n ∧ v = .int .i64 i ∧ a.take i = b.take i ∧ Hp w [] w')
   (fun v _ => n - (intOf v).toNat) ?_ ?_
  ·exact ⟨0, Nat.zero_le _, rfl, rfl, hh⟩
  ·clear hh
   rintro ρ' v w' ⟨i, hi, rfl, he, hh⟩
   by_cases hlt : i < n
   ·obtain ⟨s, hs⟩ := aD (l := a) (k := i) (by omega)
    obtain ⟨t, ht⟩ := aD (l := b) (k := i) (by omega)
    obtain ⟨ad, rfl, hr⟩ := hS.at_ (by omega)
    obtain ⟨ad2, rfl, hr2⟩ := hS2.at_ (by omega)
    by_cases hst : s = t
    ·refine ai (sr (mI (mL (aW ?_))))
     refine aN (ah (cT (al (aj (ai (ao (ai ?_)))))))
     refine aR 8 [[(0, none)], [(5, none)], [(17, some 0), (18, some 1)], [(19, some 2)], [(1, none)], [(5, none)], [(21, some 4), (22, some 5)], [(23, some 6)]] [(7, 24), (6, 23), (5, 22), (4, 21), (3, 20), (2, 19), (1, 18), (0, 17)] hh mixed (by kernel_rfl) ?_
     refine fp ?_
     refine dH ?_
     refine hG (i) ?_
     refine sf [_,_,_,_] (fun _ hj => (hr.ext hj.hp.below).recAt TR.len hs) ?_
     refine fp ?_
     refine dH ?_
     refine hG (i) ?_
     refine sf [_,_,_,_] (fun _ hj => (hr2.ext hj.hp.below).recAt TR.len ht) ?_
     refine a0 ?_
     intro f W hJ hV
     have hb_6 := hJ.bl
     obtain ⟨v24, v23, v22, v21, v20, v19, v18, v17, _⟩ := hV
     replace hh := hJ.hp
     refine aO (a4 (aa v24 (aa v23 (aa v22 (aa v21 (aa v20 (aa v19 (aa v18 (aa v17 aQ))))))))) ?_
     dsimp only [bU]
     clear hJ
     refine a3 rfl rfl (by decide) (xU (s := s) (t := t) rfl rfl hst) ?_
     skip
     refine ah (cF (al (aY (aj (aq (mI ?_))))))
     refine bF (aI (aE (aj ?_)))
     refine ⟨⟨i + 1, by omega, rfl, by rw [aM hs, aM ht, he, hst], hh⟩, by show n - (i + 1) < n - i; omega, ?_⟩
     (repeat (first | exact ax _ _ _ | refine az rfl ?_ | refine aw rfl ?_))
    ·refine ai (sr (mI (mL (aW ?_))))
     refine aN (ah (cT (al (aj (ai (ao (ai ?_)))))))
     refine aR 8 [[(0, none)], [(5, none)], [(17, some 0), (18, some 1)], [(19, some 2)], [(1, none)], [(5, none)], [(21, some 4), (22, some 5)], [(23, some 6)]] [(7, 24), (6, 23), (5, 22), (4, 21), (3, 20), (2, 19), (1, 18), (0, 17)] hh mixed (by kernel_rfl) ?_
     refine fp ?_
     refine dH ?_
     refine hG (i) ?_
     refine sf [_,_,_,_] (fun _ hj => (hr.ext hj.hp.below).recAt TR.len hs) ?_
     refine fp ?_
     refine dH ?_
     refine hG (i) ?_
     refine sf [_,_,_,_] (fun _ hj => (hr2.ext hj.hp.below).recAt TR.len ht) ?_
     refine a0 ?_
     intro f W hJ hV
     have hb_6 := hJ.bl
     obtain ⟨v24, v23, v22, v21, v20, v19, v18, v17, _⟩ := hV
     replace hh := hJ.hp
     refine aO (a4 (aa v24 (aa v23 (aa v22 (aa v21 (aa v20 (aa v19 (aa v18 (aa v17 aQ))))))))) ?_
     dsimp only [bU]
     clear hJ
     refine a3 rfl rfl (by decide) (xM (s := s) (t := t) rfl rfl hst) ?_
     skip
     refine ah (cT (sr (aB (ah (an (bA (aA (aA (bA (aA ?_))))))))))
     refine cb ?_
     refine ⟨_, rfl, ⟨fun h => (nomatch h), fun h => absurd ?_ hst⟩, hh.below⟩
     rw [h, ht] at hs
     exact (Option.some.inj hs).symm
   ·refine ai (sr (mI (mL (aW ?_))))
    refine aN (ah (cF ?_))
    refine aU ?_
    refine ay (ay (a7 (aj (sr (aB (ah (an ?_)))))))
    refine cb ?_
    exact ⟨_, rfl, ⟨fun _ => xL (by omega) (by omega) he, fun _ => rfl⟩, hh.below⟩
 ·refine ak (N := 26) (l := [.slice A n c, .slice B m d]) Tryz.func30 rfl rfl (by simp) ?_
  refine sr (aB (ah (ai (sr (mL (aW (mL (aW ?_))))))))
  refine dQ (ah (cT (sr (aB (ah (an (aA ?_)))))))
  refine cb ?_
  exact ⟨_, rfl, ⟨fun h => (nomatch h), fun h => absurd (by rw [← hla, ← hlb, h]) hnm⟩, hh.below⟩
theorem r7 (p q : PX) (w : World) (hp : p.at_ w) (hq : q.at_ w) (hn : p.n ≤ 1000000) (hm : q.n ≤ 1000000) :
  Calls Tryz.prog 20 #[.agg #[.int .i64 p.v, .slice p.A p.n p.c], .agg #[.int .i64 q.v, .slice q.A q.n q.c]] w fun r w' => ∃ v, r = .returned (.bool v) ∧ (v = true ↔ p.v = q.v ∧ p.ts = q.ts) ∧ Below w.heap.size w w' := by
 have hh := Hp.start w
 have ht := fun w1 hb => lg p.A p.n p.c p.ts q.A q.n q.c q.ts w1 (hp.ext hb) (hq.ext hb) hn hm
 by_cases hv : p.v = q.v
 ·refine ak (N := 17) (l := [.agg #[.int .i64 p.v, .slice p.A p.n p.c], .agg #[.int .i64 q.v, .slice q.A q.n q.c]]) Tryz.func20 rfl rfl (by simp) ?_
  refine sr ?_
  refine cN hh [_,_] ?_
  intro b2 w2 hh
  refine cN hh [_,_] ?_
  intro b3 w3 hh
  refine aB (ah (sr (bI ?_)))
  refine bL hh 1 ?_
  refine bI ?_
  refine bL hh 0 ?_
  refine dv (mB ?_)
  first | refine gS ?_ | (refine gT ?_; refine bI ?_) | refine gV ?_
  first | refine gS ?_ | (refine gT ?_; refine bL hh 1 ?_) | refine gV ?_
  first | refine gS ?_ | (refine gT ?_; refine bI ?_) | refine gV ?_
  first | refine gS ?_ | (refine gT ?_; refine bL hh 0 ?_) | refine gV ?_
  refine a8 rfl rfl ?_
  refine aP (ht _ hh.below) ar.out rfl (by decide) ?_
  rintro e_ w15 ⟨v_, rfl, hv_, hb_⟩
  refine ⟨_, rfl, ?_⟩
  replace hh := hh.ext hb_
  first | refine cw ?_ | refine cx ?_
  refine aB (ah (an ?_))
  refine cb ?_
  exact ⟨v_, rfl, hv_.trans ⟨fun h => ⟨hv, h⟩, fun h => h.2⟩, hh.below⟩
 ·refine ak (N := 17) (l := [.agg #[.int .i64 p.v, .slice p.A p.n p.c], .agg #[.int .i64 q.v, .slice q.A q.n q.c]]) Tryz.func20 rfl rfl (by simp) ?_
  refine sr ?_
  refine cN hh [_,_] ?_
  intro b2 w2 hh
  refine cN hh [_,_] ?_
  intro b3 w3 hh
  refine aB (ah (sr (bI ?_)))
  refine bL hh 1 ?_
  refine bI ?_
  refine bL hh 0 ?_
  refine dv (mB ?_)
  first | refine gS ?_ | (refine gT ?_; refine bI ?_) | refine gV ?_
  first | refine gS ?_ | (refine gT ?_; refine bL hh 1 ?_) | refine gV ?_
  first | refine gS ?_ | (refine gT ?_; refine bI ?_) | refine gV ?_
  first | refine gS ?_ | (refine gT ?_; refine bL hh 0 ?_) | refine gV ?_
  refine bV (by decide) rfl rfl (by decide) ?_
  first | refine cw ?_ | refine cx ?_
  refine aB (ah (an ?_))
  refine cb ?_
  exact ⟨_, rfl, ⟨fun h => (nomatch h), fun h => absurd h.1 hv⟩, hh.below⟩
end Go.Proofs.YtkgdagjklakajaaGreatDoor
/- The walks through ogeelaw08's own helpers. -/
namespace Go.Proofs.YtkgdagjklakajaaGreatDoor
open Go.RowKit
def sB (a : NR) : Bool := decide ((24 : Int) < a.bT.size ∨ a.e < -300 ∨ 300 < a.e)
theorem sy (a : NR) (w : World) :
  Calls Tryz.prog 16 #[.agg #[.bool a.neg, .string a.bT, .int .i64 a.e]] w fun r w' => r = .returned (.bool (sB a)) ∧ Below w.heap.size w w' := by
 have hh := Hp.start w
 by_cases h1 : (24 : Int) < a.bT.size
 ·refine ak (N := 18) (l := [.agg #[.bool a.neg, .string a.bT, .int .i64 a.e]]) Tryz.func16 rfl rfl (by simp) ?_
  refine sr ?_
  refine cN hh [_,_,_] ?_
  intro b1 w1 hh
  refine aB (ah (sr (bI (bI ?_))))
  refine bL hh 0 ?_
  refine a9 aF.out rfl (by decide) ?_
  refine bO (mB ?_)
  first | refine gS ?_ | (refine gT ?_; refine bI ?_) | refine gV ?_
  first | refine gS ?_ | (refine gT ?_; refine bL hh 0 ?_) | refine gV ?_
  first | refine gS ?_ | (refine gT ?_; refine aN ?_) | refine gV ?_
  first | refine cw ?_ | refine cx ?_
  refine mB ?_
  first | refine gS ?_ | (refine gT ?_; refine bI ?_) | refine gV ?_
  first | refine gS ?_ | (refine gT ?_; refine bL hh 0 ?_) | refine gV ?_
  first | refine gS ?_ | (refine gT ?_; refine bO ?_) | refine gV ?_
  first | refine cw ?_ | refine cx ?_
  refine aB (ah (an ?_))
  refine cb ?_
  refine ⟨?_, hh.below⟩
  unfold sB
  rw [decide_eq_true (.inl h1)]
 ·by_cases h2 : a.e < -300
  ·refine ak (N := 18) (l := [.agg #[.bool a.neg, .string a.bT, .int .i64 a.e]]) Tryz.func16 rfl rfl (by simp) ?_
   refine sr ?_
   refine cN hh [_,_,_] ?_
   intro b1 w1 hh
   refine aB (ah (sr (bI (bI ?_))))
   refine bL hh 0 ?_
   refine a9 aF.out rfl (by decide) ?_
   refine bO (mB ?_)
   first | refine gS ?_ | (refine gT ?_; refine bI ?_) | refine gV ?_
   first | refine gS ?_ | (refine gT ?_; refine bL hh 0 ?_) | refine gV ?_
   first | refine gS ?_ | (refine gT ?_; refine aN ?_) | refine gV ?_
   first | refine cw ?_ | refine cx ?_
   refine mB ?_
   first | refine gS ?_ | (refine gT ?_; refine bI ?_) | refine gV ?_
   first | refine gS ?_ | (refine gT ?_; refine bL hh 0 ?_) | refine gV ?_
   first | refine gS ?_ | (refine gT ?_; refine bO ?_) | refine gV ?_
   first | refine cw ?_ | refine cx ?_
   refine aB (ah (an ?_))
   refine cb ?_
   refine ⟨?_, hh.below⟩
   unfold sB
   rw [decide_eq_true (.inr (.inl h2))]
  ·by_cases h3 : 300 < a.e
   ·refine ak (N := 18) (l := [.agg #[.bool a.neg, .string a.bT, .int .i64 a.e]]) Tryz.func16 rfl rfl (by simp) ?_
    refine sr ?_
    refine cN hh [_,_,_] ?_
    intro b1 w1 hh
    refine aB (ah (sr (bI (bI ?_))))
    refine bL hh 0 ?_
    refine a9 aF.out rfl (by decide) ?_
    refine bO (mB ?_)
    first | refine gS ?_ | (refine gT ?_; refine bI ?_) | refine gV ?_
    first | refine gS ?_ | (refine gT ?_; refine bL hh 0 ?_) | refine gV ?_
    first | refine gS ?_ | (refine gT ?_; refine aN ?_) | refine gV ?_
    first | refine cw ?_ | refine cx ?_
    refine mB ?_
    first | refine gS ?_ | (refine gT ?_; refine bI ?_) | refine gV ?_
    first | refine gS ?_ | (refine gT ?_; refine bL hh 0 ?_) | refine gV ?_
    first | refine gS ?_ | (refine gT ?_; refine bO ?_) | refine gV ?_
    first | refine cw ?_ | refine cx ?_
    refine aB (ah (an ?_))
    refine cb ?_
    refine ⟨?_, hh.below⟩
    unfold sB
    rw [decide_eq_true (.inr (.inr h3))]
   ·refine ak (N := 18) (l := [.agg #[.bool a.neg, .string a.bT, .int .i64 a.e]]) Tryz.func16 rfl rfl (by simp) ?_
    refine sr ?_
    refine cN hh [_,_,_] ?_
    intro b1 w1 hh
    refine aB (ah (sr (bI (bI ?_))))
    refine bL hh 0 ?_
    refine a9 aF.out rfl (by decide) ?_
    refine bO (mB ?_)
    first | refine gS ?_ | (refine gT ?_; refine bI ?_) | refine gV ?_
    first | refine gS ?_ | (refine gT ?_; refine bL hh 0 ?_) | refine gV ?_
    first | refine gS ?_ | (refine gT ?_; refine aN ?_) | refine gV ?_
    first | refine cw ?_ | refine cx ?_
    refine mB ?_
    first | refine gS ?_ | (refine gT ?_; refine bI ?_) | refine gV ?_
    first | refine gS ?_ | (refine gT ?_; refine bL hh 0 ?_) | refine gV ?_
    first | refine gS ?_ | (refine gT ?_; refine bO ?_) | refine gV ?_
    first | refine cw ?_ | refine cx ?_
    refine aB (ah (an ?_))
    refine cb ?_
    refine ⟨?_, hh.below⟩
    unfold sB
    rw [decide_eq_false (by omega)]
theorem Ab {a : NR} (h : sB a = false) : a.ok ∧ Sz 492 a.d := by
 have h' := of_decide_eq_false h
 have h1 : (a.bT.size : Int) ≤ 24 := by omega
 have h2 : -300 ≤ a.e := by omega
 have h3 : a.e ≤ 300 := by omega
 exact ⟨⟨by omega, by omega, by omega⟩, Sz.raw (m := 192) (E := 300) (by omega) h2 h3⟩
structure z2 (ts : List TR) : Prop where
 n : ts.length ≤ 12
 ok : iS 492 ts
 sz : ∀ t ∈ ts, t.m.size ≤ 50
theorem qL (A : Option Addr) (n c : Nat) (ts : List TR) (w : World) (hS : Sl w A n 4 (a5 TR.cells ts)) :
  Calls Tryz.prog 15 #[.slice A n c] w fun r w' => ∃ b : Bool, r = .returned (.bool b) ∧ (b = false → z2 ts) ∧ Below w.heap.size w w' := by
 have hh := Hp.start w
 have hln := hS.bX TR.len (by decide)
 by_cases h1 : 12 < n
 ·refine ak (N := 28) (l := [.slice A n c]) Tryz.func15 rfl rfl (by simp) ?_
  refine sr (aB (ah (ai (sr (mL (aW ?_))))))
  refine bO (ah (cT (sr (aB (ah (an (aA ?_)))))))
  refine cb ?_
  exact ⟨_, rfl, fun h => (nomatch h), hh.below⟩
 ·refine ak (N := 28) (l := [.slice A n c]) Tryz.func15 rfl rfl (by simp) ?_
  refine sr (aB (ah (ai (sr (mL (aW ?_))))))
  refine bO (ah (cF (al (aj (ai (sr (aI (ah (ao ?_)))))))))
  refine bp [2, 3, 7, 8, 9, 10, 11, 12, 13, 14, 15, 16, 17, 18, 19, 20, 21, 22, 23, 24, 25, 26, 27] 3
   (fun v w' => ∃ i : Nat, i ≤ n ∧ v = .int .i64 i ∧ iS 492 (ts.take i) ∧ (∀ t ∈ ts.take i, t.m.size ≤ 50) ∧ Hp w [] w')
   (fun v _ => n - (intOf v).toNat) ?_ ?_
  ·exact ⟨0, Nat.zero_le _, rfl, fun t ht => (nomatch ht), fun t ht => (nomatch ht), hh⟩
  ·clear hh
   rintro ρ' v w' ⟨i, hi, rfl, hall, hsz, hh⟩
   by_cases hlt : i < n
   ·obtain ⟨x, hx⟩ := aD (l := ts) (k := i) (by omega)
    obtain ⟨ad, rfl, hr⟩ := hS.at_ (by omega)
    have hfa := fun w1 => sy x.c w1
    have hbm := dD x.m
    cases hf : sB x.c with
    | true =>
     rw [hf] at hfa
     refine ai (sr (mI (mL (aW ?_))))
     refine aN (ah (cT (al (aj (ai (ao (sr (mL (mI ?_)))))))))
     refine aV (k := i) aF.out aC.size rfl rfl (by omega) (by omega) (by decide) ?_
     refine db eu.out rfl (by decide) ?_
     refine bK (vs := [_, _, _]) aC.out rfl (((hr.ext hh.below).recAt TR.len hx).drop 1) rfl (by decide) ?_
     refine bz hh (hfa _) rfl ?_
     intro w18 hh
     refine mB ?_
     first | refine gS ?_ | (refine gT ?_; refine mL ?_) | refine gV ?_
     first | refine gS ?_ | (refine gT ?_; refine mI ?_) | refine gV ?_
     first | refine gS ?_ | (refine gT ?_; refine aV aF.out aC.size rfl rfl rfl (by omega) (by decide) ?_) | refine gV ?_
     first | refine gS ?_ | (refine gT ?_; refine db eu.out rfl (by decide) ?_) | refine gV ?_
     first | (refine bV (by decide) rfl rfl (by decide) ?_) | (refine eW (by decide) rfl rfl ?_)
     first | refine gS ?_ | (refine gT ?_; refine a9 aF.out rfl (by decide) ?_) | refine gV ?_
     first | refine gS ?_ | (refine gT ?_; refine bO ?_) | refine gV ?_
     first | refine cw ?_ | refine cx ?_
     refine ah (cT (sr (aB (ah (an (bA (aA (aA (bA (aA ?_))))))))))
     refine cb ?_
     exact ⟨_, rfl, fun h => (nomatch h), hh.below⟩
    | false =>
     rw [hf] at hfa
     by_cases h5 : 50 < x.m.size
     ·refine ai (sr (mI (mL (aW ?_))))
      refine aN (ah (cT (al (aj (ai (ao (sr (mL (mI ?_)))))))))
      refine aV (k := i) aF.out aC.size rfl rfl (by omega) (by omega) (by decide) ?_
      refine db eu.out rfl (by decide) ?_
      refine bK (vs := [_, _, _]) aC.out rfl (((hr.ext hh.below).recAt TR.len hx).drop 1) rfl (by decide) ?_
      refine bz hh (hfa _) rfl ?_
      intro w18 hh
      refine mB ?_
      first | refine gS ?_ | (refine gT ?_; refine mL ?_) | refine gV ?_
      first | refine gS ?_ | (refine gT ?_; refine mI ?_) | refine gV ?_
      first | refine gS ?_ | (refine gT ?_; refine aV (k := i) aF.out aC.size rfl rfl (by omega) (by omega) (by decide) ?_) | refine gV ?_
      first | refine gS ?_ | (refine gT ?_; refine db eu.out rfl (by decide) ?_) | refine gV ?_
      refine a8 rfl rfl ?_
      refine bu aC.out rfl (((hr.ext hh.below).recAt TR.len hx).cell (i := 0) rfl) (by decide) ?_
      first | refine gS ?_ | (refine gT ?_; refine a9 aF.out rfl (by decide) ?_) | refine gV ?_
      first | refine gS ?_ | (refine gT ?_; refine bO ?_) | refine gV ?_
      first | refine cw ?_ | refine cx ?_
      refine ah (cT (sr (aB (ah (an (bA (aA (aA (bA (aA ?_))))))))))
      refine cb ?_
      exact ⟨_, rfl, fun h => (nomatch h), hh.below⟩
     ·refine ai (sr (mI (mL (aW ?_))))
      refine aN (ah (cT (al (aj (ai (ao (sr (mL (mI ?_)))))))))
      refine aV (k := i) aF.out aC.size rfl rfl (by omega) (by omega) (by decide) ?_
      refine db eu.out rfl (by decide) ?_
      refine bK (vs := [_, _, _]) aC.out rfl (((hr.ext hh.below).recAt TR.len hx).drop 1) rfl (by decide) ?_
      refine bz hh (hfa _) rfl ?_
      intro w18 hh
      refine mB ?_
      first | refine gS ?_ | (refine gT ?_; refine mL ?_) | refine gV ?_
      first | refine gS ?_ | (refine gT ?_; refine mI ?_) | refine gV ?_
      first | refine gS ?_ | (refine gT ?_; refine aV (k := i) aF.out aC.size rfl rfl (by omega) (by omega) (by decide) ?_) | refine gV ?_
      first | refine gS ?_ | (refine gT ?_; refine db eu.out rfl (by decide) ?_) | refine gV ?_
      refine a8 rfl rfl ?_
      refine bu aC.out rfl (((hr.ext hh.below).recAt TR.len hx).cell (i := 0) rfl) (by decide) ?_
      first | refine gS ?_ | (refine gT ?_; refine a9 aF.out rfl (by decide) ?_) | refine gV ?_
      first | refine gS ?_ | (refine gT ?_; refine bO ?_) | refine gV ?_
      first | refine cw ?_ | refine cx ?_
      refine ah (cF (al (aY (aj (aq (mI ?_))))))
      refine bF (aI (aE (aj ?_)))
      refine ⟨⟨i + 1, by omega, rfl, fun t ht => ?_, fun t ht => ?_, hh⟩, by show n - (i + 1) < n - i; omega, ?_⟩
      ·rw [aM hx] at ht
       rcases List.mem_append.1 ht with ht | ht
       ·exact hall t ht
       ·rw [List.mem_singleton.1 ht]; exact Ab hf
      ·rw [aM hx] at ht
       rcases List.mem_append.1 ht with ht | ht
       ·exact hsz t ht
       ·rw [List.mem_singleton.1 ht]; omega
      ·(repeat (first | exact ax _ _ _ | refine az rfl ?_ | refine aw rfl ?_))
   ·rw [List.take_of_length_le (by omega)] at hall hsz
    refine ai (sr (mI (mL (aW ?_))))
    refine aN (ah (cF ?_))
    refine aU ?_
    refine ay (ay (a7 (aj (sr (aB (ah (an ?_)))))))
    refine cb ?_
    exact ⟨_, rfl, fun _ => ⟨by omega, hall, hsz⟩, hh.below⟩
theorem sE (L : Option Addr) (n c : Nat) (ps : List PX) (w : World) (hL : Sl w L n 2 (a5 PX.cells ps)) (hf : ∀ g ∈ ps, g.at_ w) :
  Calls Tryz.prog 31 #[.slice L n c] w fun r w' => ∃ b : Bool, r = .returned (.bool b) ∧ (b = false → n ≤ 3 ∧ ∀ g ∈ ps, z2 g.ts) ∧ Below w.heap.size w w' := by
 have hh := Hp.start w
 have hln := hL.bX PX.len (by decide)
 by_cases h1 : 3 < n
 ·refine ak (N := 19) (l := [.slice L n c]) Tryz.func31 rfl rfl (by simp) ?_
  refine sr (aB (ah (ai (sr (mL (aW ?_))))))
  refine bO (ah (cT (sr (aB (ah (an (aA ?_)))))))
  refine cb ?_
  exact ⟨_, rfl, fun h => (nomatch h), hh.below⟩
 ·refine ak (N := 19) (l := [.slice L n c]) Tryz.func31 rfl rfl (by simp) ?_
  refine sr (aB (ah (ai (sr (mL (aW ?_))))))
  refine bO (ah (cF (al (aj (ai (sr (aI (ah (ao ?_)))))))))
  refine bp [2, 3, 7, 8, 9, 10, 11, 12, 13, 14, 15, 16, 17, 18] 3
   (fun v w' => ∃ i : Nat, i ≤ n ∧ v = .int .i64 i ∧ (∀ g ∈ ps.take i, z2 g.ts) ∧ Hp w [] w')
   (fun v _ => n - (intOf v).toNat) ?_ ?_
  ·exact ⟨0, Nat.zero_le _, rfl, fun t ht => (nomatch ht), hh⟩
  ·clear hh
   rintro ρ' v w' ⟨i, hi, rfl, hall, hh⟩
   by_cases hlt : i < n
   ·obtain ⟨g, hx⟩ := aD (l := ps) (k := i) (by omega)
    obtain ⟨ad, rfl, hr⟩ := hL.at_ (by omega)
    refine ai (sr (mI (mL (aW ?_))))
    refine aN (ah (cT (al (aj (ai (ao (sr (mL (mI ?_)))))))))
    refine aV (k := i) aF.out aC.size rfl rfl (by omega) (by omega) (by decide) ?_
    refine db eu.out rfl (by decide) ?_
    refine bu aC.out rfl (cD hh.below ((hr.recAt PX.len hx) 1 _ rfl)) (by decide) ?_
    refine aP (qL g.A g.n g.c g.ts _ ((hf g (List.mem_of_getElem? hx)).ext hh.below)) ar.out rfl (by decide) ?_
    rintro e_ w18 ⟨b, rfl, hb, hb_⟩
    refine ⟨_, rfl, ?_⟩
    replace hh := hh.ext hb_
    cases b with
    | true =>
     refine ah (cT (sr (aB (ah (an (bA (aA (aA (bA (aA ?_))))))))))
     refine cb ?_
     exact ⟨_, rfl, fun h => (nomatch h), hh.below⟩
    | false =>
     refine ah (cF (al (aY (aj (aq (mI ?_))))))
     refine bF (aI (aE (aj ?_)))
     refine ⟨⟨i + 1, by omega, rfl, fun t ht => ?_, hh⟩, by show n - (i + 1) < n - i; omega, ?_⟩
     ·rw [aM hx] at ht
      rcases List.mem_append.1 ht with ht | ht
      ·exact hall t ht
      ·rw [List.mem_singleton.1 ht]; exact hb rfl
     ·(repeat (first | exact ax _ _ _ | refine az rfl ?_ | refine aw rfl ?_))
   ·rw [List.take_of_length_le (by omega)] at hall
    refine ai (sr (mI (mL (aW ?_))))
    refine aN (ah (cF ?_))
    refine aU ?_
    refine ay (ay (a7 (aj (sr (aB (ah (an ?_)))))))
    refine cb ?_
    exact ⟨_, rfl, fun _ => ⟨by omega, hall⟩, hh.below⟩
end Go.Proofs.YtkgdagjklakajaaGreatDoor
/- Plain: what polynomials come to hangs on their variables and terms alone; how long it is. -/
namespace Go.Proofs.YtkgdagjklakajaaGreatDoor
open Go.RowKit
def PX.norm (g : PX) : PX := ⟨g.v, none, 0, 0, g.ts⟩
theorem oC (ps : List PX) : fV (ps.map PX.norm) = fV ps := by
 have h1 : (ps.map PX.norm).find? (fun g => decide (g.e ≠ 0)) = (ps.find? fun g => decide (g.e ≠ 0)).map PX.norm := List.find?_map ..
 have h2 : qm (ps.map PX.norm) = qm ps := by
  unfold qm
  rw [List.any_map, List.map_map]
  rfl
 unfold fV
 rw [h1, h2, List.length_map]
 cases ps.find? (fun g => decide (g.e ≠ 0)) <;> rfl
theorem oW (ps : List PX) : lF (ps.map PX.norm) = lF ps := by
 cases ps with
 | nil => rfl
 | cons g l =>
  show (l.map PX.norm).foldl du (g.ts, 0) = l.foldl du (g.ts, 0)
  rw [List.foldl_map]
  rfl
theorem nB (ps : List PX) : jy (ps.map PX.norm) = jy ps := by unfold jy; rw [List.map_map]; rfl
theorem xF {os ps : List PX} (h : os.map PX.norm = ps.map PX.norm) : iO os = iO ps ∧ jy os = jy ps ∧ lF os = lF ps := by
 have h1 : fV os = fV ps := by rw [← oC, h, oC]
 have h2 : lF os = lF ps := by rw [← oW, h, oW]
 refine ⟨?_, by rw [← nB, h, nB], h2⟩
 unfold iO
 rw [h1, h2]
theorem kX {p q : PX} (hv : p.v = q.v) (ht : p.ts = q.ts) : ∀ n, gy p n = gy q n
 | 0 => by unfold gy; rw [hv]; rfl
 | n + 1 => by
  rw [iQ, iQ, kX hv ht n]
  unfold du
  rw [ht]
theorem yl {p q : PX} (hv : p.v = q.v) (ht : p.ts = q.ts) (n : Int) : gN p n = gN q n := by
 unfold gN
 rw [kX hv ht, show p.e = q.e by unfold PX.e; rw [hv, ht]]
theorem nu : ∀ (l : List PX) (a : List TR × Int), (l.foldl du a).2 = 0 → a.1.length ≤ 4096 → (l.foldl du a).1.length ≤ 4096
 | [], _, _, h => h
 | g :: l, a, h0, h => by
  rw [List.foldl_cons] at h0 ⊢
  refine nu l _ h0 ?_
  by_cases ha : a.2 = 0
  ·have e : du a g = (bg (cM a.1 g.ts), eU a.1 g.ts) := if_pos ha
   by_cases ht : eU a.1 g.ts = 0
   ·rw [e]
    exact (jM ht).2.2
   ·rw [nJ (by rw [e]; exact ht) l, e] at h0
    exact absurd h0 ht
  ·have e : du a g = a := if_neg ha
   rw [e]
   exact h
theorem wx {ps : List PX} (h : ∀ g ∈ ps, g.ts.length ≤ 4096) (h0 : iO ps = 0) : (lF ps).1.length ≤ 4096 := by
 have h1 : (lF ps).2 = 0 := by
  unfold iO at h0
  by_cases hl : fV ps = 0
  ·rwa [if_pos hl] at h0
  ·rw [if_neg hl] at h0; exact absurd h0 hl
 cases ps with
 | nil => exact Nat.zero_le _
 | cons g l => exact nu l (g.ts, 0) h1 (h g List.mem_cons_self)
theorem vU {p : PX} {n : Nat} (h : (gy p n).2 = 0) : (gy p n).1.length ≤ 4096 :=
 nu _ _ h (Nat.le_trans (fZ _) (Nat.le_of_ble_eq_true rfl))
theorem mu {p : PX} {n : Int} (h : gN p n = 0) : (gy p n.toNat).1.length ≤ 4096 := by
 unfold gN at h
 by_cases h1 : p.e = 0
 ·rw [if_pos h1] at h
  by_cases h2 : n < 0 ∨ 127 < n
  ·rw [if_pos h2] at h; cases h
  ·rw [if_neg h2] at h; exact vU h
 ·rw [if_neg h1] at h; exact absurd h h1
theorem cV.n4 {E v : Int} {ts : List TR} {g : PX} {w : World} (o : cV E v ts g) (h : g.at_ w) (hb : E = 0 → ts.length ≤ 4096) : g.n ≤ 4096 := by
 have hl := h.ln
 have hts := o.ts
 by_cases hE : E = 0
 ·rw [if_pos hE] at hts
  have := hb hE
  rw [hts] at hl
  omega
 ·rw [if_neg hE] at hts
  rw [hts] at hl
  have h0 : g.n = 0 := hl.symm
  omega
structure vB (ps os : List PX) (R : List HE) : Prop where
 eq : ∀ (j : Nat) (g o : PX), ps[j]? = some g → os[j]? = some o → o.v = g.v ∧ o.ts = g.ts ∧ o.n = g.n
 my : ∀ o ∈ os, o.row ∈ R ∧ o.n ≤ o.c
theorem vB.add {ps os : List PX} {R : List HE} {g o : PX} (h : vB ps os R) (hx : ps[os.length]? = some g) (he : o.v = g.v ∧ o.ts = g.ts ∧ o.n = g.n) (hc : o.n ≤ o.c) : vB ps (os ++ [o]) (o.row :: R) := by
 refine ⟨fun j g2 o2 h1 h2 => ?_, fun o2 h2 => ?_⟩
 ·by_cases hj : j < os.length
  ·rw [List.getElem?_append_left hj] at h2
   exact h.eq j g2 o2 h1 h2
  ·by_cases hj2 : j = os.length
   ·subst hj2
    rw [List.getElem?_append_right (Nat.le_refl _), Nat.sub_self] at h2
    rw [hx] at h1
    cases h1; cases h2
    exact he
   ·rw [List.getElem?_eq_none (by rw [List.length_append]; simp; omega)] at h2
    cases h2
 ·rcases List.mem_append.1 h2 with h2 | h2
  ·exact ⟨List.mem_cons_of_mem _ (h.my o2 h2).1, (h.my o2 h2).2⟩
  ·rw [List.mem_singleton.1 h2]
   exact ⟨List.mem_cons_self, hc⟩
theorem vB.key {ps os : List PX} {R : List HE} (h : vB ps os R) (hl : os.length = ps.length) : os.map PX.norm = ps.map PX.norm := by
 apply List.ext_getElem?
 intro j
 rw [List.getElem?_map, List.getElem?_map]
 by_cases hj : j < os.length
 ·obtain ⟨o, ho⟩ := aD hj
  obtain ⟨g, hg⟩ := aD (l := ps) (k := j) (by omega)
  obtain ⟨e1, e2, _⟩ := h.eq j g o hg ho
  rw [ho, hg]
  show some (PX.norm o) = some (PX.norm g)
  unfold PX.norm
  rw [e1, e2]
 ·rw [List.getElem?_eq_none (by omega), List.getElem?_eq_none (by omega)]
theorem kY {w w' : World} {H : List HE} {g : PX} (hh : Hp w H w') (h : g.row ∈ H) : g.at_ w' := mF (hh.own g.row h)
theorem z2.mw {g : PX} {w : World} (h : z2 g.ts) (ha : g.at_ w) (hc : g.n ≤ g.c) : g.mw 492 := ⟨by have := h.n; have := ha.ln; omega, hc, h.ok, fun t ht => Nat.le_trans (h.sz t ht) (by decide)⟩
end Go.Proofs.YtkgdagjklakajaaGreatDoor
/- The walk through poly.Scale. -/
namespace Go.Proofs.YtkgdagjklakajaaGreatDoor
open Go.RowKit
def Ay (p : PX) (c : Dyadic) : Int := if p.e = 0 then hF (p.ts.map (Ah c)) else p.e
end Go.Proofs.YtkgdagjklakajaaGreatDoor
/- Plain: polynomials with whole numbers, given byte by byte; what they come to can be reckoned. No program in sight. -/
namespace Go.Proofs.YtkgdagjklakajaaGreatDoor
open Go.RowKit
abbrev ZT := List (List UInt8 × Int)
def zT (L : ZT) : List TR := L.map fun x => ⟨str x.1, nR ((x.2 : Int) : Dyadic)⟩
def zS (L : ZT) (b : List UInt8) : Int := match L with | [] => 0 | x :: L => (if x.1 = b then x.2 else 0) + zS L b
theorem yp (a b : Int) : ((a + b : Int) : Dyadic) = (a : Dyadic) + (b : Dyadic) := (mr a b 0).symm
theorem ya (a b : Int) : ((a * b : Int) : Dyadic) = (a : Dyadic) * (b : Dyadic) := (mE a b 0 0).symm
theorem xq {a : Int} (h : (a : Dyadic) = 0) : a = 0 := gk (p := 0) h
theorem qa (m : ByteArray) : ∀ L : ZT, fA (zT L) m = (zS L m.data.toList : Int)
 | [] => rfl
 | x :: L => by
  show fA (⟨str x.1, nR ((x.2 : Int) : Dyadic)⟩ :: zT L) m = ((if x.1 = m.data.toList then x.2 else 0) + zS L m.data.toList : Int)
  rw [ej, qa m L, yp]
  congr 1
  by_cases h : x.1 = m.data.toList
  ·rw [if_pos h, if_pos (by rw [h]; exact wO m)]
   exact eQ _
  ·rw [if_neg h, if_neg (fun e => h (by rw [← e]; exact (cO _).symm))]
   rfl
def zC : ZT → Bool
 | [] => true
 | [x] => !decide (x.2 = 0)
 | x :: y :: L => !decide (x.2 = 0) && (Op.bytesLess x.1 y.1 && zC (y :: L))
theorem q9 : ∀ {L : ZT}, zC L = true → Canon (zT L) := fun {L} h => by
 have h1 : ∀ {L : ZT}, zC L = true → ks (zT L) = true ∧ ∀ x ∈ L, x.2 ≠ 0 := fun {L} => by
  induction L with
  | nil => exact fun _ => ⟨rfl, fun x hx => nomatch hx⟩
  | cons x L ih =>
   intro h
   cases L with
   | nil => exact ⟨rfl, fun y hy => by rw [List.mem_singleton.1 hy]; simpa [zC] using h⟩
   | cons y L =>
    simp only [zC, Bool.and_eq_true, Bool.not_eq_true', decide_eq_false_iff_not] at h
    obtain ⟨i1, i2⟩ := ih h.2.2
    refine ⟨?_, fun z hz => ?_⟩
    ·show (fq (str x.1) (str y.1) && ks (zT (y :: L))) = true
     rw [i1, show fq (str x.1) (str y.1) = true by unfold fq; rw [cO, cO]; exact h.2.1]
     rfl
    ·rcases List.mem_cons.1 hz with rfl | hz
     ·exact h.1
     ·exact i2 z hz
 obtain ⟨i1, i2⟩ := h1 h
 refine ⟨lz.1 i1, fun t ht => ?_, fun t ht => ?_⟩
 ·obtain ⟨x, hx, rfl⟩ := List.mem_map.1 ht
  show (nR _).d ≠ 0
  rw [eQ]
  exact fun e => i2 x hx (xq e)
 ·obtain ⟨x, hx, rfl⟩ := List.mem_map.1 ht
  show nR _ = nR (nR _).d
  rw [eQ]
def zE (L K : ZT) : Bool := (L ++ K).all fun x => decide (zS L x.1 = zS K x.1)
theorem tV {L : ZT} {b : List UInt8} (h : ∀ x ∈ L, x.1 ≠ b) : zS L b = 0 := by
 induction L with
 | nil => rfl
 | cons x L ih => rw [zS, if_neg (h x List.mem_cons_self), ih fun y hy => h y (List.mem_cons_of_mem _ hy)]; rfl
theorem zU {L K : ZT} (h : zE L K = true) (b : List UInt8) : zS L b = zS K b := by
 by_cases hb : ∃ x ∈ L ++ K, x.1 = b
 ·obtain ⟨x, hx, rfl⟩ := hb
  exact of_decide_eq_true (List.all_eq_true.1 h x hx)
 ·rw [tV fun x hx e => hb ⟨x, List.mem_append_left _ hx, e⟩, tV fun x hx e => hb ⟨x, List.mem_append_right _ hx, e⟩]
theorem lW {L K : ZT} (h : (zC K && zE K L) = true) : bg (zT L) = zT K := by
 rw [Bool.and_eq_true] at h
 exact (lJ (q9 h.1) fun m => by rw [qa, qa, zU h.2]).symm
def zP (P Q : ZT) : ZT := P.flatMap fun x => Q.map fun y => ((mulL x.1 y.1).1, x.2 * y.2)
def zr (P Q : ZT) : List Int := P.flatMap fun x => Q.map fun y => (mulL x.1 y.1).2
theorem vG (P Q : ZT) : cM (zT P) (zT Q) = zT (zP P Q) := by
 unfold cM zT zP
 rw [List.flatMap_map, List.map_flatMap]
 refine congrArg (fun f => P.flatMap f) (funext fun x => ?_)
 rw [List.map_map, List.map_map]
 refine List.map_congr_left fun y _ => ?_
 show (⟨str (mulL (str x.1).data.toList (str y.1).data.toList).1, nR ((nR _).d * (nR _).d)⟩ : TR) = ⟨str (mulL x.1 y.1).1, nR ((x.2 * y.2 : Int) : Dyadic)⟩
 rw [cO, cO, eQ, eQ, ya]
theorem vD (P Q : ZT) : nO (zT P) (zT Q) = zr P Q := by
 unfold nO zT zr
 rw [List.flatMap_map]
 refine congrArg (fun f => P.flatMap f) (funext fun x => ?_)
 rw [List.map_map]
 refine List.map_congr_left fun y _ => ?_
 show (mulL (str x.1).data.toList (str y.1).data.toList).2 = _
 rw [cO, cO]
theorem gP (L : ZT) : (zT L).length = L.length := List.length_map _
theorem tk {P Q K : ZT} (h : (zC K && zE K (zP P Q)) = true) (he : (zr P Q).all (fun e => decide (e = 0)) = true) (hn : P.length * Q.length ≤ 4096) : du (zT P, 0) ⟨0, none, 0, 0, zT Q⟩ = (zT K, 0) := by
 have h1 : ∀ e ∈ nO (zT P) (zT Q), e = 0 := fun e hm => by
  rw [vD] at hm
  exact of_decide_eq_true (List.all_eq_true.1 he e hm)
 have h2 : eU (zT P) (zT Q) = 0 := by
  rw [m0 (by rw [gP, gP]; omega) h1]
  unfold hF
  rw [if_neg]
  have := fZ (cM (zT P) (zT Q))
  rw [jX, gP, gP] at this
  omega
 unfold du
 rw [if_pos rfl]
 show (bg (cM (zT P) (zT Q)), eU (zT P) (zT Q)) = _
 rw [h2, vG, lW h]
theorem uH {a : List TR × Int} {g h : PX} (e : g.ts = h.ts) : du a g = du a h := by unfold du; rw [e]
def zM (v : Int) (L : ZT) : Bool := L.all fun x => eE x.1 && decide ((x.1.length : Int) = v)
theorem wj {v : Int} {L : ZT} (h : zM v L = true) : ∀ t ∈ zT L, kv v t = true := fun t ht => by
 obtain ⟨x, hx, rfl⟩ := List.mem_map.1 ht
 have := List.all_eq_true.1 h x hx
 unfold kv
 show (eE (str x.1).data.toList && decide (((str x.1).size : Int) = v)) = true
 rw [cO, gU]
 exact this
theorem kU {v : Int} {L : ZT} (hf : gm v = true) (h : (zC L && zM v L) = true) (hn : L.length ≤ 4096) : gF v (zT L) = 0 := by
 rw [Bool.and_eq_true] at h
 exact xT hf (by rw [gP]; exact hn) (wj h.2) (q9 h.1)
theorem yu {v : Int} {L : ZT} (hf : gm v = true) (h : zM v L = true) (hn : L.length ≤ 4096) : kW v (zT L) = 0 := by
 unfold kW
 rw [if_neg, if_neg (by rw [gP]; omega)]
 ·unfold hF
  rw [if_neg]
  have := fZ (zT L)
  rw [gP] at this
  omega
 ·rintro (h1 | h1)
  ·rw [hf] at h1; cases h1
  ·obtain ⟨t, ht, h2⟩ := List.any_eq_true.1 h1
   rw [wj h t ht] at h2
   cases h2
def zB (L : ZT) : Bool := L.all fun x => decide (x.2.natAbs < 256) && decide (x.1.length ≤ 50)
theorem tJ {L : ZT} (h : zB L = true) : iS 24 (zT L) ∧ ∀ t ∈ zT L, t.m.size ≤ 50 := by
 refine ⟨fun t ht => ?_, fun t ht => ?_⟩
 ·obtain ⟨x, hx, rfl⟩ := List.mem_map.1 ht
  have := Bool.and_eq_true_iff.1 (List.all_eq_true.1 h x hx)
  have z : Sz 24 ((x.2 : Int) : Dyadic) := vR (m := x.2) (e := 0) (of_decide_eq_true this.1) (by decide) (by decide)
  exact ⟨z.ok (by decide), by show Sz 24 (nR _).d; rw [eQ]; exact z⟩
 ·obtain ⟨x, hx, rfl⟩ := List.mem_map.1 ht
  have := Bool.and_eq_true_iff.1 (List.all_eq_true.1 h x hx)
  show (str x.1).size ≤ 50
  rw [gU]
  exact of_decide_eq_true this.2
theorem nE {v : Int} {A : Option Addr} {n c : Nat} {L : ZT} (h : zB L = true) (hn : n ≤ 1000000) (hc : n ≤ c) : (⟨v, A, n, c, zT L⟩ : PX).mw 24 := ⟨hn, hc, (tJ h).1, fun t ht => Nat.le_trans ((tJ h).2 t ht) (by decide)⟩
end Go.Proofs.YtkgdagjklakajaaGreatDoor
/- The walks through ogeelaw08.whole and two; the chapter's examples one by one. -/
namespace Go.Proofs.YtkgdagjklakajaaGreatDoor
open Go.RowKit
theorem ct (n : Int) (w : World) (h1 : -9223372036854775808 ≤ n) (h2 : n ≤ 9223372036854775807) :
  Calls Tryz.prog 40 #[.int .i64 n] w fun r w' => r = .returned (.agg #[.bool (nR (n : Dyadic)).neg, .string (nR (n : Dyadic)).bT, .int .i64 (nR (n : Dyadic)).e]) ∧ Below w.heap.size w w' := by
 have hh := Hp.start w
 refine ak (N := 5) (l := [.int .i64 n]) Tryz.func40 rfl rfl (by simp) ?_
 refine sr ?_
 refine cm hh ?_
 intro b2 w2 hh
 refine ah (sr (mI ?_))
 refine bz hh (oU n _ h1 h2) rfl ?_
 intro w4 hh
 refine bE hh 0 [_,_,_] ?_
 intro ws hh
 replace hh : Hp _ (.blk _ _ [_, _, _] _ :: _) _ := hh
 refine ah (an ?_)
 refine gx (aH rfl (aK (vs := [_, _, _]) aC.out (hh.au (i := 0) (n := 3) rfl rfl) rfl) a6) ?_
 exact ⟨rfl, hh.below⟩
def ta (n : Int) : ZT := [([0, 1], n), ([1, 0], 1)]
theorem lX (n : Int) (w : World) (h1 : -9223372036854775808 ≤ n) (h2 : n ≤ 9223372036854775807) :
  Calls Tryz.prog 88 #[.int .i64 n] w fun r w' => ∃ (A : Option Addr) (c : Nat), r = .returned (.agg #[.int .i64 2, .slice A 2 c]) ∧ Hp w [.row A 2 c 58 4 (a5 TR.cells (zT (ta n)))] w' := by
 have hh := Hp.start w
 refine ak (N := 10) (l := [.int .i64 n]) Tryz.func88 rfl rfl (by simp) ?_
 refine sr ?_
 refine cm hh ?_
 intro b2 w2 hh
 refine ah (sr (mI ?_))
 refine bz hh (ct n _ h1 h2) rfl ?_
 intro w4 hh
 refine eh [_,_,_,_] ?_
 refine bz hh (ct 1 _ (by decide) (by decide)) rfl ?_
 intro w6 hh
 refine eh [_,_,_,_] ?_
 refine bs hh (cs := [_, _, _, _, _, _, _, _]) aF.out aC.out (br (dL rfl) (br (dL rfl) cn)) rfl rfl (by decide) (by decide) (by decide) rfl (by decide) ?_
 intro b8 w8 hh
 refine eh [_,_] ?_
 refine bE hh 1 [_,_] ?_
 intro ws hh
 replace hh : Hp _ (_ :: .blk _ _ [_, _] _ :: _) _ := hh
 refine ah (an ?_)
 refine gx (aH rfl (aK (vs := [_, _]) aC.out (hh.au (i := 1) (n := 2) rfl rfl) rfl) a6) ?_
 exact ⟨_, _, rfl, hh.sub (List.Sublist.cons_cons _ (List.nil_sublist _))⟩
theorem cV.zT {v : Int} {K : ZT} {g : PX} {w : World} (o : cV 0 v (zT K) g) (h : g.at_ w) : ∃ A c, g = ⟨v, A, K.length, c, zT K⟩ := by
 obtain ⟨gv, gA, gn, gc, gts⟩ := g
 obtain rfl : v = gv := o.v.symm
 obtain rfl : Go.Proofs.YtkgdagjklakajaaGreatDoor.zT K = gts := o.ts.symm
 have : (Go.Proofs.YtkgdagjklakajaaGreatDoor.zT K).length = gn := h.ln
 rw [gP] at this
 exact ⟨gA, gc, by rw [this]⟩
theorem zu (L K : ZT) (v : Int) (A : Option Addr) (n c : Nat) (w : World) (hT : g9 w) (hS : Sl w A n 4 (a5 TR.cells (zT L))) (hn : n ≤ 4096) (hf : gm v = true) (hk : (zC K && zE K L) = true) (hm : zM v L = true) (hb : zB L = true) :
  Calls Tryz.prog 18 #[.int .i64 v, .slice A n c] w fun r w' => ∃ A' c', r = .returned (.tuple #[.agg #[.int .i64 v, .slice A' K.length c'], .int .i64 0]) ∧ Hp w [.row A' K.length c' 58 4 (a5 TR.cells (zT K))] w' := by
 have hln := hS.bX TR.len (by decide)
 rw [gP] at hln
 have := jD v A n c (zT L) 24 w hT hS (by omega) (by decide) (tJ hb).1 fun t ht => Nat.le_trans ((tJ hb).2 t ht) (by decide)
 rw [yu hf hm (by omega), lW hk] at this
 refine this.mono fun r w' ⟨g, og, hr, h3⟩ => ?_
 obtain ⟨A', c', rfl⟩ := og.zT (h3.aJ (i := 0) rfl)
 exact ⟨A', c', hr, h3⟩
theorem wC {g h : PX} (h1 : g.e = 0) (h2 : h.e = 0) (h3 : h.v = g.v) : fV [g, h] = 0 := by
 have e : [g, h].find? (fun g => decide (g.e ≠ 0)) = none := gJ (List.any_eq_false.2 fun x hx => by
  rcases List.mem_cons.1 hx with rfl | hx
  ·simp [h1]
  ·rw [List.mem_singleton.1 hx]; simp [h2])
 unfold fV
 rw [e]
 show (if 2 = 0 ∨ qm [g, h] = true then (1 : Int) else 0) = 0
 rw [if_neg]
 rintro (h0 | h0)
 ·cases h0
 ·obtain ⟨x, hx, hx2⟩ := List.any_eq_true.1 h0
  have hx3 : x.v ≠ g.v := of_decide_eq_true hx2
  rcases List.mem_cons.1 hx with rfl | hx
  ·exact hx3 rfl
  ·rw [List.mem_singleton.1 hx] at hx3
   exact hx3 h3
theorem Af (P Q K : ZT) (v : Int) (L : Option Addr) (A B : Option Addr) (a b n c : Nat) (w : World) (hT : g9 w) (hL : Sl w L 2 2 [.int .i64 v, .slice A n a, .int .i64 v, .slice B n b]) (hA : Sl w A n 4 (a5 TR.cells (zT P))) (hB : Sl w B n 4 (a5 TR.cells (zT Q))) (hc : 2 ≤ c) (ha : n ≤ a) (hb : n ≤ b) (hn : n ≤ 60) (hf : gm v = true)
  (h1 : (zC P && zM v P) = true) (h2 : (zC Q && zM v Q) = true) (h3 : (zB P && zB Q) = true) (hk : (zC K && zE K (zP P Q)) = true) (he : (zr P Q).all (fun e => decide (e = 0)) = true) :
  Calls Tryz.prog 33 #[.slice L 2 c] w fun r w' => ∃ A' c', r = .returned (.tuple #[.agg #[.int .i64 v, .slice A' K.length c'], .int .i64 0]) ∧ Hp w [.row A' K.length c' 58 4 (a5 TR.cells (zT K))] w' := by
 have hlp := hA.bX TR.len (by decide)
 have hlq := hB.bX TR.len (by decide)
 rw [gP] at hlp hlq
 rw [Bool.and_eq_true] at h3
 have hpe : (⟨v, A, n, a, zT P⟩ : PX).e = 0 := kU hf h1 (by omega)
 have hqe : (⟨v, B, n, b, zT Q⟩ : PX).e = 0 := kU hf h2 (by omega)
 have := m5 L 2 c [⟨v, A, n, a, zT P⟩, ⟨v, B, n, b, zT Q⟩] 24 w hT hL hc (by decide) (fun g hg => by
  rcases List.mem_cons.1 hg with rfl | hg
  ·exact hA
  ·rw [List.mem_singleton.1 hg]; exact hB) (fun g hg => by
  rcases List.mem_cons.1 hg with rfl | hg
  ·exact nE h3.1 (by omega) ha
  ·rw [List.mem_singleton.1 hg]; exact nE h3.2 (by omega) hb) (by decide)
 have hlk := wC hpe hqe rfl
 have hms : lF [⟨v, A, n, a, zT P⟩, ⟨v, B, n, b, zT Q⟩] = (zT K, 0) := by
  show du (zT P, 0) ⟨v, B, n, b, zT Q⟩ = _
  exact (uH (g := ⟨v, B, n, b, zT Q⟩) (h := ⟨0, none, 0, 0, zT Q⟩) rfl).trans (tk hk he (by rw [hlp, hlq]; exact Nat.le_trans (Nat.mul_le_mul hn hn) (by decide)))
 unfold iO at this
 rw [if_pos hlk, hms] at this
 refine this.mono fun r w' ⟨g, og, hr, h3⟩ => ?_
 obtain ⟨A', c', rfl⟩ := og.zT (h3.aJ (i := 0) rfl)
 exact ⟨A', c', hr, h3⟩
theorem Ai (P K : ZT) (A : Option Addr) (n c : Nat) (w : World) (hT : g9 w) (hA : Sl w A n 4 (a5 TR.cells (zT P))) (hc : n ≤ c) (hn : n ≤ 60)
  (h1 : (zC P && zM 1 P) = true) (h3 : zB P = true) (h0 : (zC P && zE P (zP [([0], 1)] P)) = true) (e0 : (zr [([0], 1)] P).all (fun e => decide (e = 0)) = true) (hk : (zC K && zE K (zP P P)) = true) (he : (zr P P).all (fun e => decide (e = 0)) = true) :
  Calls Tryz.prog 35 #[.agg #[.int .i64 1, .slice A n c], .int .i64 2] w fun r w' => ∃ A' c', r = .returned (.tuple #[.agg #[.int .i64 1, .slice A' K.length c'], .int .i64 0]) ∧ Hp w [.row A' K.length c' 58 4 (a5 TR.cells (zT K))] w' := by
 have hlp := hA.bX TR.len (by decide)
 rw [gP] at hlp
 have hpe : (⟨1, A, n, c, zT P⟩ : PX).e = 0 := kU (show gm 1 = true by decide) h1 (by omega)
 have := ji ⟨1, A, n, c, zT P⟩ 2 24 w hT hA (nE h3 (by omega) hc) (by decide) (.inl (by decide))
 have hg1 : bg [⟨dK 1, nR ((1 : Int) : Dyadic)⟩] = zT [([0], 1)] := lW (L := [([0], 1)]) (K := [([0], 1)]) rfl
 have hpw : gy ⟨1, A, n, c, zT P⟩ 2 = (zT K, 0) := by
  show du (du (bg [⟨dK 1, nR ((1 : Int) : Dyadic)⟩], 0) ⟨1, A, n, c, zT P⟩) ⟨1, A, n, c, zT P⟩ = _
  have e : ∀ a, du a ⟨1, A, n, c, zT P⟩ = du a ⟨0, none, 0, 0, zT P⟩ := fun a => uH rfl
  rw [hg1, e, e, tk h0 e0 (by rw [hlp]; show 1 * n ≤ 4096; omega)]
  exact tk hk he (by rw [hlp]; exact Nat.le_trans (Nat.mul_le_mul hn hn) (by decide))
 have e2 : gN ⟨1, A, n, c, zT P⟩ 2 = 0 := by
  unfold gN
  rw [if_pos hpe, if_neg (by decide), show ((2 : Int).toNat) = 2 from rfl, hpw]
 rw [e2, show ((2 : Int).toNat) = 2 from rfl, hpw] at this
 refine this.mono fun r w' ⟨g, og, hr, h3⟩ => ?_
 obtain ⟨A', c', rfl⟩ := og.zT (h3.aJ (i := 0) rfl)
 exact ⟨A', c', hr, h3⟩
theorem tt (K : ZT) (A : Option Addr) (n c : Nat) (B : Option Addr) (d : Nat) (w : World) (hA : Sl w A n 4 (a5 TR.cells (zT K))) (hB : Sl w B n 4 (a5 TR.cells (zT K))) (hn : n ≤ 60) :
  Calls Tryz.prog 30 #[.slice A n c, .slice B n d] w fun r w' => r = .returned (.bool true) ∧ Below w.heap.size w w' :=
 (lg A n c (zT K) B n d (zT K) w hA hB (by omega) (by omega)).mono fun r w' ⟨v, hr, hv, hb⟩ => ⟨by rw [hr, hv.2 rfl], hb⟩
end Go.Proofs.YtkgdagjklakajaaGreatDoor
/- The walk through ogeelaw08.awake. -/
namespace Go.Proofs.YtkgdagjklakajaaGreatDoor
open Go.RowKit
theorem yr (w : World) (hT : g9 w) : Calls Tryz.prog 28 #[.int .i64 2, .int .i64 2] w fun r w' => ∃ g : PX, r = .returned (.tuple #[.agg #[.int .i64 g.v, .slice g.A g.n g.c], .int .i64 1]) ∧ Below w.heap.size w w' :=
 (sv 2 2 w hT).mono fun r w' ⟨g, _, hr, h3⟩ => ⟨g, hr, h3.below⟩
theorem vk (w : World) (hT : g9 w) : Calls Tryz.prog 26 #[.int .i64 13, .agg #[.bool (nR ((1 : Int) : Dyadic)).neg, .string (nR ((1 : Int) : Dyadic)).bT, .int .i64 (nR ((1 : Int) : Dyadic)).e]] w fun r w' => ∃ g : PX, r = .returned (.tuple #[.agg #[.int .i64 g.v, .slice g.A g.n g.c], .int .i64 1]) ∧ Below w.heap.size w w' := by
 have z1 : Sz 24 ((1 : Int) : Dyadic) := vR (m := 1) (e := 0) (by decide) (by decide) (by decide)
 exact (kK 13 (nR ((1 : Int) : Dyadic)) 24 w hT ⟨z1.ok (by decide), by rw [eQ]; exact z1⟩ (by decide)).mono fun r w' ⟨g, _, hr, h3⟩ => ⟨g, hr, h3.below⟩
theorem xI (w : World) (hT : g9 w) : Calls Tryz.prog 37 #[.slice none 0 0] w fun r w' => ∃ g : PX, r = .returned (.tuple #[.agg #[.int .i64 g.v, .slice g.A g.n g.c], .int .i64 1]) ∧ Below w.heap.size w w' :=
 (sI none 0 0 [] 24 w hT (Sl.nil _ _ _) (by decide) (fun g hg => nomatch hg) (fun g hg => nomatch hg) (by decide)).mono fun r w' ⟨g, _, hr, h3⟩ => ⟨g, hr, h3.below⟩
theorem xm (A : Option Addr) (c : Nat) (w : World) (hT : g9 w) (hA : Sl w A 2 4 (a5 TR.cells (zT (ta 1)))) (hc : 2 ≤ c) : Calls Tryz.prog 35 #[.agg #[.int .i64 2, .slice A 2 c], .int .i64 (-1)] w fun r w' => ∃ g : PX, r = .returned (.tuple #[.agg #[.int .i64 g.v, .slice g.A g.n g.c], .int .i64 1]) ∧ Below w.heap.size w w' := by
 have hpe : (⟨2, A, 2, c, zT (ta 1)⟩ : PX).e = 0 := kU (show gm 2 = true by decide) rfl (by decide)
 have := ji ⟨2, A, 2, c, zT (ta 1)⟩ (-1) 24 w hT hA (nE rfl (by decide) hc) (by decide) (.inl (by decide))
 rw [show gN ⟨2, A, 2, c, zT (ta 1)⟩ (-1) = 1 by unfold gN; rw [if_pos hpe, if_pos (.inl (by decide))]] at this
 exact this.mono fun r w' ⟨g, _, hr, h3⟩ => ⟨g, hr, h3.below⟩
theorem z3 (A : Option Addr) (c : Nat) (w : World) (hT : g9 w) (hA : Sl w A 1 4 (a5 TR.cells (zT [([2, 1], 1)]))) (hc : 1 ≤ c) : Calls Tryz.prog 24 #[.agg #[.int .i64 2, .slice A 1 c]] w fun r w' => ∃ A' c', r = .returned (.slice A' 2 c') ∧ Hp w [.row A' 2 c' 3 1 (er [2, 1])] w' := by
 have hpe : gF 2 (zT [([2, 1], 1)]) = 0 := kU (show gm 2 = true by decide) rfl (by decide)
 have := qR ⟨2, A, 1, c, zT [([2, 1], 1)]⟩ 24 w hT hA (nE rfl (by decide) hc)
 rw [show y4 2 (zT [([2, 1], 1)]) = [2, 1] by unfold y4; rw [if_pos hpe]; rfl] at this
 exact this
theorem Ag (A B : Option Addr) (c d : Nat) (w : World) (hA : Sl w A 2 1 (er [2, 1])) (hB : Sl w B 2 1 (er [2, 1])) : Calls Tryz.prog 23 #[.slice A 2 c, .slice B 2 d] w fun r w' => r = .returned (.bool true) ∧ Below w.heap.size w w' := n8 A B 2 2 c d [2, 1] [2, 1] w hA hB (by decide) (by decide)
theorem fa (w : World) (hT : g9 w) : Calls Tryz.prog 17 #[] w fun r w' => r = .returned (.bool true) ∧ Below w.heap.size w w' := by
 have hh := Hp.start w
 refine ak (N := 128) (l := []) Tryz.func17 rfl rfl (by simp) ?_
 refine sr (aB (ah (sr ?_)))
 refine bz hh (ct 2 _ (by decide) (by decide)) rfl ?_
 intro w17 hh
 refine eh [_,_,_,_] ?_
 refine bz hh (ct 3 _ (by decide) (by decide)) rfl ?_
 intro w19 hh
 refine eh [_,_,_,_] ?_
 refine bz hh (ct (-2) _ (by decide) (by decide)) rfl ?_
 intro w21 hh
 refine eh [_,_,_,_] ?_
 refine bs hh (cs := [_, _, _, _, _, _, _, _, _, _, _, _]) aF.out aC.out (br (dL rfl) (br (dL rfl) (br (dL rfl) cn))) rfl rfl (by decide) (by decide) (by decide) rfl (by decide) ?_
 intro b23 w23 hh
 refine aP (zu [([1], 2), ([0], 3), ([1], -2)] [([0], 3)] 1 _ 3 _ _ (hT.hp hh) (hh.aJ (i := 0) rfl) (by decide) rfl rfl rfl rfl) ar.out rfl (by decide) ?_
 rintro e_ w24 ⟨A1, c1, rfl, h2⟩
 refine ⟨_, rfl, ?_⟩
 replace hh := hh.join h2
 simp only [List.cons_append, List.nil_append] at hh
 clear h2
 replace hh := hh.sub (List.Sublist.cons_cons _ (List.Sublist.cons _ List.Sublist.slnil))
 refine mT ?_
 refine dJ ?_
 refine dJ ?_
 refine cm hh ?_
 intro b1 w1 hh
 refine bE hh 0 [_,_] ?_
 intro ws hh
 replace hh : Hp _ (.blk _ _ [_, _] _ :: _) _ := hh
 refine aI (ah (sr ?_))
 refine aP (lX 1 _ (by decide) (by decide)) ar.out rfl (by decide) ?_
 rintro e_ w28 ⟨A2, c2, rfl, h2⟩
 refine ⟨_, rfl, ?_⟩
 replace hh := hh.join h2
 simp only [List.cons_append, List.nil_append] at hh
 clear h2
 refine aP (lX (-1) _ (by decide) (by decide)) ar.out rfl (by decide) ?_
 rintro e_ w29 ⟨A3, c3, rfl, h2⟩
 refine ⟨_, rfl, ?_⟩
 replace hh := hh.join h2
 simp only [List.cons_append, List.nil_append] at hh
 clear h2
 refine bs hh (cs := [_, _, _, _]) aF.out aC.out (br (dL rfl) (br (dL rfl) cn)) rfl rfl (by decide) (by decide) (by decide) rfl (by decide) ?_
 intro b30 w30 hh
 refine aP (Af (ta 1) (ta (-1)) [([0, 2], -1), ([2, 0], 1)] 2 _ A2 A3 c2 c3 2 2 _ (hT.hp hh) (hh.aJ (i := 0) rfl) (hh.aJ (i := 2) rfl) (hh.aJ (i := 1) rfl) (by decide) (hh.fW (i := 2) rfl) (hh.fW (i := 1) rfl) (by decide) rfl rfl rfl rfl rfl rfl) ar.out rfl (by decide) ?_
 rintro e_ w31 ⟨A4, c4, rfl, h2⟩
 refine ⟨_, rfl, ?_⟩
 replace hh := hh.join h2
 simp only [List.cons_append, List.nil_append] at hh
 clear h2
 replace hh := hh.sub (List.Sublist.cons_cons _ (List.Sublist.cons _ (List.Sublist.cons _ (List.Sublist.cons _ (List.Sublist.cons_cons _ (List.Sublist.cons_cons _ List.Sublist.slnil))))))
 refine mT ?_
 refine dJ ?_
 refine dJ ?_
 refine cm hh ?_
 intro b3 w3 hh
 refine bE hh 0 [_,_] ?_
 intro ws hh
 replace hh : Hp _ (.blk _ _ [_, _] _ :: _) _ := hh
 refine aI (ah (sr ?_))
 refine bz hh (ct 1 _ (by decide) (by decide)) rfl ?_
 intro w35 hh
 refine eh [_,_,_,_] ?_
 refine bz hh (ct 1 _ (by decide) (by decide)) rfl ?_
 intro w37 hh
 refine eh [_,_,_,_] ?_
 refine bs hh (cs := [_, _, _, _, _, _, _, _]) aF.out aC.out (br (dL rfl) (br (dL rfl) cn)) rfl rfl (by decide) (by decide) (by decide) rfl (by decide) ?_
 intro b39 w39 hh
 refine eh [_,_] ?_
 refine aP (Ai [([0], 1), ([1], 1)] [([0], 1), ([1], 2), ([2], 1)] _ 2 2 _ (hT.hp hh) (hh.aJ (i := 0) rfl) (by decide) (by decide) rfl rfl rfl rfl rfl rfl) ar.out rfl (by decide) ?_
 rintro e_ w41 ⟨A5, c5, rfl, h2⟩
 refine ⟨_, rfl, ?_⟩
 replace hh := hh.join h2
 simp only [List.cons_append, List.nil_append] at hh
 clear h2
 replace hh := hh.sub (List.Sublist.cons_cons _ (List.Sublist.cons _ (List.Sublist.cons_cons _ (List.Sublist.cons_cons _ (List.Sublist.cons_cons _ (List.Sublist.cons_cons _ List.Sublist.slnil))))))
 refine mT ?_
 refine dJ ?_
 refine dJ ?_
 refine cm hh ?_
 intro b5 w5 hh
 refine bE hh 0 [_,_] ?_
 intro ws hh
 replace hh : Hp _ (.blk _ _ [_, _] _ :: _) _ := hh
 refine aI (ah (sr ?_))
 refine aP (xI _ (hT.hp hh)) ar.out rfl (by decide) ?_
 rintro e_ w45 ⟨g4, rfl, hb_⟩
 refine ⟨_, rfl, ?_⟩
 replace hh := hh.ext hb_
 refine mT ?_
 refine dJ ?_
 refine dJ ?_
 refine cm hh ?_
 intro b7 w7 hh
 refine bE hh 0 [_,_] ?_
 intro ws hh
 replace hh : Hp _ (.blk _ _ [_, _] _ :: _) _ := hh
 refine aI (ah (sr ?_))
 replace hh := hh.sub (List.Sublist.cons _ (List.Sublist.cons_cons _ (List.Sublist.cons_cons _ (List.Sublist.cons_cons _ (List.Sublist.cons_cons _ (List.Sublist.cons_cons _ (List.Sublist.cons_cons _ List.Sublist.slnil)))))))
 refine aP (yr _ (hT.hp hh)) ar.out rfl (by decide) ?_
 rintro e_ w49 ⟨g5, rfl, hb_⟩
 refine ⟨_, rfl, ?_⟩
 replace hh := hh.ext hb_
 refine mT ?_
 refine dJ ?_
 refine dJ ?_
 refine cm hh ?_
 intro b9 w9 hh
 refine bE hh 0 [_,_] ?_
 intro ws hh
 replace hh : Hp _ (.blk _ _ [_, _] _ :: _) _ := hh
 refine aI (ah (sr ?_))
 replace hh := hh.sub (List.Sublist.cons _ (List.Sublist.cons_cons _ (List.Sublist.cons_cons _ (List.Sublist.cons_cons _ (List.Sublist.cons_cons _ (List.Sublist.cons_cons _ (List.Sublist.cons_cons _ List.Sublist.slnil)))))))
 refine aP (lX 1 _ (by decide) (by decide)) ar.out rfl (by decide) ?_
 rintro e_ w53 ⟨A6, c6, rfl, h2⟩
 refine ⟨_, rfl, ?_⟩
 replace hh := hh.join h2
 simp only [List.cons_append, List.nil_append] at hh
 clear h2
 refine aP (xm A6 c6 _ (hT.hp hh) (hh.aJ (i := 0) rfl) (hh.fW (i := 0) rfl)) ar.out rfl (by decide) ?_
 rintro e_ w54 ⟨g6, rfl, hb_⟩
 refine ⟨_, rfl, ?_⟩
 replace hh := hh.ext hb_
 refine mT ?_
 refine dJ ?_
 refine dJ ?_
 refine cm hh ?_
 intro b11 w11 hh
 refine bE hh 0 [_,_] ?_
 intro ws hh
 replace hh : Hp _ (.blk _ _ [_, _] _ :: _) _ := hh
 refine aI (ah (sr ?_))
 replace hh := hh.sub (List.Sublist.cons _ (List.Sublist.cons _ (List.Sublist.cons_cons _ (List.Sublist.cons_cons _ (List.Sublist.cons_cons _ (List.Sublist.cons_cons _ (List.Sublist.cons_cons _ (List.Sublist.cons_cons _ List.Sublist.slnil))))))))
 refine bz hh (ct 1 _ (by decide) (by decide)) rfl ?_
 intro w58 hh
 refine aP (vk _ (hT.hp hh)) ar.out rfl (by decide) ?_
 rintro e_ w59 ⟨g7, rfl, hb_⟩
 refine ⟨_, rfl, ?_⟩
 replace hh := hh.ext hb_
 refine mT ?_
 refine dJ ?_
 refine dJ ?_
 refine cm hh ?_
 intro b13 w13 hh
 refine bE hh 0 [_,_] ?_
 intro ws hh
 replace hh : Hp _ (.blk _ _ [_, _] _ :: _) _ := hh
 refine aI (ah (sr ?_))
 replace hh := hh.sub (List.Sublist.cons _ (List.Sublist.cons_cons _ (List.Sublist.cons_cons _ (List.Sublist.cons_cons _ (List.Sublist.cons_cons _ (List.Sublist.cons_cons _ (List.Sublist.cons_cons _ List.Sublist.slnil)))))))
 refine bz hh (ct 1 _ (by decide) (by decide)) rfl ?_
 intro w62 hh
 refine eh [_,_,_,_] ?_
 refine bs hh (cs := [_, _, _, _]) aF.out aC.out (br (dL rfl) cn) rfl rfl (by decide) (by decide) (by decide) rfl (by decide) ?_
 intro b64 w64 hh
 refine eh [_,_] ?_
 refine aP (z3 _ 1 _ (hT.hp hh) (hh.aJ (i := 0) rfl) (by decide)) ar.out rfl (by decide) ?_
 rintro e_ w66 ⟨A8, c8, rfl, h2⟩
 refine ⟨_, rfl, ?_⟩
 replace hh := hh.join h2
 simp only [List.cons_append, List.nil_append] at hh
 clear h2
 replace hh := hh.sub (List.Sublist.cons_cons _ (List.Sublist.cons _ (List.Sublist.cons_cons _ (List.Sublist.cons_cons _ (List.Sublist.cons_cons _ (List.Sublist.cons_cons _ (List.Sublist.cons_cons _ (List.Sublist.cons_cons _ List.Sublist.slnil))))))))
 refine aL (ah (ai ?_))
 refine cH [] [] [0, 1, 3, 7, 15, 31, 63, 127, 255, 511, 1023, 2047, 4095, 8191, 16383, 32767, 65535, 131071, 262143, 524287, 1048575, 2097151, 4194303, 8388607, 16777215, 33554431, 67108863, 134217727, 268435455, 134217727, 671088639, 1744830463, 4294967295, 8589934591, 17179869183, 34359738367, 68719476735, 34359738367, 171798691839, 171798691839, 721554505727, 2095944040447, 4398046511103, 8796093022207, 17592186044415, 35184372088831, 70368744177663, 35184372088831, 175921860444159, 175921860444159, 738871813865471, 738871813865471, 2990671627550719, 8901646138474495, 18014398509481983, 36028797018963967, 72057594037927935, 144115188075855871, 144115188075855871, 576460752303423487, 1152921504606846975, 2305843009213693951] 59 [[(2, none)], [(67, some 0)], [(68, some 1)], [(4, none), (69, some 2)], [(70, some 3), (69, some 2)], [(69, some 2), (71, some 4)], [(72, some 5)], [(6, none), (73, some 6)], [(74, some 7), (73, some 6)], [(73, some 6), (75, some 8)], [(76, some 9)], [(8, none), (77, some 10)], [(78, some 11), (77, some 10)], [(77, some 10), (79, some 12)], [(80, some 13)], [(10, none), (81, some 14)], [(82, some 15), (81, some 14)], [(81, some 14), (83, some 16)], [(84, some 17)], [(12, none), (85, some 18)], [(86, some 19), (85, some 18)], [(85, some 18), (87, some 20)], [(88, some 21)], [(14, none), (89, some 22)], [(90, some 23), (89, some 22)], [(89, some 22), (91, some 24)], [(92, some 25)], [(1, none), (93, some 26)], [(94, some 27), (93, some 26)], [(93, some 26)], [(96, some 29), (93, some 26)], [(97, some 30), (93, some 26)], [(95, some 28), (98, some 31), (93, some 26)], [(93, some 26), (99, some 32)], [(100, some 33)], [(3, none), (101, some 34)], [(102, some 35), (101, some 34)], [(101, some 34)], [(104, some 37), (101, some 34)], [(101, some 34)], [(106, some 39), (101, some 34)], [(105, some 38), (107, some 40), (101, some 34)], [(103, some 36), (108, some 41), (101, some 34)], [(101, some 34), (109, some 42)], [(110, some 43)], [(5, none), (111, some 44)], [(112, some 45), (111, some 44)], [(111, some 44)], [(114, some 47), (111, some 44)], [(111, some 44)], [(116, some 49), (111, some 44)], [(111, some 44)], [(118, some 51), (111, some 44)], [(115, some 48), (117, some 50), (119, some 52), (111, some 44)], [(113, some 46), (120, some 53), (111, some 44)], [(111, some 44), (121, some 54)], [(122, some 55)], [(15, none), (123, some 56)], [(123, some 56)]] [(58, 125), (57, 124), (56, 123), (55, 122), (54, 121), (53, 120), (52, 119), (51, 118), (50, 117), (49, 116), (48, 115), (47, 114), (46, 113), (45, 112), (44, 111), (43, 110), (42, 109), (41, 108), (40, 107), (39, 106), (38, 105), (37, 104), (36, 103), (35, 102), (34, 101), (33, 100), (32, 99), (31, 98), (30, 97), (29, 96), (28, 95), (27, 94), (26, 93), (25, 92), (24, 91), (23, 90), (22, 89), (21, 88), (20, 87), (19, 86), (18, 85), (17, 84), (16, 83), (15, 82), (14, 81), (13, 80), (12, 79), (11, 78), (10, 77), (9, 76), (8, 75), (7, 74), (6, 73), (5, 72), (4, 71), (3, 70), (2, 69), (1, 68), (0, 67)] hh mixed (by kernel_rfl) cW rfl (by repeat (first | exact bS | refine bB ?_ | refine bR ?_)) ?_
 refine dH ?_
 refine jL ?_
 refine gB ?_
 first | refine dS ?_ | refine dU ?_ | refine dG (dH ?_)
 first | refine dS ?_ | refine dU ?_ | refine dG (jL ?_)
 first | refine mm ?_ | refine ml ?_
 refine gB ?_
 first | refine dS ?_ | refine dU ?_ | refine dG (dH ?_)
 first | refine dS ?_ | refine dU ?_ | refine dG (jL ?_)
 first | refine mm ?_ | refine ml ?_
 refine gB ?_
 first | refine dS ?_ | refine dU ?_ | refine dG (dH ?_)
 first | refine dS ?_ | refine dU ?_ | refine dG (jL ?_)
 first | refine mm ?_ | refine ml ?_
 refine gB ?_
 first | refine dS ?_ | refine dU ?_ | refine dG (dH ?_)
 first | refine dS ?_ | refine dU ?_ | refine dG (jL ?_)
 first | refine mm ?_ | refine ml ?_
 refine gB ?_
 first | refine dS ?_ | refine dU ?_ | refine dG (dH ?_)
 first | refine dS ?_ | refine dU ?_ | refine dG (jL ?_)
 first | refine mm ?_ | refine ml ?_
 refine gB ?_
 first | refine dS ?_ | refine dU ?_ | refine dG (dH ?_)
 first | refine dS ?_ | refine dU ?_ | refine dG (jL ?_)
 first | refine mm ?_ | refine ml ?_
 refine gB ?_
 first | refine dS ?_ | refine dU ?_ | refine dG (cf ?_)
 first | refine dS ?_ | refine dU ?_ | refine dG (df 5 ?_)
 refine bG (i := 29) rfl (fun ρ1 w1 hj hR => (show ρ1 93 = Value.bool _ from hR.1)) (fun ρ1 w1 hj hR => bk ar.out (aG rfl bo)) (fun w1 hj => ct 3 _ (by decide) (by decide)) ?_
 first | refine dS ?_ | refine dU ?_ | refine dG (dB [_,_,_,_] ?_)
 refine eC (i := 31) (cs := [_, _, _, _]) rfl (fun ρ1 w1 hj hR => (show ρ1 93 = Value.bool _ from hR.2.1)) aF.out aC.out (fun ρ1 w1 hj hR => (br (show ρ1 97 = Value.agg (List.toArray _) from hR.1) cn)) rfl rfl (by decide) (by decide) rfl ?_
 refine bP (i := 32) (Is (.bool true)) Is.ext ?_ ?_
 ·intro ρ1 w1 hj hR
  obtain ⟨A98, c98, h98, s98⟩ := hR.2.1
  refine ee rfl ((show ρ1 93 = Value.bool _ from hR.2.2.1)) ?_
  exact dn rfl (bk ar.out (aG (show ρ1 95 = Value.slice _ _ _ from hR.1) (aG h98 bo))) (tt [([0], 3)] A1 1 c1 A98 c98 _ (hj.hp.aJ (i := 6) rfl) s98 (by decide)) (fun _ _ hq => ⟨_, hq.1, hq.2, rfl⟩)
 first | refine mm ?_ | refine ml ?_
 refine gB ?_
 first | refine dS ?_ | refine dU ?_ | refine dG (cf ?_)
 first | refine dS ?_ | refine dU ?_ | refine dG (df 3 ?_)
 refine bG (i := 37) rfl (fun ρ1 w1 hj hR => (show ρ1 101 = Value.bool _ from hR.1)) (fun ρ1 w1 hj hR => bk ar.out (aG rfl bo)) (fun w1 hj => ct (-1) _ (by decide) (by decide)) ?_
 first | refine dS ?_ | refine dU ?_ | refine dG (dB [_,_,_,_] ?_)
 refine bG (i := 39) rfl (fun ρ1 w1 hj hR => (show ρ1 101 = Value.bool _ from hR.1)) (fun ρ1 w1 hj hR => bk ar.out (aG rfl bo)) (fun w1 hj => ct 1 _ (by decide) (by decide)) ?_
 first | refine dS ?_ | refine dU ?_ | refine dG (dB [_,_,_,_] ?_)
 refine eC (i := 41) (cs := [_, _, _, _, _, _, _, _]) rfl (fun ρ1 w1 hj hR => (show ρ1 101 = Value.bool _ from hR.2.2.1)) aF.out aC.out (fun ρ1 w1 hj hR => (br (show ρ1 105 = Value.agg (List.toArray _) from hR.1) (br (show ρ1 107 = Value.agg (List.toArray _) from hR.2.1) cn))) rfl rfl (by decide) (by decide) rfl ?_
 refine bP (i := 42) (Is (.bool true)) Is.ext ?_ ?_
 ·intro ρ1 w1 hj hR
  obtain ⟨A108, c108, h108, s108⟩ := hR.2.1
  refine ee rfl ((show ρ1 101 = Value.bool _ from hR.2.2.1)) ?_
  exact dn rfl (bk ar.out (aG (show ρ1 103 = Value.slice _ _ _ from hR.1) (aG h108 bo))) (tt [([0, 2], -1), ([2, 0], 1)] A4 2 c4 A108 c108 _ (hj.hp.aJ (i := 4) rfl) s108 (by decide)) (fun _ _ hq => ⟨_, hq.1, hq.2, rfl⟩)
 first | refine mm ?_ | refine ml ?_
 refine gB ?_
 first | refine dS ?_ | refine dU ?_ | refine dG (cf ?_)
 first | refine dS ?_ | refine dU ?_ | refine dG (df 1 ?_)
 refine bG (i := 47) rfl (fun ρ1 w1 hj hR => (show ρ1 111 = Value.bool _ from hR.1)) (fun ρ1 w1 hj hR => bk ar.out (aG rfl bo)) (fun w1 hj => ct 1 _ (by decide) (by decide)) ?_
 first | refine dS ?_ | refine dU ?_ | refine dG (dB [_,_,_,_] ?_)
 refine bG (i := 49) rfl (fun ρ1 w1 hj hR => (show ρ1 111 = Value.bool _ from hR.1)) (fun ρ1 w1 hj hR => bk ar.out (aG rfl bo)) (fun w1 hj => ct 2 _ (by decide) (by decide)) ?_
 first | refine dS ?_ | refine dU ?_ | refine dG (dB [_,_,_,_] ?_)
 refine bG (i := 51) rfl (fun ρ1 w1 hj hR => (show ρ1 111 = Value.bool _ from hR.1)) (fun ρ1 w1 hj hR => bk ar.out (aG rfl bo)) (fun w1 hj => ct 1 _ (by decide) (by decide)) ?_
 first | refine dS ?_ | refine dU ?_ | refine dG (dB [_,_,_,_] ?_)
 refine eC (i := 53) (cs := [_, _, _, _, _, _, _, _, _, _, _, _]) rfl (fun ρ1 w1 hj hR => (show ρ1 111 = Value.bool _ from hR.2.2.2.1)) aF.out aC.out (fun ρ1 w1 hj hR => (br (show ρ1 115 = Value.agg (List.toArray _) from hR.1) (br (show ρ1 117 = Value.agg (List.toArray _) from hR.2.1) (br (show ρ1 119 = Value.agg (List.toArray _) from hR.2.2.1) cn)))) rfl rfl (by decide) (by decide) rfl ?_
 refine bP (i := 54) (Is (.bool true)) Is.ext ?_ ?_
 ·intro ρ1 w1 hj hR
  obtain ⟨A120, c120, h120, s120⟩ := hR.2.1
  refine ee rfl ((show ρ1 111 = Value.bool _ from hR.2.2.1)) ?_
  exact dn rfl (bk ar.out (aG (show ρ1 113 = Value.slice _ _ _ from hR.1) (aG h120 bo))) (tt [([0], 1), ([1], 2), ([2], 1)] A5 3 c5 A120 c120 _ (hj.hp.aJ (i := 2) rfl) s120 (by decide)) (fun _ _ hq => ⟨_, hq.1, hq.2, rfl⟩)
 first | refine mm ?_ | refine ml ?_
 refine gB ?_
 first | refine dS ?_ | refine dU ?_ | refine dG (fp ?_)
 refine eC (i := 58) (cs := [_, _]) rfl (fun ρ1 w1 hj hR => (show ρ1 123 = Value.bool _ from hR.1)) aF.out aC.out (fun ρ1 w1 hj hR => (br rfl (br rfl cn))) rfl rfl (by decide) (by decide) rfl ?_
 refine a0 ?_
 intro f W hJ hV _
 have hb_9 := hJ.bl
 obtain ⟨v125, v124, v123, v122, v121, v120, v119, v118, v117, v116, v115, v114, v113, v112, v111, v110, v109, v108, v107, v106, v105, v104, v103, v102, v101, v100, v99, v98, v97, v96, v95, v94, v93, v92, v91, v90, v89, v88, v87, v86, v85, v84, v83, v82, v81, v80, v79, v78, v77, v76, v75, v74, v73, v72, v71, v70, v69, v68, v67, _⟩ := hV
 obtain ⟨A98, c98, e98, f98⟩ : Rows _ _ _ (f 31) W := v98
 obtain ⟨A108, c108, e108, f108⟩ : Rows _ _ _ (f 41) W := v108
 obtain ⟨A120, c120, e120, f120⟩ : Rows _ _ _ (f 53) W := v120
 obtain ⟨A125, c125, e125, f125⟩ : Rows _ _ _ (f 58) W := v125
 replace hh := hJ.hp
 refine aO (a4 (aa e125 (aa v124 (aa v123 (aa v122 (aa v121 (aa e120 (aa v119 (aa v118 (aa v117 (aa v116 (aa v115 (aa v114 (aa v113 (aa v112 (aa v111 (aa v110 (aa v109 (aa e108 (aa v107 (aa v106 (aa v105 (aa v104 (aa v103 (aa v102 (aa v101 (aa v100 (aa v99 (aa e98 (aa v97 (aa v96 (aa v95 (aa v94 (aa v93 (aa v92 (aa v91 (aa v90 (aa v89 (aa v88 (aa v87 (aa v86 (aa v85 (aa v84 (aa v83 (aa v82 (aa v81 (aa v80 (aa v79 (aa v78 (aa v77 (aa v76 (aa v75 (aa v74 (aa v73 (aa v72 (aa v71 (aa v70 (aa v69 (aa v68 (aa v67 aQ)))))))))))))))))))))))))))))))))))))))))))))))))))))))))))) ?_
 dsimp only [bU]
 clear e98 e108 e120 e125 hJ
 refine a8 rfl rfl ?_
 refine bz hh (Ag A8 A125 c8 c125 _ (hh.aJ (i := 0) rfl) f125) rfl ?_
 intro w126 hh
 first | refine cw ?_ | refine cx ?_
 refine aB (ah (an ?_))
 refine cb ?_
 exact ⟨rfl, hh.below⟩
end Go.Proofs.YtkgdagjklakajaaGreatDoor
/- The walk through the law PolyMakes. -/
namespace Go.Proofs.YtkgdagjklakajaaGreatDoor
open Go.RowKit
def Al (ds : List Int) : VP := fun v W => ∃ g : Option Addr × Nat, v = .slice g.1 ds.length g.2 ∧ Sl W g.1 ds.length 1 (er ds)
theorem cV.same {E v : Int} {ts : List TR} {g h : PX} (o : cV E v ts g) (p : cV E v ts h) : g.v = h.v ∧ g.ts = h.ts := ⟨o.v.trans p.v.symm, o.ts.trans p.ts.symm⟩
theorem ij {g h : PX} (w : World) (hg : g.at_ w) (hh : h.at_ w) (e : g.v = h.v ∧ g.ts = h.ts) (hn : g.n ≤ 1000000) (hm : h.n ≤ 1000000) :
  Calls Tryz.prog 20 #[.agg #[.int .i64 g.v, .slice g.A g.n g.c], .agg #[.int .i64 h.v, .slice h.A h.n h.c]] w fun r w' => r = .returned (.bool true) ∧ Below w.heap.size w w' :=
 (r7 g h w hg hh hn hm).mono fun r w' ⟨v, hr, hv, hb⟩ => ⟨by rw [hr, hv.2 e], hb⟩
end Go.Proofs.YtkgdagjklakajaaGreatDoor
/- The walk through the law PolyMuls. -/
namespace Go.Proofs.YtkgdagjklakajaaGreatDoor
open Go.RowKit
theorem kJ {H R : List HE} (k : Nat) (h : H.drop k = R) {x : HE} (hx : x ∈ R) : x ∈ H := List.mem_of_mem_drop (h ▸ hx)
theorem nl (L : Option Addr) (n c : Nat) (ps : List PX) (m : Int) (w : World) (hT : g9 w) (hL : Sl w L n 2 (a5 PX.cells ps)) (hf : ∀ g ∈ ps, g.at_ w ∧ g.n ≤ g.c) :
  Calls Tryz.prog 4 #[.slice L n c, .int .i64 m] w fun r w' => r = .returned (.bool true) ∧ Below w.heap.size w w' := by
 have hh := Hp.start w
 have hln := hL.bX PX.len (by decide)
 refine ak (N := 117) (l := [.slice L n c, .int .i64 m]) Tryz.func4 rfl rfl (by simp) ?_
 refine sr (aB (ah (ai (sr (mL ?_)))))
 refine aP (sE L n c ps _ (hL.ext hh.below) (fun z hz => (hf z hz).1.ext hh.below)) ar.out rfl (by decide) ?_
 rintro e_ w17 ⟨p1, rfl, hm, hb_⟩
 refine ⟨_, rfl, ?_⟩
 replace hh := hh.ext hb_
 cases p1 with
 | true =>
  refine ah (cT (sr ?_))
  refine bz hh (fa _ (hT.hp hh)) rfl ?_
  intro w18 hh
  refine aB (ah (an (aA ?_)))
  refine cb ?_
  exact ⟨rfl, hh.below⟩
 | false =>
  obtain ⟨hn3, hsm⟩ := hm rfl
  clear hm hb_
  have hpl : ∀ g ∈ ps, g.mw 492 := fun g hg => (hsm g hg).mw (hf g hg).1 (hf g hg).2
  refine ah (cF (al (aj (sr (aL (ah (ai (sr (aI (ah (ao ?_)))))))))))
  replace hh := hh.dY 31 2
  refine cd [5, 6, 19, 20, 21, 22, 23, 24, 25, 26, 27, 28, 29, 30, 31, 32] 5 6
   (fun a v w' => ∃ (i c3 : Nat) (A : Option Addr) (os : List PX) (R : List HE), i ≤ n ∧ v = .int .i64 i ∧ a = .slice A i c3 ∧ os.length = i ∧ vB ps os R ∧ Hp w (.row A i c3 31 2 (a5 PX.cells os) :: R) w')
   (fun _ v _ => n - (intOf v).toNat) ?_ ?_
  ·exact ⟨0, 0, none, [], [], Nat.zero_le _, rfl, rfl, rfl, ⟨fun j g o _ h => (nomatch h), fun o h => (nomatch h)⟩, hh⟩
  ·clear hh
   rintro ρ' a_ v w' ⟨i, c3, A, os, R, hi, rfl, rfl, hol, hcp, hh⟩
   by_cases hlt : i < n
   ·obtain ⟨z, hx⟩ := aD (l := ps) (k := i) (by omega)
    have hmem := List.mem_of_getElem? hx
    have hz := hsm z hmem
    have hzn : z.n ≤ 12 := by have := hz.n; have := (hf z hmem).1.ln; omega
    obtain ⟨ad, rfl, hr⟩ := hL.at_ (by omega)
    refine ai (sr (mI (mL (aW ?_))))
    refine aN (ah (cT (al (aj (ai (ao (aq (mL (mL (mI ?_))))))))))
    refine aV (k := i) aF.out aC.size rfl rfl (by omega) (by omega) (by decide) ?_
    refine bK (vs := [_, _]) aC.out rfl ((hr.ext hh.below).recAt PX.len hx) rfl (by decide) ?_
    refine aP (rz z _ ((hf z hmem).1.ext hh.below) (by omega)) ar.out rfl (by decide) ?_
    rintro e_ w30 ⟨o, ho, rfl, h2⟩
    refine ⟨_, rfl, ?_⟩
    have hoc : o.n ≤ o.c := h2.fW (i := 0) rfl
    replace hh := hh.join h2
    clear h2
    replace hh := hh.perm (H' := .row A i c3 31 2 (a5 PX.cells os) :: o.row :: R) (List.Perm.swap _ _ _)
    refine bs hh (cs := [_, _]) aF.out aC.out (br (dL rfl) cn) rfl rfl (by decide) (by decide) (by decide) rfl (by decide) ?_
    intro b31 w31 hh
    refine bQ hh (i := 1) rfl rfl rfl (hh.aJ (i := 0) rfl) aF.out aC.out rfl (by decide) (by first | rfl | exact ck _ | exact bW _ | exact oneCells_i64s _ | exact bm NR.one _) (by omega) (by omega) (by decide) ?_
    intro A32 c32 w32 hh
    simp only [List.set_cons_zero, List.set_cons_succ] at hh
    replace hh := hh.sub (List.sublist_cons_self _ _)
    refine aL (aE (aY (aj (aq (mI ?_)))))
    refine bF (aI (aE (aj ?_)))
    refine ⟨⟨i + 1, c32, A32, os ++ [o], o.row :: R, by omega, rfl, rfl, by rw [List.length_append, hol]; rfl, hcp.add (by rw [hol]; exact hx) ho hoc, by rw [cg, lr]; exact hh⟩, by show n - (i + 1) < n - i; omega, ?_⟩
    (repeat (first | exact ax _ _ _ | refine az rfl ?_ | refine aw rfl ?_))
   ·obtain rfl : i = n := by omega
    have hol2 : os.length = ps.length := by omega
    obtain ⟨k1, k2, k3⟩ := xF (hcp.key hol2)
    have hall : ∀ o ∈ os, o.mw 492 ∧ o.n ≤ 12 := fun o ho => by
     obtain ⟨j, hj⟩ := List.mem_iff_getElem?.1 ho
     obtain ⟨g, hg⟩ := aD (l := ps) (k := j) (by have := (List.getElem?_eq_some_iff.1 hj).1; omega)
     obtain ⟨e1, e2, e3⟩ := hcp.eq j g o hg hj
     have hs := hsm g (List.mem_of_getElem? hg)
     have hgn : g.ts.length = g.n := (hf g (List.mem_of_getElem? hg)).1.ln
     have hg12 := hs.n
     exact ⟨⟨by omega, (hcp.my o ho).2, by rw [e2]; exact hs.ok, fun t ht => Nat.le_trans (hs.sz t (e2 ▸ ht)) (by decide)⟩, by omega⟩
    have hml := wx (ps := ps) fun g hg => by have := (hsm g hg).n; omega
    have hmu := fun w1 hT1 hS1 hc1 ho => m5 A i c3 os 492 w1 hT1 hS1 hc1 (by omega) ho (fun o h => (hall o h).1) (by decide)
    rw [k1, k2, k3] at hmu
    have hru := fun w1 (hb : Below w.heap.size w w1) => rq L i c ps 492 w1 (hL.ext hb) (by omega) (fun z hz => (hf z hz).1.ext hb) hpl (by decide)
    clear k1 k2 k3
    generalize iO ps = E at *
    generalize jy ps = V at *
    generalize (lF ps).1 = S at *
    refine ai (sr (mI (mL (aW ?_))))
    refine aN (ah (cF ?_))
    refine aU ?_
    refine ay (ay (a7 (aj (sr (mL ?_)))))
    refine aP (hmu _ (hT.hp hh) (hh.aJ (i := 0) rfl) (hh.fW (i := 0) rfl) (fun o ho => kY hh (kJ 1 rfl (hcp.my o ho).1))) ar.out rfl (by decide) ?_
    rintro e_ w35 ⟨g, og, rfl, h2⟩
    refine ⟨_, rfl, ?_⟩
    replace hh := hh.join h2
    clear h2
    simp only [List.cons_append, List.nil_append] at hh
    replace hh := show Hp w (.row g.A g.n g.c 58 4 (a5 TR.cells g.ts) :: _) w35 from hh
    have gn := og.n4 (hh.aJ (i := 0) rfl) hml
    refine mT ?_
    refine dJ ?_
    refine dJ ?_
    refine cm hh ?_
    intro b7 w7 hh
    refine bE hh 0 [_,_] ?_
    intro ws hh
    replace hh : Hp _ (.blk _ _ [_, _] _ :: _) _ := hh
    refine aI (ah (sr (mL ?_)))
    refine aP (hru _ hh.below) ar.out rfl (by decide) ?_
    rintro e_ w40 ⟨k, R2, ok, ⟨hkk, kn⟩, rfl, h2⟩
    refine ⟨_, rfl, ?_⟩
    replace hh : Hp w (_ :: _ :: _ :: (R ++ R2)) _ := (hh.join h2).perm List.perm_append_comm
    have hk2 : k ∈ ps ∨ k.row ∈ R ++ R2 := hkk.elim (fun h => .inl h.1) (fun h => .inr (List.mem_append_right _ (h ▸ List.mem_cons_self)))
    have hmy : ∀ o ∈ os, o.row ∈ R ++ R2 := fun o ho => List.mem_append_left _ (hcp.my o ho).1
    have heq := hcp.eq
    clear h2 hkk hcp
    generalize R ++ R2 = R3 at *
    refine mT ?_
    refine dJ ?_
    refine dJ ?_
    refine cm hh ?_
    intro b9 w9 hh
    refine bE hh 0 [_,_] ?_
    intro ws hh
    replace hh : Hp _ (.blk _ _ [_, _] _ :: _) _ := hh
    refine aI (ah (ai (sr (mI (mI ?_)))))
    refine dQ (mB ?_)
    first | refine gS ?_ | (refine gT ?_; refine dx hh 1 [_,_] ?_) | refine gV ?_
    first | refine gS ?_ | (refine gT ?_; refine dx hh 0 [_,_] ?_) | refine gV ?_
    refine a8 rfl rfl ?_
    refine bz hh (ij (g := g) (h := k) _ (hh.aJ (i := 2) rfl) (hk2.elim (fun h => (hf k h).1.ext hh.below) (fun h => kY hh (kJ 4 rfl h))) (og.same ok) (by omega) kn) rfl ?_
    intro w49 hh
    first | refine gS ?_ | (refine gT ?_; refine eF ?_) | refine gV ?_
    first | refine cw ?_ | refine cx ?_
    refine ah (cF (al (aj (sr (bI ?_)))))
    refine bL hh 1 ?_
    replace hh := hh.perm (List.perm_middle (l₁ := [_, _]))
    simp only [List.cons_append, List.nil_append] at hh
    refine wi hh (i := 0) rfl rfl aF.out aC.out rfl rfl ?_
    intro wc hh
    simp only [List.set_cons_zero] at hh
    replace hh := hh.sub (List.Sublist.cons _ (List.Sublist.cons _ (List.Sublist.cons _ (List.Sublist.cons_cons _ (List.Sublist.refl _)))))
    refine ah (ai (sr (aI (ah (ao ?_)))))
    refine bp [4, 11, 54, 55, 56, 57, 58, 59, 60, 61, 62, 63, 64, 65, 66, 67, 68, 69] 11
     (fun v w' => ∃ j : Nat, j ≤ i ∧ v = .int .i64 j ∧ Hp w (.row A i c3 31 2 (a5 PX.cells os) :: R3) w')
     (fun v _ => i - (intOf v).toNat) ?_ ?_
    ·exact ⟨0, Nat.zero_le _, rfl, hh⟩
    ·clear hh
     rintro ρ3 v w3 ⟨j, hj, rfl, hh⟩
     by_cases hlt2 : j < i
     ·obtain ⟨z, hx⟩ := aD (l := ps) (k := j) (by omega)
      obtain ⟨o, ho⟩ := aD (l := os) (k := j) (by omega)
      obtain ⟨e1, e2, e3⟩ := heq j z o hx ho
      have hom := List.mem_of_getElem? ho
      have ho12 := (hall o hom).2
      obtain ⟨ad, rfl, hr⟩ := hL.at_ (by omega)
      obtain ⟨g0, rfl⟩ := hh.fm (i := 0) rfl (by omega)
      refine ai (sr (mI (mL (aW ?_))))
      refine aN (ah (cT (al (aj (ai (ao (ai ?_)))))))
      refine aR 8 [[(5, none)], [(11, none)], [(60, some 0), (61, some 1)], [(62, some 2)], [(0, none)], [(11, none)], [(64, some 4), (65, some 5)], [(66, some 6)]] [(7, 67), (6, 66), (5, 65), (4, 64), (3, 63), (2, 62), (1, 61), (0, 60)] hh mixed (by kernel_rfl) ?_
      refine fp ?_
      refine dH ?_
      refine zp (j) ?_
      refine sf [_,_] (fun _ hj => hj.hp.jH (f := PX.cells) (x := o) (l := os) (i := 0) rfl PX.len (by decide) ho) ?_
      refine fp ?_
      refine dH ?_
      refine hG (j) ?_
      refine sf [_,_] (fun _ hj => (hr.ext hj.hp.below).recAt PX.len hx) ?_
      refine a0 ?_
      intro f W hJ hV
      have hb_16 := hJ.bl
      obtain ⟨v67, v66, v65, v64, v63, v62, v61, v60, _⟩ := hV
      replace hh := hJ.hp
      refine aO (a4 (aa v67 (aa v66 (aa v65 (aa v64 (aa v63 (aa v62 (aa v61 (aa v60 aQ))))))))) ?_
      dsimp only [bU]
      clear hJ
      refine bz hh (ij (g := o) (h := z) _ (kY hh (kJ 1 rfl (hmy o hom))) ((hf z (List.mem_of_getElem? hx)).1.ext hh.below) ⟨e1, e2⟩ (by omega) (by omega)) rfl ?_
      intro w68 hh
      refine eF ?_
      refine ah (cF (al (aY (aj (aq (mI ?_))))))
      refine bF (aI (aE (aj ?_)))
      refine ⟨⟨j + 1, by omega, rfl, hh⟩, by show i - (j + 1) < i - j; omega, ?_⟩
      (repeat (first | exact ax _ _ _ | refine az rfl ?_ | refine aw rfl ?_))
     ·obtain rfl : j = i := by omega
      clear og ok hml hmu hru
      by_cases h0 : j = 0
      ·refine ai (sr (mI (mL (aW ?_))))
       refine aN (ah (cF ?_))
       refine aU ?_
       refine ay (ay (a7 (aj (ai (sr (mL (aW ?_)))))))
       refine dv (mB ?_)
       first | refine gS ?_ | (refine gT ?_; refine mL ?_) | refine gV ?_
       first | refine gS ?_ | (refine gT ?_; refine cK aF.out aC.size rfl rfl (by omega) (by omega) (by decide) ?_) | refine gV ?_
       first | refine gS ?_ | (refine gT ?_; refine db eu.out rfl (by decide) ?_) | refine gV ?_
       first | (refine bV (by decide) rfl rfl (by decide) ?_) | (refine eW (by decide) rfl rfl ?_)
       first | refine gS ?_ | (refine gT ?_; refine aW ?_) | refine gV ?_
       first | refine gS ?_ | (refine gT ?_; refine bO ?_) | refine gV ?_
       first | refine cw ?_ | refine cx ?_
       refine mB ?_
       first | refine gS ?_ | (refine gT ?_; refine mI ?_) | refine gV ?_
       first | refine gS ?_ | (refine gT ?_; refine bO ?_) | refine gV ?_
       first | refine gS ?_ | (refine gT ?_; refine mB ?_) | refine gV ?_
       first | refine gS ?_ | (refine gT ?_; refine mI ?_) | refine gV ?_
       first | refine gS ?_ | (refine gT ?_; refine q5 ?_) | refine gV ?_
       first | refine gS ?_ | (refine gT ?_; (first | refine cw ?_ | refine cx ?_)) | refine gV ?_
       first | refine cw ?_ | refine cx ?_
       refine ah (cT (sr ?_))
       refine bz hh (fa _ (hT.hp hh)) rfl ?_
       intro w89 hh
       refine aB (ah (an (aA ?_)))
       refine cb ?_
       exact ⟨rfl, hh.below⟩
      ·obtain ⟨g0, h00⟩ := aD (l := ps) (k := 0) (by omega)
       obtain ⟨o0, ho0⟩ := aD (l := os) (k := 0) (by omega)
       obtain ⟨e1, e2, e3⟩ := heq 0 g0 o0 h00 ho0
       have hm0 := List.mem_of_getElem? h00
       have hom := List.mem_of_getElem? ho0
       obtain ⟨ad, rfl, hr⟩ := hL.at_ (by omega)
       obtain ⟨g0_, rfl⟩ := hh.fm (i := 0) rfl (by omega)
       refine ai (sr (mI (mL (aW ?_))))
       refine aN (ah (cF ?_))
       refine aU ?_
       refine ay (ay (a7 (aj (ai (sr (mL (aW ?_)))))))
       refine dv (mB ?_)
       first | refine gS ?_ | (refine gT ?_; refine mL ?_) | refine gV ?_
       first | refine gS ?_ | (refine gT ?_; refine aV (k := 0) aF.out aC.size rfl rfl (by omega) (by omega) (by decide) ?_) | refine gV ?_
       first | refine gS ?_ | (refine gT ?_; refine db eu.out rfl (by decide) ?_) | refine gV ?_
       refine a8 rfl rfl ?_
       refine bu aC.out rfl (cD hh.below ((hr.recAt PX.len h00) 1 _ rfl)) (by decide) ?_
       by_cases h4 : 4 < g0.n
       ·first | refine gS ?_ | (refine gT ?_; refine aW ?_) | refine gV ?_
        first | refine gS ?_ | (refine gT ?_; refine bO ?_) | refine gV ?_
        first | refine cw ?_ | refine cx ?_
        refine mB ?_
        first | refine gS ?_ | (refine gT ?_; refine mI ?_) | refine gV ?_
        first | refine gS ?_ | (refine gT ?_; refine bO ?_) | refine gV ?_
        first | refine gS ?_ | (refine gT ?_; refine mB ?_) | refine gV ?_
        first | refine gS ?_ | (refine gT ?_; refine mI ?_) | refine gV ?_
        first | refine gS ?_ | (refine gT ?_; refine q5 ?_) | refine gV ?_
        first | refine gS ?_ | (refine gT ?_; (first | refine cw ?_ | refine cx ?_)) | refine gV ?_
        first | refine cw ?_ | refine cx ?_
        refine ah (cT (sr ?_))
        refine bz hh (fa _ (hT.hp hh)) rfl ?_
        intro w89 hh
        refine aB (ah (an (aA ?_)))
        refine cb ?_
        exact ⟨rfl, hh.below⟩
       ·by_cases hmm : 4 < m ∧ m ≤ 127
        ·obtain ⟨hm4, hm5⟩ := hmm
         first | refine gS ?_ | (refine gT ?_; refine aW ?_) | refine gV ?_
         first | refine gS ?_ | (refine gT ?_; refine bO ?_) | refine gV ?_
         first | refine cw ?_ | refine cx ?_
         refine mB ?_
         first | refine gS ?_ | (refine gT ?_; refine mI ?_) | refine gV ?_
         first | refine gS ?_ | (refine gT ?_; refine bO ?_) | refine gV ?_
         first | refine gS ?_ | (refine gT ?_; refine mB ?_) | refine gV ?_
         first | refine gS ?_ | (refine gT ?_; refine mI ?_) | refine gV ?_
         first | refine gS ?_ | (refine gT ?_; refine q5 ?_) | refine gV ?_
         first | refine gS ?_ | (refine gT ?_; (first | refine cw ?_ | refine cx ?_)) | refine gV ?_
         first | refine cw ?_ | refine cx ?_
         refine ah (cT (sr ?_))
         refine bz hh (fa _ (hT.hp hh)) rfl ?_
         intro w89 hh
         refine aB (ah (an (aA ?_)))
         refine cb ?_
         exact ⟨rfl, hh.below⟩
        ·have hmm2 : m ≤ 4 ∨ 127 < m := by omega
         have hpe := yl e1 e2 m
         by_cases hm4 : 4 < m
         ·have hm5 : ¬ m ≤ 127 := by omega
          first | refine gS ?_ | (refine gT ?_; refine aW ?_) | refine gV ?_
          first | refine gS ?_ | (refine gT ?_; refine bO ?_) | refine gV ?_
          first | refine cw ?_ | refine cx ?_
          refine mB ?_
          first | refine gS ?_ | (refine gT ?_; refine mI ?_) | refine gV ?_
          first | refine gS ?_ | (refine gT ?_; refine bO ?_) | refine gV ?_
          first | refine gS ?_ | (refine gT ?_; refine mB ?_) | refine gV ?_
          first | refine gS ?_ | (refine gT ?_; refine mI ?_) | refine gV ?_
          first | refine gS ?_ | (refine gT ?_; refine q5 ?_) | refine gV ?_
          first | refine gS ?_ | (refine gT ?_; (first | refine cw ?_ | refine cx ?_)) | refine gV ?_
          first | refine cw ?_ | refine cx ?_
          refine ah (cF (al (aj (sr (mL ?_)))))
          refine bj (k := 0) aF.out aC.size rfl rfl (by omega) (by omega) (by decide) ?_
          refine bK (vs := [_, _]) aC.out rfl (hh.jH (f := PX.cells) (x := o0) (l := os) (i := 0) rfl PX.len (by decide) ho0) rfl (by decide) ?_
          refine mI ?_
          refine aP (ji o0 m 492 _ (hT.hp hh) (kY hh (kJ 1 rfl (hmy o0 hom))) (hall o0 hom).1 (by decide) hmm2) ar.out rfl (by decide) ?_
          rintro e_ w95 ⟨x, ox, rfl, h2⟩
          refine ⟨_, rfl, ?_⟩
          replace hh := hh.join h2
          clear h2
          simp only [List.cons_append, List.nil_append] at hh
          replace hh := show Hp w (.row x.A x.n x.c 58 4 (a5 TR.cells x.ts) :: _) w95 from hh
          have xn := ox.n4 (hh.aJ (i := 0) rfl) mu
          rw [hpe, kX e1 e2, e1] at ox
          refine mT ?_
          refine dJ ?_
          refine dJ ?_
          refine cm hh ?_
          intro b12 w12 hh
          refine bE hh 0 [_,_] ?_
          intro ws hh
          replace hh : Hp _ (.blk _ _ [_, _] _ :: _) _ := hh
          refine aI (ah (sr (mL ?_)))
          refine aV (k := 0) aF.out aC.size rfl rfl (by omega) (by omega) (by decide) ?_
          refine bK (vs := [_, _]) aC.out rfl ((hr.ext hh.below).recAt PX.len h00) rfl (by decide) ?_
          refine mI ?_
          refine aP (mi g0 m 492 _ ((hf g0 hm0).1.ext hh.below) (hpl g0 hm0) (by decide) hmm2) ar.out rfl (by decide) ?_
          rintro e_ w103 ⟨y, oy, rfl, h2⟩
          refine ⟨_, rfl, ?_⟩
          replace hh := hh.join h2
          clear h2
          simp only [List.cons_append, List.nil_append] at hh
          replace hh := show Hp w (.row y.A y.n y.c 58 4 (a5 TR.cells y.ts) :: _) w103 from hh
          have yn := oy.n4 (hh.aJ (i := 0) rfl) mu
          refine mT ?_
          refine dJ ?_
          refine dJ ?_
          refine cm hh ?_
          intro b14 w14 hh
          refine bE hh 0 [_,_] ?_
          intro ws hh
          replace hh : Hp _ (.blk _ _ [_, _] _ :: _) _ := hh
          refine aI (ah (sr (mI (mI ?_))))
          refine dv (mB ?_)
          first | refine gS ?_ | (refine gT ?_; refine dx hh 2 [_,_] ?_) | refine gV ?_
          first | refine gS ?_ | (refine gT ?_; refine dx hh 0 [_,_] ?_) | refine gV ?_
          refine a8 rfl rfl ?_
          refine bz hh (ij (g := x) (h := y) _ (hh.aJ (i := 3) rfl) (hh.aJ (i := 1) rfl) (ox.same oy) (by omega) (by omega)) rfl ?_
          intro w112 hh
          first | refine cw ?_ | refine cx ?_
          refine mB ?_
          refine a8 rfl rfl ?_
          refine bz hh (fa _ (hT.hp hh)) rfl ?_
          intro w115 hh
          first | refine cw ?_ | refine cx ?_
          refine aB (ah (an ?_))
          refine cb ?_
          exact ⟨rfl, hh.below⟩
         ·first | refine gS ?_ | (refine gT ?_; refine aW ?_) | refine gV ?_
          first | refine gS ?_ | (refine gT ?_; refine bO ?_) | refine gV ?_
          first | refine cw ?_ | refine cx ?_
          refine mB ?_
          first | refine gS ?_ | (refine gT ?_; refine mI ?_) | refine gV ?_
          first | refine gS ?_ | (refine gT ?_; refine bO ?_) | refine gV ?_
          first | refine gS ?_ | (refine gT ?_; refine mB ?_) | refine gV ?_
          first | refine gS ?_ | (refine gT ?_; refine mI ?_) | refine gV ?_
          first | refine gS ?_ | (refine gT ?_; refine q5 ?_) | refine gV ?_
          first | refine gS ?_ | (refine gT ?_; (first | refine cw ?_ | refine cx ?_)) | refine gV ?_
          first | refine cw ?_ | refine cx ?_
          refine ah (cF (al (aj (sr (mL ?_)))))
          refine bj (k := 0) aF.out aC.size rfl rfl (by omega) (by omega) (by decide) ?_
          refine bK (vs := [_, _]) aC.out rfl (hh.jH (f := PX.cells) (x := o0) (l := os) (i := 0) rfl PX.len (by decide) ho0) rfl (by decide) ?_
          refine mI ?_
          refine aP (ji o0 m 492 _ (hT.hp hh) (kY hh (kJ 1 rfl (hmy o0 hom))) (hall o0 hom).1 (by decide) hmm2) ar.out rfl (by decide) ?_
          rintro e_ w95 ⟨x, ox, rfl, h2⟩
          refine ⟨_, rfl, ?_⟩
          replace hh := hh.join h2
          clear h2
          simp only [List.cons_append, List.nil_append] at hh
          replace hh := show Hp w (.row x.A x.n x.c 58 4 (a5 TR.cells x.ts) :: _) w95 from hh
          have xn := ox.n4 (hh.aJ (i := 0) rfl) mu
          rw [hpe, kX e1 e2, e1] at ox
          refine mT ?_
          refine dJ ?_
          refine dJ ?_
          refine cm hh ?_
          intro b12 w12 hh
          refine bE hh 0 [_,_] ?_
          intro ws hh
          replace hh : Hp _ (.blk _ _ [_, _] _ :: _) _ := hh
          refine aI (ah (sr (mL ?_)))
          refine aV (k := 0) aF.out aC.size rfl rfl (by omega) (by omega) (by decide) ?_
          refine bK (vs := [_, _]) aC.out rfl ((hr.ext hh.below).recAt PX.len h00) rfl (by decide) ?_
          refine mI ?_
          refine aP (mi g0 m 492 _ ((hf g0 hm0).1.ext hh.below) (hpl g0 hm0) (by decide) hmm2) ar.out rfl (by decide) ?_
          rintro e_ w103 ⟨y, oy, rfl, h2⟩
          refine ⟨_, rfl, ?_⟩
          replace hh := hh.join h2
          clear h2
          simp only [List.cons_append, List.nil_append] at hh
          replace hh := show Hp w (.row y.A y.n y.c 58 4 (a5 TR.cells y.ts) :: _) w103 from hh
          have yn := oy.n4 (hh.aJ (i := 0) rfl) mu
          refine mT ?_
          refine dJ ?_
          refine dJ ?_
          refine cm hh ?_
          intro b14 w14 hh
          refine bE hh 0 [_,_] ?_
          intro ws hh
          replace hh : Hp _ (.blk _ _ [_, _] _ :: _) _ := hh
          refine aI (ah (sr (mI (mI ?_))))
          refine dv (mB ?_)
          first | refine gS ?_ | (refine gT ?_; refine dx hh 2 [_,_] ?_) | refine gV ?_
          first | refine gS ?_ | (refine gT ?_; refine dx hh 0 [_,_] ?_) | refine gV ?_
          refine a8 rfl rfl ?_
          refine bz hh (ij (g := x) (h := y) _ (hh.aJ (i := 3) rfl) (hh.aJ (i := 1) rfl) (ox.same oy) (by omega) (by omega)) rfl ?_
          intro w112 hh
          first | refine cw ?_ | refine cx ?_
          refine mB ?_
          refine a8 rfl rfl ?_
          refine bz hh (fa _ (hT.hp hh)) rfl ?_
          intro w115 hh
          first | refine cw ?_ | refine cx ?_
          refine aB (ah (an ?_))
          refine cb ?_
          exact ⟨rfl, hh.below⟩
end Go.Proofs.YtkgdagjklakajaaGreatDoor
/- The row and the card of PolyMuls. -/
namespace Go.Proofs.YtkgdagjklakajaaGreatDoor.polyMuls
open Go.ChangeShapes Go.WideShapes Go.ChangeAt Go.RowKit Go.ChangeMaps
theorem own : ownKnob Tryz.prog.godebug = none := by kernel_rfl
set_option maxRecDepth 100000 in
theorem lifted (os : Os) (started : os.Started) (H : Type) (enc : TypeId × Value → H) :
  ReturnsInHanded {} Tryz.checked os 4 .any (fun w args => (Rows.polyMulsSpec.pre enc Tryz.prog Tryz.f4 Rows.polyMulsRow.domain false w args ∧ laidMetH Tryz.prog Rows.polyMulsRow.laid w) ∧ sizedMet enc Tryz.prog Tryz.f4 (OpenSpec.ofChange Rows.polyMulsSpec) false w args)
   (Rows.polyMulsSpec.post enc Tryz.prog Tryz.f4 false true false false) := by
 refine returnsInHanded_of_change_and (C := Tryz.checked) (X := fun w _ => laidMetH Tryz.prog Rows.polyMulsRow.laid w) (fun _ _ _ hh h => h.of_heap hh) own started (by kernel_rfl) Tryz.func4
  (ChangeSpec.witness_shaped (enc := enc) (C := Tryz.checked) (os := os) (X := fun w _ => laidMetH Tryz.prog Rows.polyMulsRow.laid w) false (World.laidAll Tryz.prog os Rows.polyMulsRow.laid) #[.slice none 0 0, .int .i64 0] 8 (World.laidAll_os _ _ _)
   (World.shaped_of_ZipB (by kernel_rfl) (by kernel_rfl)) (by kernel_rfl) (by kernel_rfl) (by kernel_rfl)
   (by rw [MakeChecks.laidMetH_plain _ _ _ (by kernel_rfl)]; exact laidMet_laidAll _ (by kernel_rfl) (by kernel_rfl))) ?_
 intro W base args ds gs before hval0 hW hc _ hL _
 have hval : ∀ (j : Nat) t v, Tryz.f4.params[j]? = some t → args[j]? = some v → Value.okWide Tryz.prog W .any base t v := hval0
 have hW' := hW
 obtain ⟨p, q, hA0, hV, rfl, hfz, hnd⟩ := hW
 have hA : DataW.TrodAll enc Tryz.prog W 0 (fun _ => true) true Tryz.f4.params.toList args.toList ds p := hA0
 rw [Tryz.params4] at hA hval
 obtain ⟨v0, vs0, d0, ds0, p0, q0, hargs, rfl, rfl, h0, r0⟩ := trodAll_cons hA
 obtain ⟨v1, vs1, d1, ds1, p1, q1, rfl, rfl, rfl, h1, r1⟩ := trodAll_cons r0
 obtain ⟨rfl, rfl, rfl⟩ := trodAll_nil r1
 obtain rfl : args = #[v0, v1] := by cases args; simp_all
 obtain ⟨rfl, rfl⟩ := trodVars_none hV
 obtain ⟨A0, n0, c0, l0, rfl, hS0, hF0⟩ := tx (hval 0 45 v0 rfl rfl) h0
 obtain ⟨x1, rfl, rfl, rfl, b1⟩ := open_int Tryz.underlying3 (hval 1 3 v1 rfl rfl) h1
 refine (nl A0 n0 c0 l0 x1 W (rW hL) hS0 hF0).mono fun e W' ⟨he, hb⟩ => ?_
 subst he
 exact ⟨_, rfl, wT hW' rfl (by kernel_rfl) (by rw [Tryz.params4]; exact of_decide_eq_true (by kernel_rfl)) (by kernel_rfl) Tryz.underlying4 rfl rfl rfl hb⟩
theorem row_holds : Rows.PolyMulsSaid :=
 OpenClaim.holds_of_wide 4 Tryz.f4 rfl rfl rfl rfl rfl rfl rfl ⟨rfl, rfl, rfl, rfl, rfl⟩ rfl rfl rfl rfl rfl (by kernel_rfl) Tryz.func4 (by kernel_rfl)
  (of_decide_eq_true (by kernel_rfl)) (by unfold Func.isWrapper; first | (rw [if_pos (by decide +kernel)]; kernel_rfl) | (rw [if_neg (by decide +kernel)]; exact ⟨rfl, rfl⟩))
  (fun os started H enc _ => lifted os started H enc)
theorem holds : Rows.PolyMulsCardSaid :=
 Claim7.holds_tied_plain_at .later [] [.data, .data, .pinned] true (true, "1c564a1a92a31679145c774681ebb04fb442f740ab3476e1cad723baa630082f") false row_holds (fun _ h => by cases h) (by kernel_rfl) (fun _ h => by cases h) polyMuls_row_tie rfl ⟨rfl, rfl⟩ (by kernel_rfl) rfl
  (fun f fn hf hfn => by
   obtain rfl : f = 4 := Option.some.inj ((show Tryz.prog.funcNamed "ogee/ogeelaw08.PolyMuls" = some 4 by kernel_rfl).symm.trans hf) |>.symm
   obtain rfl : fn = Tryz.f4 := (Option.some.inj (Tryz.func4.symm.trans hfn)).symm
   exact ⟨by kernel_rfl, fun j t ht => by
    rw [Tryz.params4] at ht
    have hm : t ∈ [45, 3] := by simpa using Array.mem_of_getElem? ht
    have hall : ([45, 3].all fun u => !Tryz.prog.wantsStandIn u) = true := by kernel_rfl
    exact (show Tryz.prog.wantsStandIn t = false by simpa using List.all_eq_true.1 hall t hm)⟩)
  (by kernel_rfl)
#print axioms holds
end Go.Proofs.YtkgdagjklakajaaGreatDoor.polyMuls
