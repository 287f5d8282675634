/- Lemmas for liftSame, part 5. -/
import Derived.Test.YtaapkaefelhfcaaGreatDoorZ4
/- The walks through poly.HY and poly.Check. -/
namespace Go.Proofs.YtaapkaefelhfcaaGreatDoor
open Go.RowKit
def iB (v : Int) : Bool := decide (0 ≤ v) && decide (v ≤ 12)
theorem gI {v : Int} : iB v = true ↔ 0 ≤ v ∧ v ≤ 12 := by unfold iB; rw [Bool.and_eq_true, decide_eq_true_eq, decide_eq_true_eq]
theorem md (v : Int) (w : World) : Calls Tryz.prog 161 #[.int .i64 v] w fun r w' => r = .returned (.bool (iB v)) ∧ Below w.heap.size w w' := by
 have hh := Hp.start w;unfold iB;by_cases h1 : 0 ≤ v
 ·rw [decide_eq_true h1, Bool.true_and];by_cases h2 : v ≤ 12
  ·rw [decide_eq_true h2];refine al (N := 9) (l := [.int .i64 v]) Tryz.func161 rfl rfl (by simp) ?_;refine sr (aB (aa (sr (mI ?_))));refine dv (mB (gT (mI (gT ?_))));refine EA ?_;refine e7 ?_;refine aB (aa (ao ?_));refine cq ?_;exact ⟨rfl, hh.below⟩
  ·rw [decide_eq_false h2];refine al (N := 9) (l := [.int .i64 v]) Tryz.func161 rfl rfl (by simp) ?_;refine sr (aB (aa (sr (mI ?_))));refine dv (mB (gT (mI (gT ?_))));refine EA ?_;refine e7 ?_;refine aB (aa (ao ?_));refine cq ?_;exact ⟨rfl, hh.below⟩
 ·rw [decide_eq_false h1, Bool.false_and];refine al (N := 9) (l := [.int .i64 v]) Tryz.func161 rfl rfl (by simp) ?_;refine sr (aB (aa (sr (mI ?_))));refine dv (mB ?_);refine gS (gS ?_);refine eX ?_;refine aB (aa (ao ?_));refine cq ?_;exact ⟨rfl, hh.below⟩
def IP (a : NR) : Bool := decide ((nR a.d).neg = a.neg) && (decide ((nR a.d).cA = a.cA) && decide ((nR a.d).e = a.e))
theorem qm (a : NR) : IP a = true ↔ nR a.d = a := by
 unfold IP;rw [Bool.and_eq_true, Bool.and_eq_true, decide_eq_true_eq, decide_eq_true_eq, decide_eq_true_eq];constructor
 ·rintro ⟨h1, h2, h3⟩;obtain ⟨s, m, e⟩ := a;generalize nR (NR.d ⟨s, m, e⟩) = b at *;obtain ⟨s', m', e'⟩ := b;simp only at h1 h2 h3;rw [h1, h2, h3]
 ·intro h;rw [h];exact ⟨rfl, rfl, rfl⟩
def mJ (v : Int) (t : TR) : Bool := e8 t.m.data.toList && decide ((t.m.size : Int) = v) && (vl t && IP t.c)
def q5 : List TR → Bool
 | [] => true
 | [_] => true
 | a :: b :: l => iV a.m b.m && q5 (b :: l)
theorem s7 : ∀ (l : List TR) (p x : TR), q5 (l ++ [p, x]) = (q5 (l ++ [p]) && iV p.m x.m)
 | [], p, x => by show (iV p.m x.m && true) = (true && iV p.m x.m); rw [Bool.and_true, Bool.true_and]
 | [a], p, x => by
  show (iV a.m p.m && (iV p.m x.m && true)) = ((iV a.m p.m && true) && iV p.m x.m);rw [Bool.and_true, Bool.and_true]
 | a :: b :: l, p, x => by
  show (iV a.m b.m && q5 ((b :: l) ++ [p, x])) = ((iV a.m b.m && q5 ((b :: l) ++ [p])) && iV p.m x.m);rw [s7 (b :: l) p x, Bool.and_assoc]
theorem AL : ∀ {l : List TR} {i : Nat} {p x : TR}, q5 l = true → l[i]? = some p → l[i + 1]? = some x → iV p.m x.m = true
 | [], i, p, x, _, h, _ => by simp at h
 | [a], i, p, x, _, _, h => by simp at h
 | a :: b :: l, 0, p, x, h, h1, h2 => by
  simp only [List.getElem?_cons_zero, Option.some.injEq, Nat.zero_add, List.getElem?_cons_succ] at h1 h2;subst h1 h2;exact (Bool.and_eq_true_iff.1 h).1
 | a :: b :: l, i + 1, p, x, h, h1, h2 => by
  rw [List.getElem?_cons_succ] at h1 h2;exact AL (Bool.and_eq_true_iff.1 h).2 h1 h2
theorem ri : ∀ {l : List TR}, q5 l = true ↔ qY l
 | [] => ⟨fun _ => List.Pairwise.nil, fun _ => rfl⟩
 | [a] => ⟨fun _ => List.pairwise_singleton _ _, fun _ => rfl⟩
 | a :: b :: l => by
  show (iV a.m b.m && q5 (b :: l)) = true ↔ _;rw [Bool.and_eq_true, ri (l := b :: l)];constructor
  ·rintro ⟨h1, h2⟩;refine List.pairwise_cons.2 ⟨fun t ht => ?_, h2⟩
   rcases List.mem_cons.1 ht with rfl | ht
   ·exact h1
   ·exact jE h1 ((List.pairwise_cons.1 h2).1 t ht)
  ·intro h;have := List.pairwise_cons.1 h;exact ⟨this.1 b List.mem_cons_self, this.2⟩
def okB (v : Int) (ts : List TR) : Bool := ts.all (mJ v) && q5 ts
def jl (v : Int) (ts : List TR) : Int := if iB v = false then 1 else if 4096 < ts.length then 3 else if okB v ts = true then 0 else 1
theorem El {v : Int} {ts : List TR} (h1 : iB v = true) (h2 : ¬ 4096 < ts.length) (h : okB v ts = false) : jl v ts = 1 := by
 unfold jl;rw [if_neg (by rw [h1]; decide), if_neg h2, if_neg (by rw [h]; decide)]
theorem uR {v : Int} {ts : List TR} {i : Nat} {x : TR} (hx : ts[i]? = some x) (h : mJ v x = false) : okB v ts = false := by
 unfold okB;rw [Bool.and_eq_false_iff];refine .inl (Bool.eq_false_iff.2 fun h2 => ?_);rw [List.all_eq_true.1 h2 x (List.mem_of_getElem? hx)] at h
 cases h
theorem DK {v : Int} {ts : List TR} {i : Nat} {p x : TR} (hp : ts[i]? = some p) (hx : ts[i + 1]? = some x) (h : iV p.m x.m = false) : okB v ts = false := by
 unfold okB;rw [Bool.and_eq_false_iff];refine .inr (Bool.eq_false_iff.2 fun h2 => ?_);rw [AL h2 hp hx] at h
 cases h
theorem u7 (v : Int) (A : Option Addr) (n c : Nat) (ts : List TR) (w : World) (hT : eP w) (hS : Sl w A n 4 (aY TR.cells ts)) (hn : n ≤ 1000000) (ho : ∀ t ∈ ts, t.c.ok ∧ t.m.size ≤ 100000) :
  Calls Tryz.prog 85 #[.agg #[.int .i64 v, .slice A n c]] w fun r w' => r = .returned (.int .i64 (jl v ts)) ∧ Below w.heap.size w w' := by
 have hh := Hp.start w;have hln := hS.bM TR.len Kz;have hfw := fun w1 => md v w1
 cases hf : iB v with
 | false =>
  rw [hf] at hfw;rw [show jl v ts = 1 by unfold jl; rw [if_pos hf]];refine al (N := 58) (l := [.agg #[.int .i64 v, .slice A n c]]) Tryz.func85 rfl rfl (by simp) ?_;refine sr ?_;refine db hh [_,_] ?_;intro b1 w1 hh;refine aI (aa (ah (sr (bP ?_))));refine bR hh 0 ?_;refine bE hh (hfw _) rfl ?_;intro w7 hh;refine g9 ?_;refine aa (cT (sr (aI (aa (ao (aG ?_))))));refine cq ?_;exact ⟨rfl, hh.below⟩
 | true =>
  rw [hf] at hfw;by_cases h4 : 4096 < n
  ·rw [show jl v ts = 3 by unfold jl; rw [if_neg (by rw [hf]; decide), if_pos Ky]];refine al (N := 58) (l := [.agg #[.int .i64 v, .slice A n c]]) Tryz.func85 rfl rfl (by simp) ?_;refine sr ?_;refine db hh [_,_] ?_;intro b1 w1 hh;refine aI (aa (ah (sr (bP ?_))));refine bR hh 0 ?_;refine bE hh (hfw _) rfl ?_;intro w7 hh;refine g9 ?_;refine aa (cF (ak (ai (ah (sr (bP ?_))))));refine bR hh 0 ?_;refine aW ?_;refine ct (aa (cT (sr (aI (aa (ao (aG ?_)))))));refine cq ?_;exact ⟨rfl, hh.below⟩
  ·have hbad := fun h => El (v := v) (ts := ts) hf Ky h;refine al (N := 58) (l := [.agg #[.int .i64 v, .slice A n c]]) Tryz.func85 rfl rfl (by simp) ?_;refine sr ?_;refine db hh [_,_] ?_;intro b1 w1 hh;refine aI (aa (ah (sr (bP ?_))));refine bR hh 0 ?_;refine bE hh (hfw _) rfl ?_;intro w7 hh;refine g9 ?_;refine aa (cF (ak (ai (ah (sr (bP ?_))))));refine bR hh 0 ?_;refine aW ?_;refine ct (aa (cF (ak (ai (ah (sr (bP ?_)))))));refine bR hh 0 ?_;refine aW (mI (aa (aj ?_)));refine bm [2, 3, 4, 16, 17, 18, 19, 20, 21, 22, 23, 24, 25, 26, 27, 28, 29, 30, 31, 32, 33, 34, 35, 36, 37, 38, 39, 40, 41, 42, 43, 44, 45, 46, 47, 48, 49, 50, 51, 52, 53, 54, 55, 56, 57] 16
    (fun x w' => ∃ i : Nat, i ≤ n ∧ x = .int .i64 i ∧ (ts.take i).all (mJ v) = true ∧ q5 (ts.take i) = true ∧ Hp w [.blk b1 24 [.int .i64 v, .slice A n c] (0, 0)] w')
    (fun x _ => n - (intOf x).toNat) ?_ ?_
   ·exact ⟨0, Nat.zero_le _, rfl, rfl, rfl, hh⟩
   ·clear hh;rintro ρ' x_ w' ⟨i, hi, rfl, hall, hris, hh⟩;by_cases hlt : i < n
    ·obtain ⟨x, hx⟩ := ay (l := ts) (k := i) Ky;obtain ⟨ad, rfl, hr⟩ := hS.at_ Ky;obtain ⟨hxo, hxm⟩ := ho x (List.mem_of_getElem? hx);have hmay := fun w1 => ky x.m v w1 Ky;have hsg := fun w1 => fS x.c w1;have hfo := fun w1 hT1 => eB x.c w1 hT1 (by have := hxo.1; omega) (by have := hxo.2.1; omega) (by have := hxo.2.2; omega);have hzz : x.c.i.sign = 0 ↔ x.c.d = 0 := by
      rw [Int.sign_eq_zero_iff_zero];exact ⟨fun h => by unfold NR.d; rw [h]; rfl, pk⟩
     cases hm : e8 x.m.data.toList && decide ((x.m.size : Int) = v) with
     | false =>
      rw [hm] at hmay;rw [hbad (uR hx (by unfold mJ; rw [hm]; rfl))];refine sr ?_;refine aK (aa (ah (cT (ak (ai (ah (aj (sr (mI ?_)))))))));refine aD (k := i) aQ.out aF.size rfl rfl Ky Ky Kz ?_;refine bJ (vs := [_, _, _, _]) aF.out rfl ((hr.ext hh.below).recAt TR.len hx) rfl Kz ?_;refine cB hh ?_;intro b4 w4 hh;refine aI ?_;refine bK hh 0 [_,_,_,_] ?_;intro ws hh;replace hh : Hp _ (.blk _ _ [_, _, _, _] _ :: _) _ := hh;refine aa (ah ?_)
      refine gk [] [] [0, 1, 0, 4, 15, 31, 63, 127, 255, 511, 1023, 2047, 4095, 8191, 16383, 32767, 8191, 73727, 262143, 524287, 1048575, 2097151, 4194303, 8388607, 16777215, 33554431, 16777215, 83886079, 268435455, 536870911, 1073741823, 16777215, 2164260863, 8589934591, 17179869183, 34359738367] 33 [[(4, none)], [(21, some 0)], [(1, none)], [(23, some 2)], [(22, some 1), (24, some 3)], [(25, some 4)], [(26, some 5)], [(4, none), (27, some 6)], [(28, some 7), (27, some 6)], [(29, some 8), (27, some 6)], [(30, some 9), (27, some 6)], [(27, some 6), (31, some 10)], [(32, some 11)], [(4, none), (33, some 12)], [(34, some 13), (33, some 12)], [(35, some 14), (33, some 12)], [(4, none), (33, some 12)], [(37, some 16), (33, some 12)], [(36, some 15), (38, some 17), (33, some 12)], [(33, some 12), (39, some 18)], [(40, some 19)], [(3, none), (41, some 20)], [(42, some 21), (41, some 20)], [(43, some 22), (41, some 20)], [(1, none), (44, some 23)], [(45, some 24), (44, some 23)], [(3, none), (44, some 23)], [(47, some 26), (44, some 23)], [(46, some 25), (48, some 27), (44, some 23)], [(49, some 28), (44, some 23)], [(50, some 29), (44, some 23)], [(4, none), (44, some 23)], [(52, some 31), (44, some 23)]] [(32, 53), (31, 52), (30, 51), (29, 50), (28, 49), (27, 48), (26, 47), (25, 46), (24, 45), (23, 44), (22, 43), (21, 42), (20, 41), (19, 40), (18, 39), (17, 38), (16, 37), (15, 36), (14, 35), (13, 34), (12, 33), (11, 32), (10, 31), (9, 30), (8, 29), (7, 28), (6, 27), (5, 26), (4, 25), (3, 24), (2, 23), (1, 22), (0, 21)] hh mixed KA ie rfl (by repeat (first | exact cZ | refine cG ?_ | refine cY ?_)) ?_
      refine eA ?_;refine fQ 0 ?_;refine eA ?_;refine fQ 1 ?_;refine dC (fun _ hj => hmay _) ?_;refine BJ ?_;refine sl ?_;refine dS (dS (dS (dS ?_)));refine Jh ?_;refine sl ?_;refine dS (dS (dS (dS (dS ?_))));refine pW (i := 18) rfl (fun ρ1 w1 hj hR => (show ρ1 33 = Value.bool _ from hR.2.2.1)) Kz ?_;refine Jh ?_;refine sl ?_;refine dS (dS (dS (dU (dU (dU (dU ?_))))));refine nP (i := 28) rfl (fun ρ1 w1 hj hR => (show ρ1 44 = undef from hR.2.2.1)) ?_;refine dU (dU (dU (dU ?_)));refine bA ?_;intro f W hJ hV _;have hb_8 := hJ.bl;obtain ⟨v53, v52, v51, v50, v49, v48, v47, v46, v45, v44, v43, v42, v41, v40, v39, v38, v37, v36, v35, v34, v33, v32, v31, v30, v29, v28, v27, v26, v25, v24, v23, v22, v21, _⟩ := hV;replace hh := hJ.hp;refine bj (bC (ae v53 (ae v52 (ae v51 (ae v50 (ae v49 (ae v48 (ae v47 (ae v46 (ae v45 (ae v44 (ae v43 (ae v42 (ae v41 (ae v40 (ae v39 (ae v38 (ae v37 (ae v36 (ae v35 (ae v34 (ae v33 (ae v32 (ae v31 (ae v30 (ae v29 (ae v28 (ae v27 (ae v26 (ae v25 (ae v24 (ae v23 (ae v22 (ae v21 bh)))))))))))))))))))))))))))))))))) ?_;dsimp only [cP];clear hJ;refine gV (gS ?_);refine e7 ?_;refine aa (cT (sr (aI (aa (ao (bD (aG (aG (bD (aG ?_))))))))));refine cq ?_
      exact ⟨rfl, hh.below⟩
     | true =>
      rw [hm] at hmay;by_cases hz : x.c.d = 0
      ·have hs := hzz.2 hz;rw [hbad (uR hx (by unfold mJ vl; rw [hm, decide_eq_true hz]; rfl))];refine sr ?_;refine aK (aa (ah (cT (ak (ai (ah (aj (sr (mI ?_)))))))));refine aD (k := i) aQ.out aF.size rfl rfl Ky Ky Kz ?_;refine bJ (vs := [_, _, _, _]) aF.out rfl ((hr.ext hh.below).recAt TR.len hx) rfl Kz ?_;refine cB hh ?_;intro b4 w4 hh;refine aI ?_;refine bK hh 0 [_,_,_,_] ?_;intro ws hh;replace hh : Hp _ (.blk _ _ [_, _, _, _] _ :: _) _ := hh;refine aa (ah ?_)
       refine gk [] [] [0, 1, 0, 4, 15, 31, 63, 127, 255, 511, 1023, 2047, 4095, 8191, 16383, 32767, 8191, 73727, 262143, 524287, 1048575, 2097151, 4194303, 8388607, 16777215, 33554431, 16777215, 83886079, 268435455, 536870911, 1073741823, 16777215, 2164260863, 8589934591, 17179869183, 34359738367] 33 [[(4, none)], [(21, some 0)], [(1, none)], [(23, some 2)], [(22, some 1), (24, some 3)], [(25, some 4)], [(26, some 5)], [(4, none), (27, some 6)], [(28, some 7), (27, some 6)], [(29, some 8), (27, some 6)], [(30, some 9), (27, some 6)], [(27, some 6), (31, some 10)], [(32, some 11)], [(4, none), (33, some 12)], [(34, some 13), (33, some 12)], [(35, some 14), (33, some 12)], [(4, none), (33, some 12)], [(37, some 16), (33, some 12)], [(36, some 15), (38, some 17), (33, some 12)], [(33, some 12), (39, some 18)], [(40, some 19)], [(3, none), (41, some 20)], [(42, some 21), (41, some 20)], [(43, some 22), (41, some 20)], [(1, none), (44, some 23)], [(45, some 24), (44, some 23)], [(3, none), (44, some 23)], [(47, some 26), (44, some 23)], [(46, some 25), (48, some 27), (44, some 23)], [(49, some 28), (44, some 23)], [(50, some 29), (44, some 23)], [(4, none), (44, some 23)], [(52, some 31), (44, some 23)]] [(32, 53), (31, 52), (30, 51), (29, 50), (28, 49), (27, 48), (26, 47), (25, 46), (24, 45), (23, 44), (22, 43), (21, 42), (20, 41), (19, 40), (18, 39), (17, 38), (16, 37), (15, 36), (14, 35), (13, 34), (12, 33), (11, 32), (10, 31), (9, 30), (8, 29), (7, 28), (6, 27), (5, 26), (4, 25), (3, 24), (2, 23), (1, 22), (0, 21)] hh mixed KA ie rfl (by repeat (first | exact cZ | refine cG ?_ | refine cY ?_)) ?_
       refine eA ?_;refine fQ 0 ?_;refine eA ?_;refine fQ 1 ?_;refine dC (fun _ hj => hmay _) ?_;refine BJ ?_;refine sl ?_;refine dG (eA ?_);refine dG (gY 0 [_,_,_] ?_);refine ew (i := 9) rfl (fun ρ1 w1 hj hR => (show ρ1 27 = Value.bool _ from hR.2.1)) (fun ρ1 w1 hj hR => bX aw.out (a7 (show ρ1 29 = Value.agg (List.toArray _) from hR.1) bQ)) (fun w1 hj => hsg _) ?_;refine dG (Bp ?_);refine E0 ?_;refine sl ?_;refine dS (dS (dS (dS (dS ?_))));refine pW (i := 18) rfl (fun ρ1 w1 hj hR => (show ρ1 33 = Value.bool _ from hR.2.2.1)) Kz ?_;refine Jh ?_;refine sl ?_;refine dS (dS (dS (dU (dU (dU (dU ?_))))));refine nP (i := 28) rfl (fun ρ1 w1 hj hR => (show ρ1 44 = undef from hR.2.2.1)) ?_;refine dU (dU (dU (dU ?_)));refine bA ?_;intro f W hJ hV _;have hb_8 := hJ.bl;obtain ⟨v53, v52, v51, v50, v49, v48, v47, v46, v45, v44, v43, v42, v41, v40, v39, v38, v37, v36, v35, v34, v33, v32, v31, v30, v29, v28, v27, v26, v25, v24, v23, v22, v21, _⟩ := hV;replace hh := hJ.hp
       refine bj (bC (ae v53 (ae v52 (ae v51 (ae v50 (ae v49 (ae v48 (ae v47 (ae v46 (ae v45 (ae v44 (ae v43 (ae v42 (ae v41 (ae v40 (ae v39 (ae v38 (ae v37 (ae v36 (ae v35 (ae v34 (ae v33 (ae v32 (ae v31 (ae v30 (ae v29 (ae v28 (ae v27 (ae v26 (ae v25 (ae v24 (ae v23 (ae v22 (ae v21 bh)))))))))))))))))))))))))))))))))) ?_;dsimp only [cP];clear hJ;refine gV (gS ?_);refine e7 ?_;refine aa (cT (sr (aI (aa (ao (bD (aG (aG (bD (aG ?_))))))))));refine cq ?_;exact ⟨rfl, hh.below⟩
      ·have hs : ¬ x.c.i.sign = 0 := fun h => hz (hzz.1 h);by_cases hnf : nR x.c.d = x.c
       ·have hgood : mJ v x = true := by unfold mJ vl; rw [hm, decide_eq_false hz, (qm x.c).2 hnf]; rfl
        have hall2 : (ts.take (i + 1)).all (mJ v) = true := by rw [aH hx, List.all_append, hall]; simp [hgood]
        by_cases h0 : i = 0
        ·refine sr ?_;refine aK (aa (ah (cT (ak (ai (ah (aj (sr (mI ?_)))))))));refine aD (k := i) aQ.out aF.size rfl rfl Ky Ky Kz ?_;refine bJ (vs := [_, _, _, _]) aF.out rfl ((hr.ext hh.below).recAt TR.len hx) rfl Kz ?_;refine cB hh ?_;intro b4 w4 hh;refine aI ?_;refine bK hh 0 [_,_,_,_] ?_;intro ws hh;replace hh : Hp _ (.blk _ _ [_, _, _, _] _ :: _) _ := hh;refine aa (ah ?_)
         refine gk [] [] [0, 1, 0, 4, 15, 31, 63, 127, 255, 511, 1023, 2047, 4095, 8191, 16383, 32767, 8191, 73727, 262143, 524287, 1048575, 2097151, 4194303, 8388607, 16777215, 33554431, 16777215, 83886079, 268435455, 536870911, 1073741823, 16777215, 2164260863, 8589934591, 17179869183, 34359738367] 33 [[(4, none)], [(21, some 0)], [(1, none)], [(23, some 2)], [(22, some 1), (24, some 3)], [(25, some 4)], [(26, some 5)], [(4, none), (27, some 6)], [(28, some 7), (27, some 6)], [(29, some 8), (27, some 6)], [(30, some 9), (27, some 6)], [(27, some 6), (31, some 10)], [(32, some 11)], [(4, none), (33, some 12)], [(34, some 13), (33, some 12)], [(35, some 14), (33, some 12)], [(4, none), (33, some 12)], [(37, some 16), (33, some 12)], [(36, some 15), (38, some 17), (33, some 12)], [(33, some 12), (39, some 18)], [(40, some 19)], [(3, none), (41, some 20)], [(42, some 21), (41, some 20)], [(43, some 22), (41, some 20)], [(1, none), (44, some 23)], [(45, some 24), (44, some 23)], [(3, none), (44, some 23)], [(47, some 26), (44, some 23)], [(46, some 25), (48, some 27), (44, some 23)], [(49, some 28), (44, some 23)], [(50, some 29), (44, some 23)], [(4, none), (44, some 23)], [(52, some 31), (44, some 23)]] [(32, 53), (31, 52), (30, 51), (29, 50), (28, 49), (27, 48), (26, 47), (25, 46), (24, 45), (23, 44), (22, 43), (21, 42), (20, 41), (19, 40), (18, 39), (17, 38), (16, 37), (15, 36), (14, 35), (13, 34), (12, 33), (11, 32), (10, 31), (9, 30), (8, 29), (7, 28), (6, 27), (5, 26), (4, 25), (3, 24), (2, 23), (1, 22), (0, 21)] hh mixed KA ie rfl (by repeat (first | exact cZ | refine cG ?_ | refine cY ?_)) ?_
         refine eA ?_;refine fQ 0 ?_;refine eA ?_;refine fQ 1 ?_;refine dC (fun _ hj => hmay _) ?_;refine BJ ?_;refine sl ?_;refine dG (eA ?_);refine dG (gY 0 [_,_,_] ?_);refine ew (i := 9) rfl (fun ρ1 w1 hj hR => (show ρ1 27 = Value.bool _ from hR.2.1)) (fun ρ1 w1 hj hR => bX aw.out (a7 (show ρ1 29 = Value.agg (List.toArray _) from hR.1) bQ)) (fun w1 hj => hsg _) ?_;refine dG (Bp ?_);refine E0 ?_;refine sl ?_;refine dG (eA ?_);refine dG (gY 0 [_,_,_] ?_);refine ew (i := 15) rfl (fun ρ1 w1 hj hR => (show ρ1 33 = Value.bool _ from hR.2.1)) (fun ρ1 w1 hj hR => bX aw.out (a7 (show ρ1 35 = Value.agg (List.toArray _) from hR.1) bQ)) (fun w1 hj => hfo _ (hT.hp hj.hp)) ?_;refine dG (eA ?_);refine dG (gY 0 [_,_,_] ?_);refine p8 (i := 18) rfl (fun ρ1 w1 hj hR => (show ρ1 33 = Value.bool _ from hR.2.2.1)) (fun ρ1 w1 hj hR => qo (show ρ1 36 = Value.agg (List.toArray _) from hR.1) (show ρ1 38 = Value.agg (List.toArray _) from hR.2.1) (by first | assumption | rfl)) ?_;refine E0 ?_;refine sl ?_;refine dG (fJ ?_);refine dG (HO ?_);refine dG (sl ?_);refine dS (dS (dS (dS ?_)));refine pW (i := 28) rfl (fun ρ1 w1 hj hR => (show ρ1 44 = Value.bool _ from hR.2.2.1)) Kz ?_;refine dS (dS (dS (dS ?_)))
         refine bA ?_;intro f W hJ hV _;have hb_8 := hJ.bl;obtain ⟨v53, v52, v51, v50, v49, v48, v47, v46, v45, v44, v43, v42, v41, v40, v39, v38, v37, v36, v35, v34, v33, v32, v31, v30, v29, v28, v27, v26, v25, v24, v23, v22, v21, _⟩ := hV;replace hh := hJ.hp;refine bj (bC (ae v53 (ae v52 (ae v51 (ae v50 (ae v49 (ae v48 (ae v47 (ae v46 (ae v45 (ae v44 (ae v43 (ae v42 (ae v41 (ae v40 (ae v39 (ae v38 (ae v37 (ae v36 (ae v35 (ae v34 (ae v33 (ae v32 (ae v31 (ae v30 (ae v29 (ae v28 (ae v27 (ae v26 (ae v25 (ae v24 (ae v23 (ae v22 (ae v21 bh)))))))))))))))))))))))))))))))))) ?_;dsimp only [cP];clear hJ;refine gS (gT ?_)
         (first | refine e7 ?_ | refine eX ?_)
         refine eX ?_;refine aa (cF (ak (aP (ai (aq ?_)))));refine bB (mI (aE (ai ?_)));replace hh := hh.sub (List.Sublist.cons _ (List.Sublist.cons_cons _ List.Sublist.slnil));refine ⟨⟨i + 1, Ky, rfl, hall2, by rw [aH hx, h0]; rfl, hh⟩, by show n - (i + 1) < n - i; omega, ?_⟩;exact KB
        ·obtain ⟨q, hq⟩ : ∃ q, i = q + 1 := ⟨i - 1, Ky⟩;obtain ⟨p, hp⟩ := ay (l := ts) (k := q) Ky
         cases hlp : iV p.m x.m with
         | false =>
          rw [hbad (DK hp (hq ▸ hx) hlp)];have hge : (!(Op.bytesLess p.m.toList x.m.toList)) = true := by rw [nj, hlp]; rfl
          refine sr ?_;refine aK (aa (ah (cT (ak (ai (ah (aj (sr (mI ?_)))))))));refine aD (k := i) aQ.out aF.size rfl rfl Ky Ky Kz ?_;refine bJ (vs := [_, _, _, _]) aF.out rfl ((hr.ext hh.below).recAt TR.len hx) rfl Kz ?_;refine cB hh ?_;intro b4 w4 hh;refine aI ?_;refine bK hh 0 [_,_,_,_] ?_;intro ws hh;replace hh : Hp _ (.blk _ _ [_, _, _, _] _ :: _) _ := hh;refine aa (ah ?_)
          refine gk [] [] [0, 1, 0, 4, 15, 31, 63, 127, 255, 511, 1023, 2047, 4095, 8191, 16383, 32767, 8191, 73727, 262143, 524287, 1048575, 2097151, 4194303, 8388607, 16777215, 33554431, 16777215, 83886079, 268435455, 536870911, 1073741823, 16777215, 2164260863, 8589934591, 17179869183, 34359738367] 33 [[(4, none)], [(21, some 0)], [(1, none)], [(23, some 2)], [(22, some 1), (24, some 3)], [(25, some 4)], [(26, some 5)], [(4, none), (27, some 6)], [(28, some 7), (27, some 6)], [(29, some 8), (27, some 6)], [(30, some 9), (27, some 6)], [(27, some 6), (31, some 10)], [(32, some 11)], [(4, none), (33, some 12)], [(34, some 13), (33, some 12)], [(35, some 14), (33, some 12)], [(4, none), (33, some 12)], [(37, some 16), (33, some 12)], [(36, some 15), (38, some 17), (33, some 12)], [(33, some 12), (39, some 18)], [(40, some 19)], [(3, none), (41, some 20)], [(42, some 21), (41, some 20)], [(43, some 22), (41, some 20)], [(1, none), (44, some 23)], [(45, some 24), (44, some 23)], [(3, none), (44, some 23)], [(47, some 26), (44, some 23)], [(46, some 25), (48, some 27), (44, some 23)], [(49, some 28), (44, some 23)], [(50, some 29), (44, some 23)], [(4, none), (44, some 23)], [(52, some 31), (44, some 23)]] [(32, 53), (31, 52), (30, 51), (29, 50), (28, 49), (27, 48), (26, 47), (25, 46), (24, 45), (23, 44), (22, 43), (21, 42), (20, 41), (19, 40), (18, 39), (17, 38), (16, 37), (15, 36), (14, 35), (13, 34), (12, 33), (11, 32), (10, 31), (9, 30), (8, 29), (7, 28), (6, 27), (5, 26), (4, 25), (3, 24), (2, 23), (1, 22), (0, 21)] hh mixed KA ie rfl (by repeat (first | exact cZ | refine cG ?_ | refine cY ?_)) ?_
          refine eA ?_;refine fQ 0 ?_;refine eA ?_;refine fQ 1 ?_;refine dC (fun _ hj => hmay _) ?_;refine BJ ?_;refine sl ?_;refine dG (eA ?_);refine dG (gY 0 [_,_,_] ?_);refine ew (i := 9) rfl (fun ρ1 w1 hj hR => (show ρ1 27 = Value.bool _ from hR.2.1)) (fun ρ1 w1 hj hR => bX aw.out (a7 (show ρ1 29 = Value.agg (List.toArray _) from hR.1) bQ)) (fun w1 hj => hsg _) ?_;refine dG (Bp ?_);refine E0 ?_;refine sl ?_;refine dG (eA ?_);refine dG (gY 0 [_,_,_] ?_);refine ew (i := 15) rfl (fun ρ1 w1 hj hR => (show ρ1 33 = Value.bool _ from hR.2.1)) (fun ρ1 w1 hj hR => bX aw.out (a7 (show ρ1 35 = Value.agg (List.toArray _) from hR.1) bQ)) (fun w1 hj => hfo _ (hT.hp hj.hp)) ?_;refine dG (eA ?_);refine dG (gY 0 [_,_,_] ?_);refine p8 (i := 18) rfl (fun ρ1 w1 hj hR => (show ρ1 33 = Value.bool _ from hR.2.2.1)) (fun ρ1 w1 hj hR => qo (show ρ1 36 = Value.agg (List.toArray _) from hR.1) (show ρ1 38 = Value.agg (List.toArray _) from hR.2.1) (by first | assumption | rfl)) ?_;refine E0 ?_;refine sl ?_;refine dG (fJ ?_);refine dG (HO ?_);refine dG (sl ?_);refine dG (eA ?_);refine dG (fQ 1 ?_);refine dG (fJ ?_);refine dG (wB ?_);refine dG (mH (q) ?_);refine dG (GJ ?_)
          refine dG (nV (fun _ hj => ((hr.ext hj.hp.below).recAt TR.len hp).cell (i := 0) rfl) ?_);refine dG (eA ?_);refine dG (fQ 0 ?_);refine bA ?_;intro f W hJ hV _;have hb_8 := hJ.bl;obtain ⟨v53, v52, v51, v50, v49, v48, v47, v46, v45, v44, v43, v42, v41, v40, v39, v38, v37, v36, v35, v34, v33, v32, v31, v30, v29, v28, v27, v26, v25, v24, v23, v22, v21, _⟩ := hV;replace hh := hJ.hp;refine bj (bC (ae v53 (ae v52 (ae v51 (ae v50 (ae v49 (ae v48 (ae v47 (ae v46 (ae v45 (ae v44 (ae v43 (ae v42 (ae v41 (ae v40 (ae v39 (ae v38 (ae v37 (ae v36 (ae v35 (ae v34 (ae v33 (ae v32 (ae v31 (ae v30 (ae v29 (ae v28 (ae v27 (ae v26 (ae v25 (ae v24 (ae v23 (ae v22 (ae v21 bh)))))))))))))))))))))))))))))))))) ?_;dsimp only [cP];clear hJ;refine gT ?_;refine tR rfl rfl Kz ?_;refine gT ?_
          (first | refine e7 ?_ | refine eX ?_)
          refine eX ?_;refine aa ?_;rw [hge];refine cT (sr (aI (aa (ao (bD (aG (aG (bD (aG ?_)))))))));refine cq ?_;exact ⟨rfl, hh.below⟩
         | true =>
          have hge : (!(Op.bytesLess p.m.toList x.m.toList)) = false := by rw [nj, hlp]; rfl
          refine sr ?_;refine aK (aa (ah (cT (ak (ai (ah (aj (sr (mI ?_)))))))));refine aD (k := i) aQ.out aF.size rfl rfl Ky Ky Kz ?_;refine bJ (vs := [_, _, _, _]) aF.out rfl ((hr.ext hh.below).recAt TR.len hx) rfl Kz ?_;refine cB hh ?_;intro b4 w4 hh;refine aI ?_;refine bK hh 0 [_,_,_,_] ?_;intro ws hh;replace hh : Hp _ (.blk _ _ [_, _, _, _] _ :: _) _ := hh;refine aa (ah ?_)
          refine gk [] [] [0, 1, 0, 4, 15, 31, 63, 127, 255, 511, 1023, 2047, 4095, 8191, 16383, 32767, 8191, 73727, 262143, 524287, 1048575, 2097151, 4194303, 8388607, 16777215, 33554431, 16777215, 83886079, 268435455, 536870911, 1073741823, 16777215, 2164260863, 8589934591, 17179869183, 34359738367] 33 [[(4, none)], [(21, some 0)], [(1, none)], [(23, some 2)], [(22, some 1), (24, some 3)], [(25, some 4)], [(26, some 5)], [(4, none), (27, some 6)], [(28, some 7), (27, some 6)], [(29, some 8), (27, some 6)], [(30, some 9), (27, some 6)], [(27, some 6), (31, some 10)], [(32, some 11)], [(4, none), (33, some 12)], [(34, some 13), (33, some 12)], [(35, some 14), (33, some 12)], [(4, none), (33, some 12)], [(37, some 16), (33, some 12)], [(36, some 15), (38, some 17), (33, some 12)], [(33, some 12), (39, some 18)], [(40, some 19)], [(3, none), (41, some 20)], [(42, some 21), (41, some 20)], [(43, some 22), (41, some 20)], [(1, none), (44, some 23)], [(45, some 24), (44, some 23)], [(3, none), (44, some 23)], [(47, some 26), (44, some 23)], [(46, some 25), (48, some 27), (44, some 23)], [(49, some 28), (44, some 23)], [(50, some 29), (44, some 23)], [(4, none), (44, some 23)], [(52, some 31), (44, some 23)]] [(32, 53), (31, 52), (30, 51), (29, 50), (28, 49), (27, 48), (26, 47), (25, 46), (24, 45), (23, 44), (22, 43), (21, 42), (20, 41), (19, 40), (18, 39), (17, 38), (16, 37), (15, 36), (14, 35), (13, 34), (12, 33), (11, 32), (10, 31), (9, 30), (8, 29), (7, 28), (6, 27), (5, 26), (4, 25), (3, 24), (2, 23), (1, 22), (0, 21)] hh mixed KA ie rfl (by repeat (first | exact cZ | refine cG ?_ | refine cY ?_)) ?_
          refine eA ?_;refine fQ 0 ?_;refine eA ?_;refine fQ 1 ?_;refine dC (fun _ hj => hmay _) ?_;refine BJ ?_;refine sl ?_;refine dG (eA ?_);refine dG (gY 0 [_,_,_] ?_);refine ew (i := 9) rfl (fun ρ1 w1 hj hR => (show ρ1 27 = Value.bool _ from hR.2.1)) (fun ρ1 w1 hj hR => bX aw.out (a7 (show ρ1 29 = Value.agg (List.toArray _) from hR.1) bQ)) (fun w1 hj => hsg _) ?_;refine dG (Bp ?_);refine E0 ?_;refine sl ?_;refine dG (eA ?_);refine dG (gY 0 [_,_,_] ?_);refine ew (i := 15) rfl (fun ρ1 w1 hj hR => (show ρ1 33 = Value.bool _ from hR.2.1)) (fun ρ1 w1 hj hR => bX aw.out (a7 (show ρ1 35 = Value.agg (List.toArray _) from hR.1) bQ)) (fun w1 hj => hfo _ (hT.hp hj.hp)) ?_;refine dG (eA ?_);refine dG (gY 0 [_,_,_] ?_);refine p8 (i := 18) rfl (fun ρ1 w1 hj hR => (show ρ1 33 = Value.bool _ from hR.2.2.1)) (fun ρ1 w1 hj hR => qo (show ρ1 36 = Value.agg (List.toArray _) from hR.1) (show ρ1 38 = Value.agg (List.toArray _) from hR.2.1) (by first | assumption | rfl)) ?_;refine E0 ?_;refine sl ?_;refine dG (fJ ?_);refine dG (HO ?_);refine dG (sl ?_);refine dG (eA ?_);refine dG (fQ 1 ?_);refine dG (fJ ?_);refine dG (wB ?_);refine dG (mH (q) ?_);refine dG (GJ ?_)
          refine dG (nV (fun _ hj => ((hr.ext hj.hp.below).recAt TR.len hp).cell (i := 0) rfl) ?_);refine dG (eA ?_);refine dG (fQ 0 ?_);refine bA ?_;intro f W hJ hV _;have hb_8 := hJ.bl;obtain ⟨v53, v52, v51, v50, v49, v48, v47, v46, v45, v44, v43, v42, v41, v40, v39, v38, v37, v36, v35, v34, v33, v32, v31, v30, v29, v28, v27, v26, v25, v24, v23, v22, v21, _⟩ := hV;replace hh := hJ.hp;refine bj (bC (ae v53 (ae v52 (ae v51 (ae v50 (ae v49 (ae v48 (ae v47 (ae v46 (ae v45 (ae v44 (ae v43 (ae v42 (ae v41 (ae v40 (ae v39 (ae v38 (ae v37 (ae v36 (ae v35 (ae v34 (ae v33 (ae v32 (ae v31 (ae v30 (ae v29 (ae v28 (ae v27 (ae v26 (ae v25 (ae v24 (ae v23 (ae v22 (ae v21 bh)))))))))))))))))))))))))))))))))) ?_;dsimp only [cP];clear hJ;refine gT ?_;refine tR rfl rfl Kz ?_;refine gT ?_
          (first | refine e7 ?_ | refine eX ?_)
          refine eX ?_;refine aa ?_;rw [hge];refine cF (ak (aP (ai (aq ?_))));refine bB (mI (aE (ai ?_)));replace hh := hh.sub (List.Sublist.cons _ (List.Sublist.cons_cons _ List.Sublist.slnil));refine ⟨⟨i + 1, Ky, rfl, hall2, ?_, hh⟩, by show n - (i + 1) < n - i; omega, ?_⟩
          ·rw [hq, aH hp] at hris;rw [aH hx, hq, aH hp, List.append_assoc];show q5 (ts.take q ++ [p, x]) = true;rw [s7, hris, hlp]
           rfl
          ·exact KB
       ·rw [hbad (uR hx (by unfold mJ vl; rw [hm, decide_eq_false hz, Bool.eq_false_iff.2 (fun h => hnf ((qm x.c).1 h))]; rfl))];refine sr ?_;refine aK (aa (ah (cT (ak (ai (ah (aj (sr (mI ?_)))))))));refine aD (k := i) aQ.out aF.size rfl rfl Ky Ky Kz ?_;refine bJ (vs := [_, _, _, _]) aF.out rfl ((hr.ext hh.below).recAt TR.len hx) rfl Kz ?_;refine cB hh ?_;intro b4 w4 hh;refine aI ?_;refine bK hh 0 [_,_,_,_] ?_;intro ws hh;replace hh : Hp _ (.blk _ _ [_, _, _, _] _ :: _) _ := hh;refine aa (ah ?_)
        refine gk [] [] [0, 1, 0, 4, 15, 31, 63, 127, 255, 511, 1023, 2047, 4095, 8191, 16383, 32767, 8191, 73727, 262143, 524287, 1048575, 2097151, 4194303, 8388607, 16777215, 33554431, 16777215, 83886079, 268435455, 536870911, 1073741823, 16777215, 2164260863, 8589934591, 17179869183, 34359738367] 33 [[(4, none)], [(21, some 0)], [(1, none)], [(23, some 2)], [(22, some 1), (24, some 3)], [(25, some 4)], [(26, some 5)], [(4, none), (27, some 6)], [(28, some 7), (27, some 6)], [(29, some 8), (27, some 6)], [(30, some 9), (27, some 6)], [(27, some 6), (31, some 10)], [(32, some 11)], [(4, none), (33, some 12)], [(34, some 13), (33, some 12)], [(35, some 14), (33, some 12)], [(4, none), (33, some 12)], [(37, some 16), (33, some 12)], [(36, some 15), (38, some 17), (33, some 12)], [(33, some 12), (39, some 18)], [(40, some 19)], [(3, none), (41, some 20)], [(42, some 21), (41, some 20)], [(43, some 22), (41, some 20)], [(1, none), (44, some 23)], [(45, some 24), (44, some 23)], [(3, none), (44, some 23)], [(47, some 26), (44, some 23)], [(46, some 25), (48, some 27), (44, some 23)], [(49, some 28), (44, some 23)], [(50, some 29), (44, some 23)], [(4, none), (44, some 23)], [(52, some 31), (44, some 23)]] [(32, 53), (31, 52), (30, 51), (29, 50), (28, 49), (27, 48), (26, 47), (25, 46), (24, 45), (23, 44), (22, 43), (21, 42), (20, 41), (19, 40), (18, 39), (17, 38), (16, 37), (15, 36), (14, 35), (13, 34), (12, 33), (11, 32), (10, 31), (9, 30), (8, 29), (7, 28), (6, 27), (5, 26), (4, 25), (3, 24), (2, 23), (1, 22), (0, 21)] hh mixed KA ie rfl (by repeat (first | exact cZ | refine cG ?_ | refine cY ?_)) ?_
        refine eA ?_;refine fQ 0 ?_;refine eA ?_;refine fQ 1 ?_;refine dC (fun _ hj => hmay _) ?_;refine BJ ?_;refine sl ?_;refine dG (eA ?_);refine dG (gY 0 [_,_,_] ?_);refine ew (i := 9) rfl (fun ρ1 w1 hj hR => (show ρ1 27 = Value.bool _ from hR.2.1)) (fun ρ1 w1 hj hR => bX aw.out (a7 (show ρ1 29 = Value.agg (List.toArray _) from hR.1) bQ)) (fun w1 hj => hsg _) ?_;refine dG (Bp ?_);refine E0 ?_;refine sl ?_;refine dG (eA ?_);refine dG (gY 0 [_,_,_] ?_);refine ew (i := 15) rfl (fun ρ1 w1 hj hR => (show ρ1 33 = Value.bool _ from hR.2.1)) (fun ρ1 w1 hj hR => bX aw.out (a7 (show ρ1 35 = Value.agg (List.toArray _) from hR.1) bQ)) (fun w1 hj => hfo _ (hT.hp hj.hp)) ?_;refine dG (eA ?_);refine dG (gY 0 [_,_,_] ?_);refine p8 (i := 18) rfl (fun ρ1 w1 hj hR => (show ρ1 33 = Value.bool _ from hR.2.2.1)) (fun ρ1 w1 hj hR => zX (show ρ1 36 = Value.agg (List.toArray _) from hR.1) (show ρ1 38 = Value.agg (List.toArray _) from hR.2.1) (by assumption)) ?_;refine E0 ?_;refine sl ?_;refine dS (dS (dS (dU (dU (dU (dU ?_))))));refine nP (i := 28) rfl (fun ρ1 w1 hj hR => (show ρ1 44 = undef from hR.2.2.1)) ?_;refine dU (dU (dU (dU ?_)));refine bA ?_;intro f W hJ hV _;have hb_8 := hJ.bl
        obtain ⟨v53, v52, v51, v50, v49, v48, v47, v46, v45, v44, v43, v42, v41, v40, v39, v38, v37, v36, v35, v34, v33, v32, v31, v30, v29, v28, v27, v26, v25, v24, v23, v22, v21, _⟩ := hV;replace hh := hJ.hp;refine bj (bC (ae v53 (ae v52 (ae v51 (ae v50 (ae v49 (ae v48 (ae v47 (ae v46 (ae v45 (ae v44 (ae v43 (ae v42 (ae v41 (ae v40 (ae v39 (ae v38 (ae v37 (ae v36 (ae v35 (ae v34 (ae v33 (ae v32 (ae v31 (ae v30 (ae v29 (ae v28 (ae v27 (ae v26 (ae v25 (ae v24 (ae v23 (ae v22 (ae v21 bh)))))))))))))))))))))))))))))))))) ?_;dsimp only [cP];clear hJ;refine gV (gS ?_);refine e7 ?_;refine aa (cT (sr (aI (aa (ao (bD (aG (aG (bD (aG ?_))))))))));refine cq ?_;exact ⟨rfl, hh.below⟩
    ·rw [List.take_of_length_le Ky] at hall hris;rw [show jl v ts = 0 by unfold jl okB; rw [if_neg (by rw [hf]; decide), if_neg Ky, hall, hris]; rfl];refine sr ?_;refine aK (aa (ah (cF (aJ (az (az (aX (ai (sr (aI (aa (ao ?_))))))))))));refine cq ?_;exact ⟨rfl, hh.below⟩
end Go.Proofs.YtaapkaefelhfcaaGreatDoor
/- The walks through poly.Make. -/
namespace Go.Proofs.YtaapkaefelhfcaaGreatDoor
open Go.RowKit
def gH (v : Int) (t : TR) : Bool := e8 t.m.data.toList && decide ((t.m.size : Int) = v)
theorem xl (z : TR) (v : Int) (b : Nat) (w : World) (hp : w.cell? ⟨b, 0, none⟩ = some (.int .i64 v)) (hz : z.m.size ≤ 100000) : Calls Tryz.prog 188 #[.agg #[.string z.m, .bool z.c.neg, .string z.c.cA, .int .i64 z.c.e], .pointer (some ⟨b, 0, none⟩)] w fun r w' => r = .returned (.bool (!gH v z)) ∧ Below w.heap.size w w' := by
 have hh := Hp.start w;have hmay := fun w1 => ky z.m v w1 Ky;unfold gH;refine al (N := 9) (l := [.agg #[.string z.m, .bool z.c.neg, .string z.c.cA, .int .i64 z.c.e], .pointer (some ⟨b, 0, none⟩)]) Tryz.func188 rfl rfl (by simp) ?_;refine sr ?_;refine db hh [_,_,_,_] ?_;intro b2 w2 hh;refine aB (aa (sr (bP ?_)));refine bR hh 0 ?_;refine aZ aF.out rfl (cO hh.below hp) Kz ?_;refine bE hh (hmay _) rfl ?_;intro w7 hh
 cases e8 z.m.data.toList && decide ((z.m.size : Int) = v) with
 | false =>
  refine g9 ?_;refine aB (aa (ao ?_));refine cq ?_;exact ⟨rfl, hh.below⟩
 | true =>
  refine g9 ?_;refine aB (aa (ao ?_));refine cq ?_;exact ⟨rfl, hh.below⟩
theorem sD (A : Option Addr) (n c : Nat) (l : List TR) (v : Int) (b : Nat) (w : World) (hS : Sl w A n 4 (aY TR.cells l)) (hn : n ≤ 1000000) (hp : w.cell? ⟨b, 0, none⟩ = some (.int .i64 v)) (hz : ∀ t ∈ l, t.m.size ≤ 100000) :
  Calls Tryz.prog 187 #[.slice A n c, .func (.func 188) #[] #[.pointer (some ⟨b, 0, none⟩)]] w fun r w' => r = .returned (.bool (l.any fun t => !gH v t)) ∧ Below w.heap.size w w' :=
 yG A n c l 188 [.pointer (some ⟨b, 0, none⟩)] (fun t => !gH v t) w hS hn fun z w1 hz2 hb => xl z v b w1 (cO hb hp) (hz z hz2)
def pU (v : Int) (l : List TR) : Int := if iB v = false ∨ (l.any fun t => !gH v t) = true then 1 else if 65536 < l.length then 3 else gP l
theorem pC (v : Int) (A : Option Addr) (n c : Nat) (l : List TR) (k : Nat) (w : World) (hT : eP w) (hS : Sl w A n 4 (aY TR.cells l)) (hn : n ≤ 1000000) (hk : k ≤ 2999980) (ho : jq k l) (hz : ∀ t ∈ l, t.m.size ≤ 100000) :
  Calls Tryz.prog 91 #[.int .i64 v, .slice A n c] w fun r w' => ∃ g : PX, eD (pU v l) v (a6 l) g ∧ r = .returned (.tuple #[.agg #[.int .i64 g.v, .slice g.A g.n g.c], .int .i64 (pU v l)]) ∧ Hp w [g.row] w' := by
 have hh := Hp.start w;have hln := hS.bM TR.len Kz;have hfw := fun w1 => md v w1;have han := fun b w1 hb hp => sD A n c l v b w1 (hS.ext hb) hn hp hz
 cases hf : iB v with
 | false =>
  rw [hf] at hfw;rw [show pU v l = 1 by unfold pU; rw [if_pos (.inl hf)]];refine al (N := 25) (l := [.int .i64 v, .slice A n c]) Tryz.func91 rfl rfl (by simp) ?_;refine sr ?_;refine db hh [_] ?_;intro b2 w2 hh;refine cB hh ?_;intro b4 w4 hh;refine aI (aa (ah (sr ?_)));refine bR hh 1 ?_;refine bE hh (hfw _) rfl ?_;intro w7 hh;refine g9 ?_;refine mB ?_;refine gS (gS ?_);refine cn Kz rfl rfl Kz ?_;refine e7 ?_;refine aa (cT (sr ?_));refine e9 [_,_] ?_;refine bK hh 0 [_,_] ?_;intro ws hh;replace hh : Hp _ (.blk _ _ [_, _] _ :: _) _ := hh;refine aI (aa (ao (aG ?_)));refine jG (aT rfl (aU (vs := [_, _]) aF.out (hh.aC (i := 0) (n := 2) rfl rfl) rfl) (cw (cM rfl) bq)) ?_;exact ⟨PX.nil, eD.err Kz, rfl, (hh.sub (List.nil_sublist _)).kj⟩
 | true =>
  rw [hf] at hfw
  cases ha : l.any fun t => !gH v t with
  | true =>
   rw [ha] at han;rw [show pU v l = 1 by unfold pU; rw [if_pos (.inr ha)]];refine al (N := 25) (l := [.int .i64 v, .slice A n c]) Tryz.func91 rfl rfl (by simp) ?_;refine sr ?_;refine db hh [_] ?_;intro b2 w2 hh;refine cB hh ?_;intro b4 w4 hh;refine aI (aa (ah (sr ?_)));refine bR hh 1 ?_;refine bE hh (hfw _) rfl ?_;intro w7 hh;refine g9 ?_;refine mB (gT (mL (gT ?_)));refine fW rfl (a7 (lJ rfl) bQ) Kz ?_;refine aV rfl rfl ?_;refine bE hh (han _ _ hh.below (hh.ja (i := 1) (o := 0) rfl rfl)) rfl ?_;intro w12 hh;refine eX ?_;refine aa (cT (sr ?_));refine e9 [_,_] ?_;refine bK hh 0 [_,_] ?_;intro ws hh;replace hh : Hp _ (.blk _ _ [_, _] _ :: _) _ := hh;refine aI (aa (ao (aG ?_)));refine jG (aT rfl (aU (vs := [_, _]) aF.out (hh.aC (i := 0) (n := 2) rfl rfl) rfl) (cw (cM rfl) bq)) ?_;exact ⟨PX.nil, eD.err Kz, rfl, (hh.sub (List.nil_sublist _)).kj⟩
  | false =>
   rw [ha] at han;have e1 : pU v l = if 65536 < l.length then 3 else gP l := by unfold pU; rw [if_neg (by rw [hf, ha]; decide)]
   by_cases h6 : 65536 < n
   ·rw [e1, if_pos Ky];refine al (N := 25) (l := [.int .i64 v, .slice A n c]) Tryz.func91 rfl rfl (by simp) ?_;refine sr ?_;refine db hh [_] ?_;intro b2 w2 hh;refine cB hh ?_;intro b4 w4 hh;refine aI (aa (ah (sr ?_)));refine bR hh 1 ?_;refine bE hh (hfw _) rfl ?_;intro w7 hh;refine g9 ?_;refine mB (gT (mL (gT ?_)));refine fW rfl (a7 (lJ rfl) bQ) Kz ?_;refine aV rfl rfl ?_;refine bE hh (han _ _ hh.below (hh.ja (i := 1) (o := 0) rfl rfl)) rfl ?_;intro w12 hh;refine eX ?_;refine aa (cF (ak (ai (ah (sr (mL (aW ?_)))))));refine ct (aa (cT (sr ?_)));refine e9 [_,_] ?_;refine bK hh 0 [_,_] ?_;intro ws hh;replace hh : Hp _ (.blk _ _ [_, _] _ :: _) _ := hh;refine aI (aa (ao (aG ?_)));refine jG (aT rfl (aU (vs := [_, _]) aF.out (hh.aC (i := 0) (n := 2) rfl rfl) rfl) (cw (cM rfl) bq)) ?_;exact ⟨PX.nil, eD.err Kz, rfl, (hh.sub (List.nil_sublist _)).kj⟩
   ·rw [e1, if_neg Ky];refine al (N := 25) (l := [.int .i64 v, .slice A n c]) Tryz.func91 rfl rfl (by simp) ?_;refine sr ?_;refine db hh [_] ?_;intro b2 w2 hh;refine cB hh ?_;intro b4 w4 hh;refine aI (aa (ah (sr ?_)));refine bR hh 1 ?_;refine bE hh (hfw _) rfl ?_;intro w7 hh;refine g9 ?_;refine mB (gT (mL (gT ?_)));refine fW rfl (a7 (lJ rfl) bQ) Kz ?_;refine aV rfl rfl ?_;refine bE hh (han _ _ hh.below (hh.ja (i := 1) (o := 0) rfl rfl)) rfl ?_;intro w12 hh;refine eX ?_;refine aa (cF (ak (ai (ah (sr (mL (aW ?_)))))));refine ct (aa (cF (ak (ai (ah ?_)))));refine o0 [] [0, 0, 2, 7, 15, 15, 63, 127] 3 [[(2, none)], [(1, none)], [(20, some 1)]] [(2, 21), (1, 20), (0, 19)] [([], 4, [(2, 21), (1, 20), (0, 19)])] hh mixed KA KA Kz ?_;refine fQ 1 ?_;refine jt ?_;refine cH (i := 2) (Bf hh.sz 55 n 4 (aY TR.cells l)) (Bf.ext) ?_ ?_
    ·intro ρ1 w1 hj hR;exact du rfl (bX aw.out (a7 (show ρ1 20 = Value.slice _ _ _ from hR.1) bQ)) (kF A n c l w1 (hS.ext hj.hp.below) hn) (fun _ _ ⟨A, c, hq, ho, hb⟩ => ⟨_, hq, hb, A, c, rfl, rn ho hj.bl.size⟩)
    refine bA ?_;intro p_ hp_;simp only [List.mem_cons, List.not_mem_nil, or_false] at hp_
    rcases hp_ with rfl
    intro f W hJ hV;have hb_5 := hJ.bl;obtain ⟨v21, v20, v19, _⟩ := hV;simp only [lS];have e19 : f 0 = _ := v19;rw [e19];have e20 : f 1 = _ := v20;rw [e20];obtain ⟨A21, c21, e21, o21⟩ : Bf _ _ _ _ _ (f 2) W := v21;rw [e21];replace hh := JJ.HG hh hJ.hp o21;clear o21;clear e19 e20 e21 hJ;refine aN (jX v A21 n c21 l k _ hT hh hln Ky Ky ho) aw.out rfl Kz ?_; rintro e_ w22 ⟨g, og, rfl, hh⟩; refine ⟨_, rfl, ?_⟩;refine dt ?_;refine dn (i := 4) (by repeat (first | exact cZ | refine cG ?_ | refine cY ?_ | refine np_scope ?_)) rfl KA KA KA (fun _ => eL (show _ = Value.tuple (List.toArray _) from rfl) rfl) Kz ?_;refine dn (i := 5) (by repeat (first | exact cZ | refine cG ?_ | refine cY ?_ | refine np_scope ?_)) rfl KA KA KA (fun _ => eL (show _ = Value.tuple (List.toArray _) from rfl) rfl) Kz ?_;refine eW 6 Kz KA Kz KA KA ?_;refine bK hh 1 [_,_] ?_;intro ws hh;replace hh : Hp _ (_ :: .blk _ _ [_, _] _ :: _) _ := hh;refine aI (aa (ao ?_));refine jG (aT rfl (aU (vs := [_, _]) aF.out (hh.aC (i := 1) (n := 2) rfl rfl) rfl) (cw (cM rfl) bq)) ?_;exact ⟨g, og, rfl, hh.sub (List.Sublist.cons_cons _ (List.nil_sublist _))⟩
end Go.Proofs.YtaapkaefelhfcaaGreatDoor
/- The walk through poly.like. -/
namespace Go.Proofs.YtaapkaefelhfcaaGreatDoor
open Go.RowKit
def PX.cells (g : PX) : List Value := [.int .i64 g.v, .slice g.A g.n g.c]
theorem PX.len (g : PX) : (PX.cells g).length = 2 := rfl
structure PX.iu (g : PX) (k : Nat) : Prop where
 n : g.n ≤ 1000000
 cap : g.n ≤ g.c
 ok : jq k g.ts
 sz : ∀ t ∈ g.ts, t.m.size ≤ 100000
def PX.e (g : PX) : Int := jl g.v g.ts
theorem l0 (g : PX) (k : Nat) (w : World) (hT : eP w) (h : g.at_ w) (hl : g.iu k) :
  Calls Tryz.prog 85 #[.agg #[.int .i64 g.v, .slice g.A g.n g.c]] w fun r w' => r = .returned (.int .i64 g.e) ∧ Below w.heap.size w w' :=
 u7 g.v g.A g.n g.c g.ts w hT h hl.n fun t ht => ⟨(hl.ok t ht).1, hl.sz t ht⟩
def uL (ps : List PX) : Bool := ps.any fun g => decide (g.v ≠ (ps.map PX.v).headD 0)
def gl (ps : List PX) : Int := match ps.find? (fun g => decide (g.e ≠ 0)) with | some g => g.e | none => if ps.length = 0 ∨ uL ps = true then 1 else 0
theorem xY (L : Option Addr) (n c : Nat) (ps : List PX) (f : PX) (p : Addr) (w : World) (hL : Sl w L n 2 (aY PX.cells ps)) (hp : w.cell? p = some (.slice L n c)) (hn : 0 < n) :
  Calls Tryz.prog 194 #[.agg #[.int .i64 f.v, .slice f.A f.n f.c], .pointer (some p)] w fun r w' => r = .returned (.bool (decide (f.v ≠ (ps.map PX.v).headD 0))) ∧ Below w.heap.size w w' := by
 have hh := Hp.start w;have hln := hL.bM PX.len Kz;obtain ⟨g, ps, rfl⟩ : ∃ g l, ps = g :: l := by
  cases ps with
  | nil => exact absurd hln (by show ¬ 0 = n; omega)
  | cons g l => exact ⟨g, l, rfl⟩
 obtain ⟨ad, rfl, hr⟩ := hL.at_ hn;have hd : (((g :: ps).map PX.v).headD 0) = g.v := rfl;rw [hd];have h0 : (g :: ps)[0]? = some g := rfl;by_cases hg : f.v = g.v
 ·refine al (N := 11) (l := [.agg #[.int .i64 f.v, .slice f.A f.n f.c], .pointer (some p)]) Tryz.func194 rfl rfl (by simp) ?_;refine sr ?_;refine db hh [_,_] ?_;intro b2 w2 hh;refine aB (aa (ah ?_));refine a8 6 [[(2, none)], [(4, some 0)], [(1, none)], [(6, some 2)], [(7, some 3)], [(8, some 4)]] [(5, 9), (4, 8), (3, 7), (2, 6), (1, 5), (0, 4)] hh mixed KA ?_;refine eA ?_;refine fQ 0 ?_;refine nV (fun _ hj => (hj.hp.below.cell (kN hp)).trans hp) ?_;refine bF (i := 3) (fun ρ1 w1 hj hR => dJ aQ.out aF.size (show ρ1 6 = Value.slice _ _ _ from hR.1) rfl Ky Ky) ?_;refine GJ ?_;refine nV (fun _ hj => cO hj.hp.below (((hr.recAt PX.len h0)) 0 _ rfl)) ?_;refine bA ?_;intro f W hJ hV;have hb_1 := hJ.bl;obtain ⟨v9, v8, v7, v6, v5, v4, _⟩ := hV;replace hh := hJ.hp;refine bj (bC (ae v9 (ae v8 (ae v7 (ae v6 (ae v5 (ae v4 bh))))))) ?_;dsimp only [cP];clear hJ;refine cL (aB (aa (ao ?_)));refine cq ?_;exact ⟨by rw [decide_eq_false Ky], hh.below⟩
 ·refine al (N := 11) (l := [.agg #[.int .i64 f.v, .slice f.A f.n f.c], .pointer (some p)]) Tryz.func194 rfl rfl (by simp) ?_;refine sr ?_;refine db hh [_,_] ?_;intro b2 w2 hh;refine aB (aa (ah ?_));refine a8 6 [[(2, none)], [(4, some 0)], [(1, none)], [(6, some 2)], [(7, some 3)], [(8, some 4)]] [(5, 9), (4, 8), (3, 7), (2, 6), (1, 5), (0, 4)] hh mixed KA ?_;refine eA ?_;refine fQ 0 ?_;refine nV (fun _ hj => (hj.hp.below.cell (kN hp)).trans hp) ?_;refine bF (i := 3) (fun ρ1 w1 hj hR => dJ aQ.out aF.size (show ρ1 6 = Value.slice _ _ _ from hR.1) rfl Ky Ky) ?_;refine GJ ?_;refine nV (fun _ hj => cO hj.hp.below (((hr.recAt PX.len h0)) 0 _ rfl)) ?_;refine bA ?_;intro f W hJ hV;have hb_1 := hJ.bl;obtain ⟨v9, v8, v7, v6, v5, v4, _⟩ := hV;replace hh := hJ.hp;refine bj (bC (ae v9 (ae v8 (ae v7 (ae v6 (ae v5 (ae v4 bh))))))) ?_;dsimp only [cP];clear hJ;refine cL (aB (aa (ao ?_)));refine cq ?_;exact ⟨by rw [decide_eq_true hg], hh.below⟩
theorem zl (A : Option Addr) (n c : Nat) (l : List PX) (g : FuncId) (cap : List Value) (p : PX → Bool) (w : World) (hS : Sl w A n 2 (aY PX.cells l)) (hn : n ≤ 1000000) [aw Tryz.prog g]
  (hg : ∀ (z : PX) (w1 : World), z ∈ l → Below w.heap.size w w1 → Calls Tryz.prog g (.agg #[.int .i64 z.v, .slice z.A z.n z.c] :: cap).toArray w1 fun r w' => r = .returned (.bool (p z)) ∧ Below w1.heap.size w1 w') :
  Calls Tryz.prog 191 #[.slice A n c, .func (.func g) #[] cap.toArray] w fun r w' => ∃ v, r = .returned (.int .i64 v) ∧ (0 ≤ v ↔ l.any p = true) ∧ Below w.heap.size w w' := by
 have hh := Hp.start w;have hln := hS.bM PX.len Kz;refine al (N := 19) (l := [.slice A n c, .func (.func g) #[] cap.toArray]) Tryz.func191 rfl rfl (by simp) ?_;refine sr (aI (aa (ah (sr (mL (aW (mI (aa (aj ?_)))))))));refine bm [4, 5, 8, 9, 10, 11, 12, 13, 14, 15, 16, 17, 18] 8
  (fun v w' => ∃ i : Nat, i ≤ n ∧ v = .int .i64 i ∧ (l.take i).any p = false ∧ Hp w [] w')
  (fun v _ => n - (intOf v).toNat) ?_ ?_
 ·exact ⟨0, Nat.zero_le _, rfl, rfl, hh⟩
 ·clear hh;rintro ρ' v w' ⟨i, hi, rfl, hall, hh⟩;by_cases hlt : i < n
  ·obtain ⟨z, hz⟩ := ay (l := l) (k := i) Ky;obtain ⟨ad, rfl, hr⟩ := hS.at_ Ky;have hc := fun w1 => hg z w1 (List.mem_of_getElem? hz)
   cases gz : p z with
   | true =>
    rw [gz] at hc;refine sr ?_;refine aK (aa (ah (cT (ak (ai (ah (aj (sr (mI (aI (aa (sr ?_))))))))))));refine eh (by first | exact eg rfl | exact ev_nilf rfl) Kz ?_;refine mL (mI ?_);refine aD (k := i) aQ.out aF.size rfl rfl Ky Ky Kz ?_;refine bJ (vs := [_, _]) aF.out rfl ((hr.ext hh.below).recAt PX.len hz) rfl Kz ?_;refine eb (hc _ hh.below) aw.out rfl rfl Kz ?_;rintro e_ w16 ⟨rfl, hb_⟩;refine ⟨_, rfl, ?_⟩;replace hh := hh.ext hb_;refine aa (cT (sr (mI (aI (aa (ao (bD (aG (aG (bD (aG ?_)))))))))));refine cq ?_;exact ⟨_, rfl, ⟨fun _ => List.any_eq_true.2 ⟨z, List.mem_of_getElem? hz, gz⟩, fun _ => by omega⟩, hh.below⟩
   | false =>
    rw [gz] at hc;refine sr ?_;refine aK (aa (ah (cT (ak (ai (ah (aj (sr (mI (aI (aa (sr ?_))))))))))));refine eh (by first | exact eg rfl | exact ev_nilf rfl) Kz ?_;refine mL (mI ?_);refine aD (k := i) aQ.out aF.size rfl rfl Ky Ky Kz ?_;refine bJ (vs := [_, _]) aF.out rfl ((hr.ext hh.below).recAt PX.len hz) rfl Kz ?_;refine eb (hc _ hh.below) aw.out rfl rfl Kz ?_;rintro e_ w16 ⟨rfl, hb_⟩;refine ⟨_, rfl, ?_⟩;replace hh := hh.ext hb_;refine aa (cF (ak (aP (ai (aq ?_)))));refine bB (mI (aE (ai ?_)));refine ⟨⟨i + 1, Ky, rfl, by rw [aH hz, List.any_append, hall, List.any_cons, List.any_nil, gz]; rfl, hh⟩, by show n - (i + 1) < n - i; omega, ?_⟩;exact KB
  ·rw [List.take_of_length_le Ky] at hall;refine sr ?_;refine aK (aa (ah (cF (aJ (az (az (aX (ai (sr (aI (aa (ao ?_))))))))))));refine cq ?_;exact ⟨_, rfl, ⟨fun h => absurd h Kz, fun h => by rw [hall] at h; cases h⟩, hh.below⟩
theorem qT (A : Option Addr) (n c : Nat) (l : List PX) (g : FuncId) (cap : List Value) (p : PX → Bool) (w : World) (hS : Sl w A n 2 (aY PX.cells l)) (hn : n ≤ 1000000) [aw Tryz.prog g]
  (hg : ∀ (z : PX) (w1 : World), z ∈ l → Below w.heap.size w w1 → Calls Tryz.prog g (.agg #[.int .i64 z.v, .slice z.A z.n z.c] :: cap).toArray w1 fun r w' => r = .returned (.bool (p z)) ∧ Below w1.heap.size w1 w') :
  Calls Tryz.prog 97 #[.slice A n c, .func (.func g) #[] cap.toArray] w fun r w' => r = .returned (.bool (l.any p)) ∧ Below w.heap.size w w' := by
 have hh := Hp.start w;refine al (N := 9) (l := [.slice A n c, .func (.func g) #[] cap.toArray]) Tryz.func97 rfl rfl (by simp) ?_;refine sr (aB (aa (sr (mL ?_))));refine eh (by first | exact eg rfl | exact ev_nilf rfl) Kz ?_;refine aN (zl A n c l g cap p _ (hS.ext hh.below) hn hg) aw.out rfl Kz ?_;rintro e_ w7 ⟨v_, rfl, hv_, hb_⟩;refine ⟨_, rfl, ?_⟩;replace hh := hh.ext hb_
 cases ga : l.any p with
 | true =>
  have h0 := hv_.2 ga;refine dv (aB (aa (ao ?_)));refine cq ?_;exact ⟨rfl, hh.below⟩
 | false =>
  have h0 : ¬ 0 ≤ v_ := fun h => by rw [hv_.1 h] at ga; cases ga
  refine dv (aB (aa (ao ?_)));refine cq ?_;exact ⟨rfl, hh.below⟩
theorem px (L : Option Addr) (n c : Nat) (ps : List PX) (k : Nat) (w : World) (hT : eP w) (hL : Sl w L n 2 (aY PX.cells ps)) (hn : n ≤ 1000000) (hf : ∀ g ∈ ps, g.at_ w) (hl : ∀ g ∈ ps, g.iu k) :
  Calls Tryz.prog 102 #[.slice L n c] w fun r w' => r = .returned (.int .i64 (gl ps)) ∧ Below w.heap.size w w' := by
 have hh := Hp.start w;have hln := hL.bM PX.len Kz;refine al (N := 26) (l := [.slice L n c]) Tryz.func102 rfl rfl (by simp) ?_;refine sr ?_;refine db hh [_] ?_;intro b1 w1 hh;refine aI (aa (ah (sr ?_)));refine bR hh 0 ?_;refine aW (mI (aa (aj ?_)));refine bm [2, 4, 5, 8, 9, 10, 11, 12, 13, 14, 15, 16, 17] 8
  (fun v w' => ∃ i : Nat, i ≤ n ∧ v = .int .i64 i ∧ (ps.take i).any (fun g => decide (g.e ≠ 0)) = false ∧ Hp w [.blk b1 44 [.slice L n c] (0, 0)] w')
  (fun v _ => n - (intOf v).toNat) ?_ ?_
 ·exact ⟨0, Nat.zero_le _, rfl, rfl, hh⟩
 ·clear hh;rintro ρ' v w' ⟨i, hi, rfl, hall, hh⟩;by_cases hlt : i < n
  ·obtain ⟨g, hx⟩ := ay (l := ps) (k := i) Ky;have hmem := List.mem_of_getElem? hx;have hc := fun w1 hT1 hb => l0 g k w1 hT1 ((hf g hmem).ext hb) (hl g hmem);obtain ⟨ad, rfl, hr⟩ := hL.at_ Ky;by_cases he : g.e = 0
   ·refine sr ?_;refine aK (aa (ah (cT (ak (ai (ah (aj (sr ?_))))))));refine aD (k := i) aQ.out aF.size rfl rfl Ky Ky Kz ?_;refine bJ (vs := [_, _]) aF.out rfl ((hr.ext hh.below).recAt PX.len hx) rfl Kz ?_;refine cB hh ?_;intro b4 w4 hh;refine bK hh 0 [_,_] ?_;intro ws hh;replace hh : Hp _ (.blk _ _ [_, _] _ :: _) _ := hh;refine aa (sr ?_);refine cR hh 0 [_,_] ?_;refine bE hh (hc _ (hT.hp hh) hh.below) rfl ?_;intro w13 hh;refine aI (aa (sr (mI ?_)));refine cL (aa (cF (ak (aP (ai (aq ?_))))));refine bB (mI (aE (ai ?_)));replace hh := hh.sub (List.Sublist.cons _ (List.Sublist.cons_cons _ List.Sublist.slnil));refine ⟨⟨i + 1, Ky, rfl, by rw [aH hx, List.any_append, hall, List.any_cons, List.any_nil, decide_eq_false Ky]; rfl, hh⟩, by show n - (i + 1) < n - i; omega, ?_⟩;exact KB
   ·refine sr ?_;refine aK (aa (ah (cT (ak (ai (ah (aj (sr ?_))))))));refine aD (k := i) aQ.out aF.size rfl rfl Ky Ky Kz ?_;refine bJ (vs := [_, _]) aF.out rfl ((hr.ext hh.below).recAt PX.len hx) rfl Kz ?_;refine cB hh ?_;intro b4 w4 hh;refine bK hh 0 [_,_] ?_;intro ws hh;replace hh : Hp _ (.blk _ _ [_, _] _ :: _) _ := hh;refine aa (sr ?_);refine cR hh 0 [_,_] ?_;refine bE hh (hc _ (hT.hp hh) hh.below) rfl ?_;intro w13 hh;refine aI (aa (sr (mI ?_)));refine cL (aa (cT (sr (mI (aI (aa (ao (bD (aG (aG (bD (aG ?_))))))))))));refine cq ?_;refine ⟨?_, hh.below⟩;unfold gl;rw [o6 hall hx (decide_eq_true he)]
  ·rw [List.take_of_length_le Ky] at hall;have hlk : gl ps = if ps.length = 0 ∨ uL ps = true then 1 else 0 := by unfold gl; rw [iF hall]
   rw [hlk];by_cases h0 : n = 0
   ·refine sr ?_;refine aK (aa (ah (cF (aJ (az (az (aX (ai (ah (sr ?_))))))))));refine bR hh 0 ?_;refine aW ?_;refine dh (mB ?_);refine gS (gS ?_);refine cn Kz rfl rfl Kz ?_;refine e7 ?_;refine aa (cT (sr (aI (aa (ao (aG ?_))))));refine cq ?_;exact ⟨by rw [if_pos (.inl Ky)], hh.below⟩
   ·have hcell : w'.cell? ⟨b1, 0, none⟩ = some (.slice L n c) := hh.ja (i := 0) rfl rfl;have ho := fun w1 hb => qT L n c ps 194 [.pointer (some ⟨b1, 0, none⟩)] (fun g => decide (g.v ≠ (ps.map PX.v).headD 0)) w1 (hL.ext (hh.below.trans (hb.mono hh.below.size))) hn (fun z w2 hz hb2 => xY L n c ps z ⟨b1, 0, none⟩ w2 ((hL.ext (hh.below.trans (hb.mono hh.below.size))).ext hb2) (cO hb2 (cO hb hcell)) Ky)
    cases hod : uL ps with
    | true =>
     have hod2 : ps.any (fun g => decide (g.v ≠ (ps.map PX.v).headD 0)) = true := hod;rw [hod2] at ho;refine sr ?_;refine aK (aa (ah (cF (aJ (az (az (aX (ai (ah (sr ?_))))))))));refine bR hh 0 ?_;refine aW ?_;refine dh (mB (gT ?_));refine bR hh 0 ?_;refine gT ?_;refine fW rfl (a7 (lJ rfl) bQ) Kz ?_;refine aV rfl rfl ?_;refine bE hh (ho _ (Below.refl _ _)) rfl ?_;intro w24 hh;refine eX ?_;refine aa (cT (sr (aI (aa (ao (aG ?_))))));refine cq ?_;exact ⟨by rw [if_pos (.inr rfl)], hh.below⟩
    | false =>
     have hod2 : ps.any (fun g => decide (g.v ≠ (ps.map PX.v).headD 0)) = false := hod;rw [hod2] at ho;refine sr ?_;refine aK (aa (ah (cF (aJ (az (az (aX (ai (ah (sr ?_))))))))));refine bR hh 0 ?_;refine aW ?_;refine dh (mB (gT ?_));refine bR hh 0 ?_;refine gT ?_;refine fW rfl (a7 (lJ rfl) bQ) Kz ?_;refine aV rfl rfl ?_;refine bE hh (ho _ (Below.refl _ _)) rfl ?_;intro w24 hh;refine eX ?_;refine aa (cF (ak (ai (sr (aI (aa (ao ?_)))))));refine cq ?_;refine ⟨?_, hh.below⟩;rw [if_neg];rintro (h | h)
     ·omega
     ·cases h
end Go.Proofs.YtaapkaefelhfcaaGreatDoor
/- Arguments opened: terms, polynomials. -/
namespace Go.Proofs.YtaapkaefelhfcaaGreatDoor
open Go.ChangeShapes Go.WideShapes Go.ChangeAt Go.RowKit Go.ChangeMaps
set_option maxRecDepth 100000 in
theorem yv {H : Type} {enc : TypeId × Value → H} {W : World} {base fuel : Nat} {sp : Nat → Bool} {held : Bool} {cs : List Value} {x : DataW H × List MemPlace} (h : DataW.trod enc Tryz.prog W base sp held fuel 55 cs = some x) :
  ∃ t : TR, cs = t.cells ∧ True := by
 have c0 : Tryz.prog.cellsOf 55 = 4 := by kernel_rfl
 have c1 : Tryz.prog.cellsOf 9 = 1 := by kernel_rfl
 have c2 : Tryz.prog.cellsOf 29 = 3 := by kernel_rfl
 obtain ⟨y0, y1, n, _, hl, h0, h1⟩ := trod_struct2 Tryz.underlying55 h;obtain ⟨s, e0, _, _⟩ := DataW.trod_string Tryz.underlying9 h0;obtain ⟨a, e1, _⟩ := oJ h1;rw [c0] at hl
 match cs, hl with
 | [x0, x1, x2, x3], _ =>
  simp only [c1, c2] at e0 e1;unfold NR.cells at e1;simp at e0 e1;obtain ⟨e1, e2, e3⟩ := e1;subst e0 e1 e2 e3;exact ⟨⟨s, a⟩, rfl, trivial⟩
set_option maxRecDepth 100000 in
theorem yd {H : Type} {enc : TypeId × Value → H} {W : World} {base fuel : Nat} {sp : Nat → Bool} {held : Bool} {cs : List Value} {x : DataW H × List MemPlace} (h : DataW.trod enc Tryz.prog W base sp held fuel 24 cs = some x) :
  ∃ g : PX, cs = g.cells ∧ (g.at_ W ∧ g.n ≤ g.c) := by
 have c0 : Tryz.prog.cellsOf 24 = 2 := by kernel_rfl
 have c1 : Tryz.prog.cellsOf 3 = 1 := by kernel_rfl
 have c2 : Tryz.prog.cellsOf 22 = 1 := by kernel_rfl
 obtain ⟨y0, y1, n, _, hl, h0, h1⟩ := trod_struct2 Tryz.underlying24 h;obtain ⟨z, e0, _, _⟩ := DataW.trod_int Tryz.underlying3 h0;obtain ⟨B, m, b, k, e1, s1, _⟩ := yo TR.len Kz Tryz.underlying22 KA (fun _ _ _ h => yv h) h1;rw [e1] at h1;have hroom := sU Tryz.underlying22 h1;rw [c0] at hl
 match cs, hl with
 | [x0, x1], _ =>
  simp only [c1, c2] at e0 e1;simp at e0 e1;subst e0 e1;exact ⟨⟨z, B, m, b, k⟩, rfl, s1, hroom⟩
set_option maxRecDepth 100000 in
theorem Ce {H : Type} {enc : TypeId × Value → H} {W : World} {r : Reach} {base b0 : Nat} {sp : Nat → Bool} {held : Bool} {v : Value} {d : DataW H} {ps : List MemPlace}
  (hval : Value.okWide Tryz.prog W r b0 24 v) (hd : DataW.Trod enc Tryz.prog W base sp held 24 v d ps) : ∃ g : PX, v = .agg #[.int .i64 g.v, .slice g.A g.n g.c] ∧ g.at_ W ∧ g.n ≤ g.c := by
 obtain ⟨cs, rfl, _⟩ := okWide_struct Tryz.underlying24 hval;obtain ⟨fuel, hf⟩ := hd;obtain ⟨f, h1, h2⟩ := yd hf;refine ⟨f, ?_, h2⟩;have h3 : cs.toList = f.cells := h1;rw [← Array.toList_inj.1 (show cs.toList = (#[.int .i64 f.v, .slice f.A f.n f.c] : Array Value).toList from h3)]
end Go.Proofs.YtaapkaefelhfcaaGreatDoor
/- The walks through package span: spans as they count, what lies in them, their width and middle. -/
namespace Go.Proofs.YtaapkaefelhfcaaGreatDoor
open Go.RowKit
structure SR where
 lo : NR
 hi : NR
def SR.cells (s : SR) : List Value := [.bool s.lo.neg, .string s.lo.cA, .int .i64 s.lo.e, .bool s.hi.neg, .string s.hi.cA, .int .i64 s.hi.e]
theorem SR.len (s : SR) : (SR.cells s).length = 6 := rfl
def H0 (x y : Dyadic) : Dyadic := if y < x then y else x
def HX (x y : Dyadic) : Dyadic := if x < y then y else x
theorem C4 (x y : Dyadic) : ic (fun x y => decide (x < y)) [x, y] = H0 x y := by simp [ic, H0]
theorem Dp (x y : Dyadic) : ic (fun x y => decide (y < x)) [x, y] = HX x y := by simp [ic, HX]
def SR.L (s : SR) : Dyadic := H0 s.lo.d s.hi.d
def SR.H (s : SR) : Dyadic := HX s.lo.d s.hi.d
def SR.f (s : SR) : SR := ⟨nR s.L, nR s.H⟩
def SR.ok (s : SR) : Prop := s.lo.ok ∧ s.hi.ok
def SR.has (s : SR) (x : Dyadic) : Bool := decide (¬ x < s.L ∧ ¬ s.H < x)
def SR.wid (s : SR) : Dyadic := s.H - s.L
def SR.JK (s : SR) : Dyadic := (s.lo.d + s.hi.d) * II (-1)
theorem HS (x y : Dyadic) : H0 x y = x ∨ H0 x y = y := by unfold H0; split <;> simp
theorem Hm (x y : Dyadic) : HX x y = x ∨ HX x y = y := by unfold HX; split <;> simp
structure Ip (k : Nat) (a : NR) : Prop where
 ok : a.ok
 sz : Sz k a.d
def SR.fin (k : Nat) (s : SR) : Prop := Ip k s.lo ∧ Ip k s.hi
theorem SR.IZ {k : Nat} {s : SR} (h : s.fin k) : Sz k s.L := by
 unfold SR.L
 rcases HS s.lo.d s.hi.d with e | e <;> rw [e]
 ·exact h.1.sz
 ·exact h.2.sz
theorem SR.JI {k : Nat} {s : SR} (h : s.fin k) : Sz k s.H := by
 unfold SR.H
 rcases Hm s.lo.d s.hi.d with e | e <;> rw [e]
 ·exact h.1.sz
 ·exact h.2.sz
theorem yL (L : Option Addr) (n c : Nat) (l : List NR) (w : World) (hT : eP w) (hS : Sl w L n 3 (aY NR.cells l)) (hl : ∀ a ∈ l, a.ok) (hn : n ≤ 1000000) :
  Calls Tryz.prog 262 #[.slice L n c] w fun r w' => r = .returned (.agg (SR.cells ⟨nR (ic (fun x y => decide (x < y)) (l.map NR.d)), nR (ic (fun x y => decide (y < x)) (l.map NR.d))⟩).toArray) ∧ Below w.heap.size w w' := by
 have hh := Hp.start w;refine al (N := 8) (l := [.slice L n c]) Tryz.func262 rfl rfl (by simp) ?_;refine sr ?_;refine cB hh ?_;intro b2 w2 hh;refine aa (sr (mL ?_));refine bE hh (yZ L n c l _ (hT.hp hh) (hS.ext hh.below) hl hn) rfl ?_;intro w4 hh;refine mL ?_;refine bE hh (yM L n c l _ (hT.hp hh) (hS.ext hh.below) hl hn) rfl ?_;intro w6 hh;refine e9 [_,_,_,_,_,_] ?_;refine bK hh 0 [_,_,_,_,_,_] ?_;intro ws hh;replace hh : Hp _ (.blk _ _ [_, _, _, _, _, _] _ :: _) _ := hh;refine aa (ao ?_);refine iZ (aT rfl (aU (vs := [_, _, _, _, _, _]) aF.out (hh.aC (i := 0) (n := 6) rfl rfl) rfl) bq) ?_;exact ⟨rfl, hh.below⟩
theorem y7 (s : SR) (w : World) (hT : eP w) (hs : s.ok) :
  Calls Tryz.prog 230 #[.agg s.cells.toArray] w fun r w' => r = .returned (.agg s.f.cells.toArray) ∧ Below w.heap.size w w' := by
 have hh := Hp.start w;have hc := fun L c w1 hT1 hS1 => yL L 2 c [s.lo, s.hi] w1 hT1 hS1 (by simpa using show s.lo.ok ∧ s.hi.ok from hs) Ky;simp only [List.map_cons, List.map_nil, C4, Dp] at hc;refine al (N := 10) (l := [.agg s.cells.toArray]) Tryz.func230 rfl rfl (by simp) ?_;refine sr ?_;refine db hh [_,_,_,_,_,_] ?_;intro b1 w1 hh;refine cB hh ?_;intro b2 w2 hh;refine aa (sr (bP ?_));refine cR hh 1 [_,_,_] (bP ?_);refine cR hh 1 [_,_,_] ?_;refine aO hh (cs := [_, _, _, _, _, _]) aQ.out aF.out (aR (cJ rfl) (aR (cJ rfl) bI)) rfl rfl Kz Kz Kz rfl Kz ?_;intro b7 w7 hh;refine bE hh (hc _ _ _ (hT.hp hh) (hh.aM (i := 0) rfl)) rfl ?_;intro w8 hh;refine e9 [_,_,_,_,_,_] ?_;refine bK hh 1 [_,_,_,_,_,_] ?_;intro ws hh;replace hh : Hp _ (_ :: .blk _ _ [_, _, _, _, _, _] _ :: _) _ := hh;refine aa (ao ?_);refine iZ (aT rfl (aU (vs := [_, _, _, _, _, _]) aF.out (hh.aC (i := 1) (n := 6) rfl rfl) rfl) bq) ?_;exact ⟨rfl, hh.below⟩
theorem u5 (s : SR) (w : World) (hT : eP w) (hs : s.ok) :
  Calls Tryz.prog 207 #[.agg s.cells.toArray] w fun r w' => r = .returned (.agg s.f.cells.toArray) ∧ Below w.heap.size w w' := by
 have hh := Hp.start w;refine al (N := 6) (l := [.agg s.cells.toArray]) Tryz.func207 rfl rfl (by simp) ?_;refine sr ?_;refine db hh [_,_,_,_,_,_] ?_;intro b1 w1 hh;refine cB hh ?_;intro b2 w2 hh;refine aa (sr ?_);refine cR hh 1 [_,_,_,_,_,_] ?_;refine bE hh (y7 s _ (hT.hp hh) hs) rfl ?_;intro w4 hh;refine Fv eK.out aF.out rfl rfl Kz ?_;refine bK hh 0 [_,_,_,_,_,_] ?_;intro ws hh;replace hh : Hp _ (.blk _ _ [_, _, _, _, _, _] _ :: _) _ := hh;refine aa (ao ?_);refine iZ (aT rfl (aU (vs := [_, _, _, _, _, _]) aF.out (hh.aC (i := 0) (n := 6) rfl rfl) rfl) bq) ?_;exact ⟨rfl, hh.below⟩
end Go.Proofs.YtaapkaefelhfcaaGreatDoor
/- Arguments opened: boxes, rows of ints. -/
namespace Go.Proofs.YtaapkaefelhfcaaGreatDoor
open Go.ChangeShapes Go.WideShapes Go.ChangeAt Go.RowKit Go.ChangeMaps
set_option maxRecDepth 100000 in
theorem xW {H : Type} {enc : TypeId × Value → H} {W : World} {base fuel : Nat} {sp : Nat → Bool} {held : Bool} {cs : List Value} {x : DataW H × List MemPlace} (h : DataW.trod enc Tryz.prog W base sp held fuel 57 cs = some x) :
  ∃ a : SR, cs = a.cells ∧ True := by
 have c0 : Tryz.prog.cellsOf 57 = 6 := by kernel_rfl
 have c1 : Tryz.prog.cellsOf 29 = 3 := by kernel_rfl
 obtain ⟨y0, y1, n, _, hl, h0, h1⟩ := trod_struct2 Tryz.underlying57 h;obtain ⟨a, e0, _⟩ := oJ h0;obtain ⟨b, e1, _⟩ := oJ h1;rw [c0] at hl
 match cs, hl with
 | [x0, x1, x2, x3, x4, x5], _ =>
  simp only [c1] at e0 e1;simp [NR.cells] at e0 e1;obtain ⟨rfl, rfl, rfl⟩ := e0;obtain ⟨rfl, rfl, rfl⟩ := e1;exact ⟨⟨a, b⟩, rfl, trivial⟩
set_option maxRecDepth 100000 in
theorem D4 {H : Type} {enc : TypeId × Value → H} {W : World} {r : Reach} {base b0 : Nat} {sp : Nat → Bool} {held : Bool} {v : Value} {d : DataW H} {ps : List MemPlace}
  (hval : Value.okWide Tryz.prog W r b0 51 v) (hd : DataW.Trod enc Tryz.prog W base sp held 51 v d ps) : ∃ (A : Option Addr) (n c : Nat) (l : List SR), v = .slice A n c ∧ Sl W A n 6 (aY SR.cells l) ∧ ∀ a ∈ l, True :=
 tW SR.len Kz Tryz.underlying51 KA (fun _ _ _ h => xW h) hval hd
end Go.Proofs.YtaapkaefelhfcaaGreatDoor
/- Plain laws of rows of indices: places, sums, rows gathered by places. No program in sight. -/
namespace Go.Proofs.YtaapkaefelhfcaaGreatDoor
def sm {α : Type} : List α → (α → Dyadic) → Dyadic
 | [], _ => 0
 | a :: l, f => f a + sm l f
section
variable {α β : Type}
theorem kB (l m : List α) (f : α → Dyadic) : sm (l ++ m) f = sm l f + sm m f := by
 induction l with
 | nil => simp [sm, Dyadic.zero_add]
 | cons a l ih => simp only [List.cons_append, sm, ih]; grind
theorem jZ (l : List α) (a : α) (f : α → Dyadic) : sm (l ++ [a]) f = sm l f + f a := by
 rw [kB]; simp only [sm]; grind
theorem bZ {l : List α} {f g : α → Dyadic} (h : ∀ a ∈ l, f a = g a) : sm l f = sm l g := by
 induction l with
 | nil => rfl
 | cons a l ih => rw [sm, sm, h a List.mem_cons_self, ih fun b hb => h b (List.mem_cons_of_mem _ hb)]
theorem pX {l : List α} {f : α → Dyadic} (h : ∀ a ∈ l, f a = 0) : sm l f = 0 := by
 induction l with
 | nil => rfl
 | cons a l ih => rw [sm, h a List.mem_cons_self, ih fun b hb => h b (List.mem_cons_of_mem _ hb)]; grind
theorem xT (l : List α) (f g : α → Dyadic) : sm l (fun a => f a + g a) = sm l f + sm l g := by
 induction l with
 | nil => simp [sm]
 | cons a l ih => simp only [sm, ih]; grind
theorem kd (l : List α) (f : α → Dyadic) (c : Dyadic) : sm l (fun a => f a * c) = sm l f * c := by
 induction l with
 | nil => simp only [sm]; grind
 | cons a l ih => simp only [sm, ih]; grind
theorem gF (l : List α) (f : α → Dyadic) (c : Dyadic) : sm l (fun a => c * f a) = c * sm l f := by
 induction l with
 | nil => simp only [sm]; grind
 | cons a l ih => simp only [sm, ih]; grind
theorem oV (l : List α) (g : α → β) (f : β → Dyadic) : sm (l.map g) f = sm l fun a => f (g a) := by
 induction l with
 | nil => rfl
 | cons a l ih => rw [List.map_cons, sm, sm, ih]
theorem yp (l : List α) (g : α → List β) (f : β → Dyadic) : sm (l.flatMap g) f = sm l fun a => sm (g a) f := by
 induction l with
 | nil => rfl
 | cons a l ih => rw [List.flatMap_cons, kB, sm, ih]
theorem n9 (l : List α) (m : List β) (f : α → β → Dyadic) : sm l (fun a => sm m (f a)) = sm m fun b => sm l fun a => f a b := by
 induction l with
 | nil => exact (pX fun b _ => rfl).symm
 | cons a l ih => simp only [sm]; rw [ih, ← xT]
theorem kX (n p : Nat) (c : Dyadic) : sm (List.range n) (fun q => if q = p then c else 0) = if p < n then c else 0 := by
 induction n with
 | zero => rw [if_neg Ky]; rfl
 | succ n ih =>
  rw [List.range_succ, jZ, ih]
  rcases Nat.lt_trichotomy p n with h | h | h
  ·rw [if_pos h, if_neg (show ¬ n = p by omega), if_pos (show p < n + 1 by omega)]; grind
  ·rw [if_neg (show ¬ p < n by omega), if_pos h.symm, if_pos (show p < n + 1 by omega)]; grind
  ·rw [if_neg (show ¬ p < n by omega), if_neg (show ¬ n = p by omega), if_neg (show ¬ p < n + 1 by omega)]; grind
end
def gR (N : Nat) (L : List (Nat × Dyadic)) : List Dyadic := (List.range N).map fun p => sm L fun q => if q.1 = p then q.2 else 0
theorem gE (N : Nat) (L : List (Nat × Dyadic)) : (gR N L).length = N := by simp [gR]
theorem rp (N : Nat) : gR N [] = List.replicate N 0 := by
 refine List.ext_getElem (by simp [gR]) fun i h1 h2 => ?_;simp [gR, sm]
theorem kR {N p : Nat} (L : List (Nat × Dyadic)) (h : p < N) : (gR N L)[p]? = some (sm L fun q => if q.1 = p then q.2 else 0) := by
 unfold gR;rw [List.getElem?_map, List.getElem?_range h]
 rfl
theorem th {N p : Nat} {L : List (Nat × Dyadic)} {x v : Dyadic} (h : (gR N L)[p]? = some x) : (gR N L).set p (x + v) = gR N (L ++ [(p, v)]) := by
 have hp : p < N := by have := (List.getElem?_eq_some_iff.1 h).1; rwa [gE] at this
 rw [kR L hp] at h;refine List.ext_getElem? fun i => ?_;rw [List.getElem?_set];by_cases hi : p = i
 ·subst hi;rw [if_pos rfl, gE, if_pos hp, kR _ hp, jZ, ← Option.some.inj h, if_pos rfl]
 ·rw [if_neg hi];by_cases hin : i < N
  ·rw [kR _ hin, kR _ hin, jZ, if_neg hi];congr 1;grind
  ·rw [List.getElem?_eq_none (by rw [gE]; omega), List.getElem?_eq_none (by rw [gE]; omega)]
theorem C7 {α : Type} {l : List α} {f : α → Dyadic} {k : Nat} (h : ∀ a ∈ l, Sz k (f a)) : Sz (k + l.length) (sm l f) := by
 induction l with
 | nil => exact Sz.zero _
 | cons a l ih =>
  have h1 := ih fun b hb => h b (List.mem_cons_of_mem _ hb);have h2 := ((h a List.mem_cons_self).mono (show k ≤ k + l.length by omega)).add h1;rw [sm, List.length_cons];exact h2.mono Ky
theorem ug {N k : Nat} {L : List (Nat × Dyadic)} (h : ∀ a ∈ L, Sz k a.2) : ∀ x ∈ gR N L, Sz (k + L.length) x := fun x hx => by
 obtain ⟨p, _, rfl⟩ := List.mem_map.1 hx;refine C7 fun a ha => ?_;split
 ·exact h a ha
 ·exact Sz.zero _
def av : List Nat → Nat
 | [] => 1
 | d :: ds => (d + 1) * av ds
def bV : List Nat → Nat → List Nat
 | [], _ => []
 | d :: ds, p => p % (d + 1) :: bV ds (p / (d + 1))
def dA : List Nat → List Nat → Nat
 | d :: ds, r :: rs => r + (d + 1) * dA ds rs
 | _, _ => 0
def ju : List Nat → List Nat → Prop
 | [], [] => True
 | d :: ds, r :: rs => r ≤ d ∧ ju ds rs
 | _, _ => False
theorem dw (ds : List Nat) : 0 < av ds := by
 induction ds with
 | nil => exact Nat.one_pos
 | cons d ds ih => exact Nat.mul_pos Ky ih
theorem lE : ∀ (ds : List Nat) (p : Nat), (bV ds p).length = ds.length
 | [], _ => rfl
 | d :: ds, p => by rw [bV, List.length_cons, lE ds, List.length_cons]
theorem gN : ∀ (ds : List Nat) (p : Nat), ju ds (bV ds p)
 | [], _ => trivial
 | d :: ds, p => ⟨by have := Nat.mod_lt p (show 0 < d + 1 by omega); omega, gN ds _⟩
theorem xC : ∀ {ds : List Nat} {p : Nat}, p < av ds → dA ds (bV ds p) = p
 | [], p, h => by
  have : p < 1 := h;show 0 = p;omega
 | d :: ds, p, h => by
  have h1 : p / (d + 1) < av ds := by rw [Nat.div_lt_iff_lt_mul Ky, Nat.mul_comm]; exact h
  rw [bV, dA, xC h1, Nat.mod_add_div]
theorem jx : ∀ {ds rs : List Nat}, ju ds rs → dA ds rs < av ds
 | [], [], _ => Nat.one_pos
 | d :: ds, r :: rs, h => by
  have h1 := jx h.2;have h2 := h.1;rw [dA, av];have h3 : (d + 1) * dA ds rs + (d + 1) ≤ (d + 1) * av ds := by
   have := Nat.mul_le_mul_left (d + 1) (show dA ds rs + 1 ≤ av ds by omega);rw [Nat.mul_add, Nat.mul_one] at this;exact this
  omega
theorem gK : ∀ {ds rs : List Nat}, ju ds rs → bV ds (dA ds rs) = rs
 | [], [], _ => rfl
 | d :: ds, r :: rs, h => by
  have h2 := h.1;rw [dA, bV, Nat.add_mul_mod_self_left, Nat.mod_eq_of_lt Ky, Nat.add_mul_div_left _ _ Ky, Nat.div_eq_of_lt Ky, Nat.zero_add, gK h.2]
theorem uF (d : Nat) (ds : List Nat) (f : Nat → Dyadic) : sm (List.range (av (d :: ds))) f = sm (List.range (av ds)) fun q => sm (List.range (d + 1)) fun r => f (r + (d + 1) * q) := by
 have key : ∀ n, sm (List.range ((d + 1) * n)) f = sm (List.range n) fun q => sm (List.range (d + 1)) fun r => f (r + (d + 1) * q) := fun n => by
  induction n with
  | zero => rfl
  | succ n ih =>
   rw [List.range_succ, jZ, ← ih, Nat.mul_succ, List.range_add, kB, oV];congr 1;exact bZ fun a _ => by rw [Nat.add_comm]
 exact key _
end Go.Proofs.YtaapkaefelhfcaaGreatDoor
/- All products within some degrees: the odometer's list. Plain lemmas, no program in sight. -/
namespace Go.Proofs.YtaapkaefelhfcaaGreatDoor
open Go.RowKit
def GI (d : Int) : List Int := (List.range (d.toNat + 1)).map fun (k : Nat) => (k : Int)
def HQ : List Int → List (List Int)
 | [] => [[]]
 | d :: ds => (GI d).flatMap fun k => (HQ ds).map (k :: ·)
def eN (n : Nat) : List Int := List.replicate n 0
def Ke : List Int → List Int → Option (List Int)
 | d :: ds, k :: l => match Ke ds l with
  | some l' => some (k :: l')
  | none => if k < d then some ((k + 1) :: eN l.length) else none
 | _, _ => none
def Je {α : Type} (f : α → Option α) : α → List α → Prop
 | a, [b] => b = a ∧ f a = none
 | a, b :: L => b = a ∧ ∃ c, f a = some c ∧ Je f c L
 | _, [] => False
theorem n7 (n : Nat) : (eN n).length = n := by simp [eN]
def Jv : Int → List Int → Bool
 | _, [] => true
 | n, d :: ds => decide (0 ≤ d) && (decide (d ≤ 127) && (decide (n * (d + 1) ≤ 65536) && Jv (n * (d + 1)) ds))
def fX (l : List Int) : ByteArray := str (l.map xL)
def JS (ds : List Int) : List ByteArray := if Jv 1 ds then (HQ ds).map fX else []
def gX (d : Int) (s : ByteArray) : List ByteArray := (GI d).map fun q => s ++ str [xL q]
def J4 (ls : List Int) (k n : Nat) : List Int := ls.take k ++ eN (n - k)
end Go.Proofs.YtaapkaefelhfcaaGreatDoor
/- Plain laws: ways to choose, rows in their order, forms that may be. No program in sight. -/
namespace Go.Proofs.YtaapkaefelhfcaaGreatDoor
def bin : Nat → Nat → Nat
 | _, 0 => 1
 | 0, _ + 1 => 0
 | n + 1, k + 1 => bin n k + bin n (k + 1)
theorem lX (n : Nat) : bin n 0 = 1 := by cases n <;> rfl
theorem qe : ∀ {n k : Nat}, n < k → bin n k = 0
 | 0, k + 1, _ => rfl
 | n + 1, k + 1, h => by rw [bin, qe (show n < k by omega), qe (show n < k + 1 by omega)]
theorem wa : ∀ n, bin n n = 1
 | 0 => rfl
 | n + 1 => by rw [bin, wa n, qe (show n < n + 1 by omega)]
theorem uq : ∀ n k : Nat, bin n k ≤ 2 ^ n
 | n, 0 => by rw [lX]; exact Nat.pow_pos Kz
 | 0, k + 1 => Nat.zero_le _
 | n + 1, k + 1 => by
  have h1 := uq n k;have h2 := uq n (k + 1);rw [bin, Nat.pow_succ];omega
def pV (n : Nat) : List Nat := (List.range (n + 1)).map (bin n)
theorem qJ (n : Nat) : (pV n).length = n + 1 := by simp [pV]
theorem uk {n k : Nat} (h : k ≤ n) : (pV n)[k]? = some (bin n k) := by
 unfold pV;rw [List.getElem?_map, List.getElem?_range Ky]
 rfl
def nD (n : Nat) : Dyadic := ((n : Int) : Dyadic)
theorem zA : nD 0 = 0 := rfl
theorem rE : nD 1 = 1 := rfl
theorem uH (a b : Nat) : nD (a + b) = nD a + nD b := by
 show Dyadic.ofIntWithPrec ((a + b : Nat) : Int) 0 = Dyadic.ofIntWithPrec (a : Int) 0 + Dyadic.ofIntWithPrec (b : Int) 0;rw [uz, Int.natCast_add]
theorem D5 (a b : Nat) : nD (a * b) = nD a * nD b := by
 induction a with
 | zero => rw [Nat.zero_mul, zA]; grind
 | succ a ih => rw [Nat.succ_mul, uH, uH, ih, rE]; grind
theorem GA {n k : Nat} (h : n < 2 ^ k) : Sz k (nD n) := by
 refine ⟨(n : Int) * 2 ^ k, ?_, ?_⟩
 ·have := oM (n : Int) 0 k;rw [show (0 : Int) + (k : Int) = k by omega] at this;rw [this]
  rfl
 ·rw [Int.natAbs_mul, Int.natAbs_pow, Int.natAbs_natCast, show 2 * k = k + k by omega, Nat.pow_add];exact Nat.mul_lt_mul_of_pos_right h (Nat.pow_pos Kz)
theorem sf {α β : Type} {m : Nat} (hm : 0 < m) (g : α → List β) : ∀ (l : List α) (p : Nat), (∀ a ∈ l, (g a).length = m) → (l.flatMap g)[p]? = (l[p / m]?).bind fun a => (g a)[p % m]?
 | [], p, _ => by simp
 | a :: l, p, h => by
  have ha := h a List.mem_cons_self;rw [List.flatMap_cons];by_cases hp : p < m
  ·rw [List.getElem?_append_left Ky, Nat.div_eq_of_lt hp, Nat.mod_eq_of_lt hp]
   rfl
  ·obtain ⟨q, rfl⟩ : ∃ q, p = q + m := ⟨p - m, Ky⟩;rw [List.getElem?_append_right Ky, ha, Nat.add_sub_cancel, sf hm g l q fun b hb => h b (List.mem_cons_of_mem _ hb), Nat.add_div_right _ hm, Nat.add_mod_right, List.getElem?_cons_succ]
theorem pD {α β : Type} {m : Nat} (g : α → List β) : ∀ (l : List α), (∀ a ∈ l, (g a).length = m) → (l.flatMap g).length = l.length * m
 | [], _ => by simp
 | a :: l, h => by
  rw [List.flatMap_cons, List.length_append, h a List.mem_cons_self, pD g l fun b hb => h b (List.mem_cons_of_mem _ hb), List.length_cons, Nat.succ_mul, Nat.add_comm]
def bu (l : List Nat) : List Int := l.map fun (n : Nat) => (n : Int)
theorem cU (l : List Nat) : (bu l).length = l.length := by simp [bu]
theorem eu {l : List Nat} {i n : Nat} (h : l[i]? = some n) : (bu l)[i]? = some (n : Int) := by simp [bu, h]
theorem AZ : ∀ {ds rs : List Nat}, ju ds rs → rs.length = ds.length
 | [], [], _ => rfl
 | _ :: _, _ :: _, h => by rw [List.length_cons, List.length_cons, AZ h.2]
theorem Dx {ds rs : List Nat} {i d r : Nat} (hd : ds[i]? = some d) (hr : rs[i]? = some r) : dA (ds.take (i + 1)).reverse (rs.take (i + 1)).reverse = r + (d + 1) * dA (ds.take i).reverse (rs.take i).reverse := by
 rw [aH hd, aH hr];simp [dA]
theorem CF {ds : List Nat} {i d : Nat} (hd : ds[i]? = some d) : av (ds.take (i + 1)).reverse = (d + 1) * av (ds.take i).reverse := by
 rw [aH hd];simp [av]
theorem dT (a b : List Nat) : av (a ++ b) = av a * av b := by
 induction a with
 | nil => simp [av]
 | cons d a ih => rw [List.cons_append, av, av, ih, Nat.mul_assoc]
theorem dr (ds : List Nat) : av ds.reverse = av ds := by
 induction ds with
 | nil => rfl
 | cons d ds ih => rw [List.reverse_cons, dT, ih, av, av, av, Nat.mul_one, Nat.mul_comm]
theorem fU (ds : List Nat) (i : Nat) : av (ds.take i) ≤ av ds := by
 have : ds = ds.take i ++ ds.drop i := (List.take_append_drop i ds).symm
 calc av (ds.take i) = av (ds.take i) * 1 := (Nat.mul_one _).symm
  _ ≤ av (ds.take i) * av (ds.drop i) := Nat.mul_le_mul_left _ (dw _)
  _ = av ds := by rw [← dT, List.take_append_drop]
end Go.Proofs.YtaapkaefelhfcaaGreatDoor
/- The walks through the library's small functions over rows; plain laws of forms that may be. -/
namespace Go.Proofs.YtaapkaefelhfcaaGreatDoor
open Go.RowKit
theorem kO (A : Option Addr) (n c : Nat) (ds : List Int) (w : World) (hS : Sl w A n 1 (bG ds)) (hn : n ≤ 1000000) :
  Calls Tryz.prog 116 #[.slice A n c] w fun r w' => ∃ B c', r = .returned (.slice B n c') ∧ w'.ownsRow w.heap.size 3 1 (.slice B n c') n (bG ds) ∧ Below w.heap.size w w' := by
 have hh := Hp.start w
 rcases A with _ | ad
 ·have hn0 : n = 0 := by
   rcases Nat.eq_zero_or_pos n with h | h
   ·exact h
   ·obtain ⟨_, h1, _⟩ := hS.2 h; cases h1
  subst hn0;have hl : ds = [] := List.eq_nil_of_length_eq_zero (by simpa [bG] using hS.1);subst hl;refine al (N := 8) (l := [.slice none 0 c]) Tryz.func116 rfl rfl (by simp) ?_;refine sr (aL (aa (ah (sr (mL ?_)))));refine mg aQ.out rfl rfl Kz ?_;refine aa (cT (sr (aL (aa (ao (aG ?_))))));refine cq ?_;exact ⟨_, _, rfl, World.ownsRow_nil _ _ _ _, hh.below⟩
 ·refine al (N := 8) (l := [.slice (some ad) n c]) Tryz.func116 rfl rfl (by simp) ?_;refine sr (aL (aa (ah (sr (mL ?_)))));refine mg aQ.out rfl rfl Kz ?_;refine aa (cF (ak (ai (sr ?_))));refine jN hh aQ.out aF.out Kz ?_;intro b5 w5 hh;refine mL ?_;refine cz hh (i := 0) rfl rfl rfl (hS.ext hh.below) aQ.out aF.out rfl Kz ?one2 Ky Ky Kz ?kk2
  case one2 => first | rfl | assumption | exact bH _ | exact oneCells_u8s _
  intro A7 c7 w7 hh;simp only [List.set_cons_zero] at hh;rw [Nat.zero_add] at hh ⊢;rw [List.nil_append] at hh;refine aL (aa (ao ?_));refine cq ?_;exact ⟨_, _, rfl, hh.at_ (i := 0) rfl, hh.below⟩
theorem uy (A : Option Addr) (n c : Nat) (xs : List NR) (w : World) (hS : Sl w A n 3 (aY NR.cells xs)) (hn : n ≤ 1000000) :
  Calls Tryz.prog 134 #[.slice A n c] w fun r w' => ∃ B c', r = .returned (.slice B n c') ∧ w'.ownsRow w.heap.size 29 3 (.slice B n c') n (aY NR.cells xs) ∧ Below w.heap.size w w' := by
 have hh := Hp.start w
 rcases A with _ | ad
 ·have hn0 : n = 0 := by
   rcases Nat.eq_zero_or_pos n with h | h
   ·exact h
   ·obtain ⟨_, h1, _⟩ := hS.2 h; cases h1
  subst hn0;have hl : xs = [] := List.eq_nil_of_length_eq_zero (by have := hS.bM NR.len Kz; omega);subst hl;refine al (N := 8) (l := [.slice none 0 c]) Tryz.func134 rfl rfl (by simp) ?_;refine sr (aL (aa (ah (sr (mL ?_)))));refine mg aQ.out rfl rfl Kz ?_;refine aa (cT (sr (aL (aa (ao (aG ?_))))));refine cq ?_;exact ⟨_, _, rfl, World.ownsRow_nil _ _ _ _, hh.below⟩
 ·have hone : ((aY NR.cells xs).all Value.oneCell') = true := bO NR.one _;refine al (N := 8) (l := [.slice (some ad) n c]) Tryz.func134 rfl rfl (by simp) ?_;refine sr (aL (aa (ah (sr (mL ?_)))));refine mg aQ.out rfl rfl Kz ?_;refine aa (cF (ak (ai (sr ?_))));refine jN hh aQ.out aF.out Kz ?_;intro b5 w5 hh;refine mL ?_;refine cz hh (i := 0) rfl rfl rfl (hS.ext hh.below) aQ.out aF.out rfl Kz ?one3 Ky Ky Kz ?kk3
  case one3 => first | rfl | assumption | exact bH _ | exact oneCells_u8s _
  intro A7 c7 w7 hh;simp only [List.set_cons_zero] at hh;rw [Nat.zero_add] at hh ⊢;rw [List.nil_append] at hh;refine aL (aa (ao ?_));refine cq ?_;exact ⟨_, _, rfl, hh.at_ (i := 0) rfl, hh.below⟩
theorem xR (A : Option Addr) (n c : Nat) (l : List Int) (g : FuncId) (cap : List Value) (p : Int → Bool) (w : World) (hS : Sl w A n 1 (bG l)) (hn : n ≤ 1000000) [aw Tryz.prog g]
  (hg : ∀ (z : Int) (w1 : World), z ∈ l → Below w.heap.size w w1 → Calls Tryz.prog g (.int .i64 z :: cap).toArray w1 fun r w' => r = .returned (.bool (p z)) ∧ Below w1.heap.size w1 w') :
  Calls Tryz.prog 208 #[.slice A n c, .func (.func g) #[] cap.toArray] w fun r w' => ∃ v, r = .returned (.int .i64 v) ∧ (0 ≤ v ↔ l.any p = true) ∧ Below w.heap.size w w' := by
 have hh := Hp.start w;have hln : l.length = n := by have := hS.1; simpa [bG] using this
 refine al (N := 19) (l := [.slice A n c, .func (.func g) #[] cap.toArray]) Tryz.func208 rfl rfl (by simp) ?_;refine sr (aI (aa (ah (sr (mL (aW (mI (aa (aj ?_)))))))));refine bm [4, 5, 8, 9, 10, 11, 12, 13, 14, 15, 16, 17, 18] 8
  (fun v w' => ∃ i : Nat, i ≤ n ∧ v = .int .i64 i ∧ (l.take i).any p = false ∧ Hp w [] w')
  (fun v _ => n - (intOf v).toNat) ?_ ?_
 ·exact ⟨0, Nat.zero_le _, rfl, rfl, hh⟩
 ·clear hh;rintro ρ' v w' ⟨i, hi, rfl, hall, hh⟩;by_cases hlt : i < n
  ·obtain ⟨z, hz⟩ := ay (l := l) (k := i) Ky;have hgi := cx hz;obtain ⟨ad, rfl, hr⟩ := hS.at_ Ky;have hc := fun w1 => hg z w1 (List.mem_of_getElem? hz)
   cases gz : p z with
   | true =>
    rw [gz] at hc;refine sr ?_;refine aK (aa (ah (cT (ak (ai (ah (aj (sr (mI (aI (aa (sr ?_))))))))))));refine eh (by first | exact eg rfl | exact ev_nilf rfl) Kz ?_;refine mL (mI ?_);refine aD (k := i) aQ.out aF.size rfl rfl Ky Ky Kz ?_;refine aZ aF.out rfl ((hr.ext hh.below).fP hgi) Kz ?_;refine eb (hc _ hh.below) aw.out rfl rfl Kz ?_;rintro e_ w16 ⟨rfl, hb_⟩;refine ⟨_, rfl, ?_⟩;replace hh := hh.ext hb_;refine aa (cT (sr (mI (aI (aa (ao (bD (aG (aG (bD (aG ?_)))))))))));refine cq ?_;exact ⟨_, rfl, ⟨fun _ => List.any_eq_true.2 ⟨z, List.mem_of_getElem? hz, gz⟩, fun _ => by omega⟩, hh.below⟩
   | false =>
    rw [gz] at hc;refine sr ?_;refine aK (aa (ah (cT (ak (ai (ah (aj (sr (mI (aI (aa (sr ?_))))))))))));refine eh (by first | exact eg rfl | exact ev_nilf rfl) Kz ?_;refine mL (mI ?_);refine aD (k := i) aQ.out aF.size rfl rfl Ky Ky Kz ?_;refine aZ aF.out rfl ((hr.ext hh.below).fP hgi) Kz ?_;refine eb (hc _ hh.below) aw.out rfl rfl Kz ?_;rintro e_ w16 ⟨rfl, hb_⟩;refine ⟨_, rfl, ?_⟩;replace hh := hh.ext hb_;refine aa (cF (ak (aP (ai (aq ?_)))));refine bB (mI (aE (ai ?_)));refine ⟨⟨i + 1, Ky, rfl, by rw [aH hz, List.any_append, hall, List.any_cons, List.any_nil, gz]; rfl, hh⟩, by show n - (i + 1) < n - i; omega, ?_⟩;exact KB
  ·rw [List.take_of_length_le Ky] at hall;refine sr ?_;refine aK (aa (ah (cF (aJ (az (az (aX (ai (sr (aI (aa (ao ?_))))))))))));refine cq ?_;exact ⟨_, rfl, ⟨fun h => absurd h Kz, fun h => by rw [hall] at h; cases h⟩, hh.below⟩
theorem zp (A : Option Addr) (n c : Nat) (l : List Int) (g : FuncId) (cap : List Value) (p : Int → Bool) (w : World) (hS : Sl w A n 1 (bG l)) (hn : n ≤ 1000000) [aw Tryz.prog g]
  (hg : ∀ (z : Int) (w1 : World), z ∈ l → Below w.heap.size w w1 → Calls Tryz.prog g (.int .i64 z :: cap).toArray w1 fun r w' => r = .returned (.bool (p z)) ∧ Below w1.heap.size w1 w') :
  Calls Tryz.prog 132 #[.slice A n c, .func (.func g) #[] cap.toArray] w fun r w' => r = .returned (.bool (l.any p)) ∧ Below w.heap.size w w' := by
 have hh := Hp.start w;refine al (N := 9) (l := [.slice A n c, .func (.func g) #[] cap.toArray]) Tryz.func132 rfl rfl (by simp) ?_;refine sr (aB (aa (sr (mL ?_))));refine eh (by first | exact eg rfl | exact ev_nilf rfl) Kz ?_;refine aN (xR A n c l g cap p _ (hS.ext hh.below) hn hg) aw.out rfl Kz ?_;rintro e_ w7 ⟨v_, rfl, hv_, hb_⟩;refine ⟨_, rfl, ?_⟩;replace hh := hh.ext hb_
 cases ga : l.any p with
 | true =>
  have h0 := hv_.2 ga;refine dv (aB (aa (ao ?_)));refine cq ?_;exact ⟨rfl, hh.below⟩
 | false =>
  have h0 : ¬ 0 ≤ v_ := fun h => by rw [hv_.1 h] at ga; cases ga
  refine dv (aB (aa (ao ?_)));refine cq ?_;exact ⟨rfl, hh.below⟩
theorem yJ (A : Option Addr) (n c : Nat) (l : List NR) (g : FuncId) (cap : List Value) (p : NR → Bool) (w : World) (hS : Sl w A n 3 (aY NR.cells l)) (hn : n ≤ 1000000) [aw Tryz.prog g]
  (hg : ∀ (z : NR) (w1 : World), z ∈ l → Below w.heap.size w w1 → Calls Tryz.prog g (.agg #[.bool z.neg, .string z.cA, .int .i64 z.e] :: cap).toArray w1 fun r w' => r = .returned (.bool (p z)) ∧ Below w1.heap.size w1 w') :
  Calls Tryz.prog 220 #[.slice A n c, .func (.func g) #[] cap.toArray] w fun r w' => ∃ v, r = .returned (.int .i64 v) ∧ (0 ≤ v ↔ l.any p = true) ∧ Below w.heap.size w w' := by
 have hh := Hp.start w;have hln := hS.bM NR.len Kz;refine al (N := 19) (l := [.slice A n c, .func (.func g) #[] cap.toArray]) Tryz.func220 rfl rfl (by simp) ?_;refine sr (aI (aa (ah (sr (mL (aW (mI (aa (aj ?_)))))))));refine bm [4, 5, 8, 9, 10, 11, 12, 13, 14, 15, 16, 17, 18] 8
  (fun v w' => ∃ i : Nat, i ≤ n ∧ v = .int .i64 i ∧ (l.take i).any p = false ∧ Hp w [] w')
  (fun v _ => n - (intOf v).toNat) ?_ ?_
 ·exact ⟨0, Nat.zero_le _, rfl, rfl, hh⟩
 ·clear hh;rintro ρ' v w' ⟨i, hi, rfl, hall, hh⟩;by_cases hlt : i < n
  ·obtain ⟨z, hz⟩ := ay (l := l) (k := i) Ky;obtain ⟨ad, rfl, hr⟩ := hS.at_ Ky;have hc := fun w1 => hg z w1 (List.mem_of_getElem? hz)
   cases gz : p z with
   | true =>
    rw [gz] at hc;refine sr ?_;refine aK (aa (ah (cT (ak (ai (ah (aj (sr (mI (aI (aa (sr ?_))))))))))));refine eh (by first | exact eg rfl | exact ev_nilf rfl) Kz ?_;refine mL (mI ?_);refine aD (k := i) aQ.out aF.size rfl rfl Ky Ky Kz ?_;refine bJ (vs := [_, _, _]) aF.out rfl ((hr.ext hh.below).recAt NR.len hz) rfl Kz ?_;refine eb (hc _ hh.below) aw.out rfl rfl Kz ?_;rintro e_ w16 ⟨rfl, hb_⟩;refine ⟨_, rfl, ?_⟩;replace hh := hh.ext hb_;refine aa (cT (sr (mI (aI (aa (ao (bD (aG (aG (bD (aG ?_)))))))))));refine cq ?_;exact ⟨_, rfl, ⟨fun _ => List.any_eq_true.2 ⟨z, List.mem_of_getElem? hz, gz⟩, fun _ => by omega⟩, hh.below⟩
   | false =>
    rw [gz] at hc;refine sr ?_;refine aK (aa (ah (cT (ak (ai (ah (aj (sr (mI (aI (aa (sr ?_))))))))))));refine eh (by first | exact eg rfl | exact ev_nilf rfl) Kz ?_;refine mL (mI ?_);refine aD (k := i) aQ.out aF.size rfl rfl Ky Ky Kz ?_;refine bJ (vs := [_, _, _]) aF.out rfl ((hr.ext hh.below).recAt NR.len hz) rfl Kz ?_;refine eb (hc _ hh.below) aw.out rfl rfl Kz ?_;rintro e_ w16 ⟨rfl, hb_⟩;refine ⟨_, rfl, ?_⟩;replace hh := hh.ext hb_;refine aa (cF (ak (aP (ai (aq ?_)))));refine bB (mI (aE (ai ?_)));refine ⟨⟨i + 1, Ky, rfl, by rw [aH hz, List.any_append, hall, List.any_cons, List.any_nil, gz]; rfl, hh⟩, by show n - (i + 1) < n - i; omega, ?_⟩;exact KB
  ·rw [List.take_of_length_le Ky] at hall;refine sr ?_;refine aK (aa (ah (cF (aJ (az (az (aX (ai (sr (aI (aa (ao ?_))))))))))));refine cq ?_;exact ⟨_, rfl, ⟨fun h => absurd h Kz, fun h => by rw [hall] at h; cases h⟩, hh.below⟩
theorem yS (A : Option Addr) (n c : Nat) (l : List NR) (g : FuncId) (cap : List Value) (p : NR → Bool) (w : World) (hS : Sl w A n 3 (aY NR.cells l)) (hn : n ≤ 1000000) [aw Tryz.prog g]
  (hg : ∀ (z : NR) (w1 : World), z ∈ l → Below w.heap.size w w1 → Calls Tryz.prog g (.agg #[.bool z.neg, .string z.cA, .int .i64 z.e] :: cap).toArray w1 fun r w' => r = .returned (.bool (p z)) ∧ Below w1.heap.size w1 w') :
  Calls Tryz.prog 157 #[.slice A n c, .func (.func g) #[] cap.toArray] w fun r w' => r = .returned (.bool (l.any p)) ∧ Below w.heap.size w w' := by
 have hh := Hp.start w;refine al (N := 9) (l := [.slice A n c, .func (.func g) #[] cap.toArray]) Tryz.func157 rfl rfl (by simp) ?_;refine sr (aB (aa (sr (mL ?_))));refine eh (by first | exact eg rfl | exact ev_nilf rfl) Kz ?_;refine aN (yJ A n c l g cap p _ (hS.ext hh.below) hn hg) aw.out rfl Kz ?_;rintro e_ w7 ⟨v_, rfl, hv_, hb_⟩;refine ⟨_, rfl, ?_⟩;replace hh := hh.ext hb_
 cases ga : l.any p with
 | true =>
  have h0 := hv_.2 ga;refine dv (aB (aa (ao ?_)));refine cq ?_;exact ⟨rfl, hh.below⟩
 | false =>
  have h0 : ¬ 0 ≤ v_ := fun h => by rw [hv_.1 h] at ga; cases ga
  refine dv (aB (aa (ao ?_)));refine cq ?_;exact ⟨rfl, hh.below⟩
end Go.Proofs.YtaapkaefelhfcaaGreatDoor
/- Plain laws: forms that may be. No program in sight. -/
namespace Go.Proofs.YtaapkaefelhfcaaGreatDoor
def gB : Int → List Int → Int
 | n, [] => n
 | n, d :: ds => if d < 0 ∨ 127 < d ∨ 4096 < n * (d + 1) then 0 else gB (n * (d + 1)) ds
def ux : Int → List Int → Int
 | n, [] => n
 | n, d :: ds => ux (min (n * (d + 1)) 4097) ds
def x7 (ds : List Int) : Int := if ds.any (fun d => !dk d) then -1 else ux 1 ds
def sn (a : NR) : Bool := !(((nR a.d).neg == a.neg && (nR a.d).cA == a.cA) && (nR a.d).e == a.e)
theorem nA {a : NR} : sn a = false ↔ nR a.d = a := by
 unfold sn;rw [Bool.not_eq_false', nT]
def fE (ds : List Int) (cs : List NR) : Int :=
 if 12 < ds.length ∨ ds.any (fun d => !dk d) = true then 1 else if gB 1 ds = 0 then 3 else if (cs.length : Int) ≠ gB 1 ds then 1 else if cs.any sn = true then 1 else 0
theorem tJ {ds : List Int} (h : ds.any (fun d => !dk d) = false) : ∃ ns : List Nat, ds = bu ns ∧ ∀ n ∈ ns, n ≤ 127 := by
 refine ⟨ds.map Int.toNat, ?_, fun n hn => ?_⟩
 ·unfold bu;rw [List.map_map];refine (List.map_id' ds).symm.trans (List.map_congr_left fun d hd => ?_);have := List.any_eq_false.1 h d hd;simp [dk] at this;show d = ((d.toNat : Nat) : Int);omega
 ·obtain ⟨d, hd, rfl⟩ := List.mem_map.1 hn;have := List.any_eq_false.1 h d hd;simp [dk] at this;omega
theorem qM {ns : List Nat} (h : ∀ n ∈ ns, n ≤ 127) : (bu ns).any (fun d => !dk d) = false := by
 rw [List.any_eq_false];intro d hd;obtain ⟨n, hn, rfl⟩ := List.mem_map.1 hd;have := h n hn;simp [dk];omega
theorem jg : ∀ (ns : List Nat) (n : Nat), 1 ≤ n → n ≤ 4096 → (∀ d ∈ ns, d ≤ 127) → gB n (bu ns) = if n * av ns ≤ 4096 then ((n * av ns : Nat) : Int) else 0
 | [], n, _, h, _ => by show (n : Int) = _; rw [av, Nat.mul_one, if_pos h]
 | d :: ns, n, h1, h2, h3 => by
  show (if (d : Int) < 0 ∨ 127 < (d : Int) ∨ 4096 < (n : Int) * ((d : Int) + 1) then 0 else gB ((n : Int) * ((d : Int) + 1)) (bu ns)) = _;have hd := h3 d List.mem_cons_self;have e1 : (n : Int) * ((d : Int) + 1) = ((n * (d + 1) : Nat) : Int) := by rw [Int.natCast_mul, Int.natCast_add]; rfl
  rw [e1];by_cases hg : n * (d + 1) ≤ 4096
  ·rw [if_neg Ky, jg ns (n * (d + 1)) (Nat.mul_pos h1 Ky) hg fun x hx => h3 x (List.mem_cons_of_mem _ hx), av, Nat.mul_assoc]
  ·have h4 : n * (d + 1) * 1 ≤ n * (d + 1) * av ns := Nat.mul_le_mul_left _ (dw ns);rw [if_pos Ky, if_neg];rw [av, ← Nat.mul_assoc];omega
theorem vY : ∀ (ns : List Nat) (n : Nat), 1 ≤ n → n ≤ 4097 → ux n (bu ns) = ((min (n * av ns) 4097 : Nat) : Int)
 | [], n, _, h => by show (n : Int) = _; rw [av, Nat.mul_one, Nat.min_eq_left h]
 | d :: ns, n, h1, h2 => by
  show ux (min ((n : Int) * ((d : Int) + 1)) 4097) (bu ns) = _;have e1 : min ((n : Int) * ((d : Int) + 1)) 4097 = ((min (n * (d + 1)) 4097 : Nat) : Int) := by
   have : (n : Int) * ((d : Int) + 1) = ((n * (d + 1) : Nat) : Int) := by rw [Int.natCast_mul, Int.natCast_add]; rfl
   rw [this]; omega
  have hp := Nat.mul_pos h1 (show 0 < d + 1 by omega);rw [e1, vY ns _ Ky Ky, av, ← Nat.mul_assoc];by_cases hg : n * (d + 1) ≤ 4097
  ·rw [Nat.min_eq_left hg]
  ·have h4 : n * (d + 1) * 1 ≤ n * (d + 1) * av ns := Nat.mul_le_mul_left _ (dw ns);have h5 : 4097 * 1 ≤ 4097 * av ns := Nat.mul_le_mul_left _ (dw ns);rw [Nat.min_eq_right (by omega : 4097 ≤ n * (d + 1)), Nat.min_eq_right Ky, Nat.min_eq_right Ky]
theorem Ag : ∀ (ds : List Int) (n : Int), 1 ≤ n → n ≤ 4096 → 0 ≤ gB n ds ∧ gB n ds ≤ 4096
 | [], n, _, h => by show 0 ≤ n ∧ n ≤ 4096; omega
 | d :: ds, n, h1, h2 => by
  rw [gB];split
  ·omega
  ·rename_i hg;have : 1 * 1 ≤ n * (d + 1) := Int.mul_le_mul h1 Ky Kz Ky;exact Ag ds _ Ky Ky
structure FV (ds : List Int) (cs : List NR) (ns : List Nat) (xs : List Dyadic) : Prop where
 Ju : ds = bu ns
 num : cs = xs.map nR
 HY : ns.length ≤ 12
 low : ∀ n ∈ ns, n ≤ 127
 len : xs.length = av ns
 max : av ns ≤ 4096
theorem GS {ds : List Int} {cs : List NR} (h : fE ds cs = 0) : ∃ ns xs, FV ds cs ns xs ∧ xs = cs.map NR.d := by
 unfold fE at h;split at h
 ·cases h
 rename_i h1;split at h
 ·cases h
 rename_i h2;split at h
 ·cases h
 rename_i h3;split at h
 ·cases h
 rename_i h4;have hb : ds.any (fun d => !dk d) = false := by
  cases hx : ds.any (fun d => !dk d) with
  | false => rfl
  | true => exact absurd (.inr hx) h1
 obtain ⟨ns, rfl, hl⟩ := tJ hb;have hc := jg ns 1 Kz Kz hl;rw [Nat.one_mul] at hc;have hc1 : gB ((1 : Nat) : Int) (bu ns) = gB 1 (bu ns) := rfl;rw [hc1] at hc;have hmax : av ns ≤ 4096 := by
  apply Classical.byContradiction;intro hg;rw [if_neg hg] at hc;exact h2 hc
 rw [if_pos hmax] at hc;have hlen : cs.length = av ns := by
  have : (cs.length : Int) = gB 1 (bu ns) := Classical.not_not.1 h3;rw [hc] at this;omega
 refine ⟨ns, cs.map NR.d, ⟨rfl, ?_, (by have h2 : ¬ 12 < (bu ns).length := fun h => h1 (.inl h); rw [cU] at h2; omega), hl, by rw [List.length_map, hlen], hmax⟩, rfl⟩;rw [List.map_map];refine (List.map_id' cs).symm.trans (List.map_congr_left fun a ha => ?_);have h5 : sn a = false := by
  cases hx : sn a with
  | false => rfl
  | true => exact absurd (List.any_eq_true.2 ⟨a, ha, hx⟩) h4
 exact (nA.1 h5).symm
theorem FV.ok {ds : List Int} {cs : List NR} {ns : List Nat} {xs : List Dyadic} (h : FV ds cs ns xs) : fE ds cs = 0 := by
 obtain ⟨rfl, rfl, h1, h2, h3, h4⟩ := h;have hc := jg ns 1 Kz Kz h2;rw [Nat.one_mul, if_pos h4] at hc;have hc1 : gB ((1 : Nat) : Int) (bu ns) = gB 1 (bu ns) := rfl;rw [hc1] at hc;have hp := dw ns;unfold fE;rw [if_neg, if_neg Ky, if_neg (by rw [List.length_map]; omega), if_neg]
 ·rw [List.any_eq_true];rintro ⟨a, ha, hx⟩;obtain ⟨x, _, rfl⟩ := List.mem_map.1 ha;have : sn (nR x) = false := nA.2 (by rw [dK]);rw [this] at hx
  cases hx
 ·rw [cU, qM h2];rintro (h | h)
  ·omega
  ·cases h
end Go.Proofs.YtaapkaefelhfcaaGreatDoor
/- The walks through package bern: what is wrong with a form; ways to choose. -/
namespace Go.Proofs.YtaapkaefelhfcaaGreatDoor
open Go.RowKit
theorem dE (A : Option Addr) (n c : Nat) (ds : List Int) (w : World) (hS : Sl w A n 1 (bG ds)) (hn : n ≤ 1000000) :
  Calls Tryz.prog 117 #[.slice A n c] w fun r w' => r = .returned (.int .i64 (gB 1 ds)) ∧ Below w.heap.size w w' := by
 have hh := Hp.start w;have hln : ds.length = n := by have := hS.1; simpa [bG] using this
 refine al (N := 31) (l := [.slice A n c]) Tryz.func117 rfl rfl (by simp) ?_;refine sr (aI (aa (sr (aI (aa (ah (sr (mL (aW (mI (aa (aj ?_))))))))))));refine cv [2, 3, 5, 8, 9, 10, 11, 12, 13, 14, 15, 16, 17, 18, 19, 20, 21, 22, 23, 24, 25, 26, 27, 28, 29] 3 8
  (fun v3 v w' => ∃ (i : Nat) (q : Int), i ≤ n ∧ v = .int .i64 i ∧ v3 = .int .i64 q ∧ 1 ≤ q ∧ q ≤ 4096 ∧ gB 1 ds = gB q (ds.drop i) ∧ Hp w [] w')
  (fun _ v _ => n - (intOf v).toNat) ?_ ?_
 ·exact ⟨0, 1, Nat.zero_le _, rfl, rfl, Ky, Ky, rfl, hh⟩
 ·clear hh;rintro ρ' v3 v w' ⟨i, q, hi, rfl, rfl, hq1, hq2, hc, hh⟩;by_cases hlt : i < n
  ·obtain ⟨d, hd⟩ := ay (l := ds) (k := i) Ky;have hgi := cx hd;obtain ⟨ad, rfl, hr⟩ := hS.at_ Ky;rw [fN hd, gB] at hc;by_cases h1 : d < 0
   ·rw [if_pos (.inl h1)] at hc;refine sr ?_;refine aK (aa (ah (cT (ak (ai (ah (aj (sr ?_))))))));refine aD (k := i) aQ.out aF.size rfl rfl Ky Ky Kz ?_;refine aZ aF.out rfl ((hr.ext hh.below).fP hgi) Kz ?_;refine aI (aa (ah (sr (mI ?_))));refine aK (mB ?_);refine gS (gS ?_);refine e7 ?_;refine mB ?_;refine gS (gS (gS (gS (gS ?_))));refine e7 ?_;refine aa (cT (sr (aI (aa (ao (aG (bD (aG (aG (bD (aG ?_)))))))))));refine cq ?_;exact ⟨by rw [hc], hh.below⟩
   ·by_cases h2 : 127 < d
    ·rw [if_pos (.inr (.inl h2))] at hc;refine sr ?_;refine aK (aa (ah (cT (ak (ai (ah (aj (sr ?_))))))));refine aD (k := i) aQ.out aF.size rfl rfl Ky Ky Kz ?_;refine aZ aF.out rfl ((hr.ext hh.below).fP hgi) Kz ?_;refine aI (aa (ah (sr (mI ?_))));refine aK (mB (gT (mI (gT ?_))));refine ct ?_;refine eX ?_;refine mB ?_;refine gS (gS (gS (gS (gS ?_))));refine e7 ?_;refine aa (cT (sr (aI (aa (ao (aG (bD (aG (aG (bD (aG ?_)))))))))));refine cq ?_;exact ⟨by rw [hc], hh.below⟩
    ·have hm1 : 1 * 1 ≤ q * (d + 1) := Int.mul_le_mul hq1 Ky Kz Ky;have hm2 : q * (d + 1) ≤ 4096 * 128 := Int.mul_le_mul hq2 Ky Ky Kz;by_cases h3 : 4096 < q * (d + 1)
     ·rw [if_pos (.inr (.inr h3))] at hc;refine sr ?_;refine aK (aa (ah (cT (ak (ai (ah (aj (sr ?_))))))));refine aD (k := i) aQ.out aF.size rfl rfl Ky Ky Kz ?_;refine aZ aF.out rfl ((hr.ext hh.below).fP hgi) Kz ?_;refine aI (aa (ah (sr (mI ?_))));refine aK (mB (gT (mI (gT ?_))));refine ct ?_;refine eX ?_;refine mB (gT (mI (gT (mI (gT ?_)))));refine bB (gT ?_);refine mulC (gT ?_);refine ct ?_;refine eX ?_;refine aa (cT (sr (aI (aa (ao (aG (bD (aG (aG (bD (aG ?_)))))))))));refine cq ?_;exact ⟨by rw [hc], hh.below⟩
     ·rw [if_neg Ky] at hc;refine sr ?_;refine aK (aa (ah (cT (ak (ai (ah (aj (sr ?_))))))));refine aD (k := i) aQ.out aF.size rfl rfl Ky Ky Kz ?_;refine aZ aF.out rfl ((hr.ext hh.below).fP hgi) Kz ?_;refine aI (aa (ah (sr (mI ?_))));refine aK (mB (gT (mI (gT ?_))));refine ct ?_;refine eX ?_;refine mB (gT (mI (gT (mI (gT ?_)))));refine bB (gT ?_);refine mulC (gT ?_);refine ct ?_;refine eX ?_;refine aa (cF (ak (ai (aq (mI (mI ?_))))));refine bB ?_;refine mulC (aI (aE (aP (ai (aq ?_)))));refine bB (mI (aE (ai ?_)));refine ⟨⟨i + 1, _, Ky, rfl, rfl, Ky, Ky, hc, hh⟩, by show n - (i + 1) < n - i; omega, ?_⟩;exact KB
  ·rw [List.drop_of_length_le Ky] at hc;refine sr ?_;refine aK (aa (ah (cF (aJ (az (az (aX (ai (sr (mI (aI (aa (ao ?_)))))))))))));refine cq ?_;exact ⟨by rw [hc]; rfl, hh.below⟩
theorem yf (d : Int) (w : World) :
  Calls Tryz.prog 156 #[.int .i64 d] w fun r w' => r = .returned (.bool (!dk d)) ∧ Below w.heap.size w w' := by
 have hh := Hp.start w;by_cases h1 : d < 0
 ·refine al (N := 9) (l := [.int .i64 d]) Tryz.func156 rfl rfl (by simp) ?_;refine sr (aB (aa (sr (mI ?_))));refine aK (mB ?_);refine gS (gS ?_);refine e7 ?_;refine aB (aa (ao ?_));refine cq ?_;refine ⟨?_, hh.below⟩;unfold dk;rw [decide_eq_false (show ¬ 0 ≤ d by omega)]
  rfl
 ·by_cases h2 : 127 < d
  ·refine al (N := 9) (l := [.int .i64 d]) Tryz.func156 rfl rfl (by simp) ?_;refine sr (aB (aa (sr (mI ?_))));refine aK (mB (gT (mI (gT ?_))));refine ct ?_;refine eX ?_;refine aB (aa (ao ?_));refine cq ?_;refine ⟨?_, hh.below⟩;unfold dk;rw [decide_eq_false (show ¬ d ≤ 127 by omega), Bool.and_false]
   rfl
  ·refine al (N := 9) (l := [.int .i64 d]) Tryz.func156 rfl rfl (by simp) ?_;refine sr (aB (aa (sr (mI ?_))));refine aK (mB (gT (mI (gT ?_))));refine ct ?_;refine eX ?_;refine aB (aa (ao ?_));refine cq ?_;refine ⟨?_, hh.below⟩;unfold dk;rw [decide_eq_true (show 0 ≤ d by omega), decide_eq_true (show d ≤ 127 by omega)]
   rfl
theorem yt (a : NR) (w : World) (hT : eP w) (ha : a.ok) :
  Calls Tryz.prog 158 #[.agg #[.bool a.neg, .string a.cA, .int .i64 a.e]] w fun r w' => r = .returned (.bool (sn a)) ∧ Below w.heap.size w w' := by
 have hh := Hp.start w;have hf := fun w1 hT1 => eB a w1 hT1 (by have := ha.1; omega) (by have := ha.2; omega) (by have := ha.2; omega)
 cases hx : sn a with
 | false =>
  have he := nA.1 hx;refine al (N := 7) (l := [.agg #[.bool a.neg, .string a.cA, .int .i64 a.e]]) Tryz.func158 rfl rfl (by simp) ?_;refine sr ?_;refine db hh [_,_,_] ?_;intro b1 w1 hh;refine aB (aa (ah ?_));refine a8 3 [[(1, none)], [(3, some 0)], [(1, none)]] [(2, 5), (1, 4), (0, 3)] hh mixed KA ?_;refine gY 0 [_,_,_] ?_;refine dC (fun _ hj => hf _ (hT.hp hj.hp)) ?_;refine gY 0 [_,_,_] ?_;refine bA ?_;intro f W hJ hV;have hb_1 := hJ.bl;obtain ⟨v5, v4, v3, _⟩ := hV;replace hh := hJ.hp;refine bj (bC (ae v5 (ae v4 (ae v3 bh)))) ?_;dsimp only [cP];clear hJ;refine zU rfl rfl (by first | assumption | rfl) Kz ?_;refine aB (aa (ao ?_));refine cq ?_;exact ⟨rfl, hh.below⟩
 | true =>
  have he : ¬ nR a.d = a := fun h => by rw [nA.2 h] at hx; cases hx
  refine al (N := 7) (l := [.agg #[.bool a.neg, .string a.cA, .int .i64 a.e]]) Tryz.func158 rfl rfl (by simp) ?_;refine sr ?_;refine db hh [_,_,_] ?_;intro b1 w1 hh;refine aB (aa (ah ?_));refine a8 3 [[(1, none)], [(3, some 0)], [(1, none)]] [(2, 5), (1, 4), (0, 3)] hh mixed KA ?_;refine gY 0 [_,_,_] ?_;refine dC (fun _ hj => hf _ (hT.hp hj.hp)) ?_;refine gY 0 [_,_,_] ?_;refine bA ?_;intro f W hJ hV;have hb_1 := hJ.bl;obtain ⟨v5, v4, v3, _⟩ := hV;replace hh := hJ.hp;refine bj (bC (ae v5 (ae v4 (ae v3 bh)))) ?_;dsimp only [cP];clear hJ;refine Ge rfl rfl (by assumption) Kz ?_;refine aB (aa (ao ?_));refine cq ?_;exact ⟨rfl, hh.below⟩
theorem sy (A B : Option Addr) (n c m c2 : Nat) (ds : List Int) (cs : List NR) (w : World) (hT : eP w) (hS : Sl w A n 1 (bG ds)) (hS2 : Sl w B m 3 (aY NR.cells cs)) (hn : n ≤ 1000000) (hm : m ≤ 1000000) (hc : ∀ a ∈ cs, a.ok) :
  Calls Tryz.prog 60 #[.agg #[.slice A n c, .slice B m c2]] w fun r w' => r = .returned (.int .i64 (fE ds cs)) ∧ Below w.heap.size w w' := by
 have hh := Hp.start w;have hln : ds.length = n := by have := hS.1; simpa [bG] using this
 have hlm := hS2.bM NR.len Kz;have h1 := fun w1 hS1 => zp A n c ds 156 [] (fun d => !dk d) w1 hS1 hn (fun z w2 _ hb => yf z w2);have h2 := fun w1 (hT1 : eP w1) hS1 => yS B m c2 cs 158 [] sn w1 hS1 hm (fun z w2 hz hb => yt z w2 (hT1.ext hb) (hc z hz));have h3 := Ag ds 1 Ky Ky;unfold fE;by_cases g1 : 12 < n
 ·refine al (N := 29) (l := [.agg #[.slice A n c, .slice B m c2]]) Tryz.func60 rfl rfl (by simp) ?_;refine sr ?_;refine db hh [_,_] ?_;intro b1 w1 hh;refine aI (aa (ah (aj (sr (bP ?_)))));refine bR hh 0 ?_;refine aW ?_;refine ct (mB ?_);refine gS (gS ?_);refine cn Kz rfl rfl Kz ?_;refine e7 ?_;refine aB (aa (cT (sr (aI (aa (ao (bD (aG ?_))))))));refine cq ?_;exact ⟨by rw [if_pos (.inl Ky)], hh.below⟩
 ·cases g2 : ds.any (fun d => !dk d) with
  | true =>
   refine al (N := 29) (l := [.agg #[.slice A n c, .slice B m c2]]) Tryz.func60 rfl rfl (by simp) ?_;refine sr ?_;refine db hh [_,_] ?_;intro b1 w1 hh;refine aI (aa (ah (aj (sr (bP ?_)))));refine bR hh 0 ?_;refine aW ?_;refine ct (mB (gT (bP (gT ?_))));refine bR hh 0 ?_;refine aV rfl rfl ?_;refine bE hh (h1 _ (hS.ext hh.below)) rfl ?_;intro w11 hh;rw [g2];refine eX ?_;refine aB (aa (cT (sr (aI (aa (ao (bD (aG ?_))))))));refine cq ?_;exact ⟨by rw [if_pos (.inr rfl)], hh.below⟩
  | false =>
   rw [if_neg (fun h => h.elim (fun h => by omega) (fun h => by cases h))];by_cases g3 : gB 1 ds = 0
   ·refine al (N := 29) (l := [.agg #[.slice A n c, .slice B m c2]]) Tryz.func60 rfl rfl (by simp) ?_;refine sr ?_;refine db hh [_,_] ?_;intro b1 w1 hh;refine aI (aa (ah (aj (sr (bP ?_)))));refine bR hh 0 ?_;refine aW ?_;refine ct (mB (gT (bP (gT ?_))));refine bR hh 0 ?_;refine aV rfl rfl ?_;refine bE hh (h1 _ (hS.ext hh.below)) rfl ?_;intro w11 hh;rw [g2];refine eX ?_;refine aB (aa (cF (sr (bP ?_))));refine bR hh 0 ?_;refine bE hh (dE A n c ds _ (hS.ext hh.below) hn) rfl ?_;intro w16 hh;refine dh (aB (aa (cT (sr (aI (aa (ao (bD (aG ?_)))))))));refine cq ?_;exact ⟨by rw [if_pos g3], hh.below⟩
   ·rw [if_neg g3];by_cases g4 : (m : Int) = gB 1 ds
    ·rw [if_neg (show ¬ (cs.length : Int) ≠ gB 1 ds by omega)]
     cases g5 : cs.any sn with
     | true =>
      refine al (N := 29) (l := [.agg #[.slice A n c, .slice B m c2]]) Tryz.func60 rfl rfl (by simp) ?_;refine sr ?_;refine db hh [_,_] ?_;intro b1 w1 hh;refine aI (aa (ah (aj (sr (bP ?_)))));refine bR hh 0 ?_;refine aW ?_;refine ct (mB (gT (bP (gT ?_))));refine bR hh 0 ?_;refine aV rfl rfl ?_;refine bE hh (h1 _ (hS.ext hh.below)) rfl ?_;intro w11 hh;rw [g2];refine eX ?_;refine aB (aa (cF (sr (bP ?_))));refine bR hh 0 ?_;refine bE hh (dE A n c ds _ (hS.ext hh.below) hn) rfl ?_;intro w16 hh;refine dh (aB (aa (cF (ah ?_))));refine a8 6 [[(1, none)], [(19, some 0)], [(20, some 1)], [(1, none)], [(22, some 3)], [(23, some 4)]] [(5, 24), (4, 23), (3, 22), (2, 21), (1, 20), (0, 19)] hh mixed KA ?_;refine eA ?_;refine fQ 0 ?_;refine xp ?_;refine eA ?_;refine fQ 0 ?_;refine dC (fun _ hj => dE A n c ds _ (hS.ext hj.hp.below) hn) ?_;refine bA ?_;intro f W hJ hV;have hb_5 := hJ.bl;obtain ⟨v24, v23, v22, v21, v20, v19, _⟩ := hV;replace hh := hJ.hp;refine bj (bC (ae v24 (ae v23 (ae v22 (ae v21 (ae v20 (ae v19 bh))))))) ?_;dsimp only [cP];clear hJ;refine cL (aB (aa (cF (ak (aP (ai (ah (sr (bP ?_)))))))));refine bR hh 0 ?_;refine bE hh (h2 _ (hT.hp hh) (hS2.ext hh.below)) rfl ?_;intro w28 hh
      rw [g5];refine aa (cT (sr (aI (aa (ao (aG ?_))))));refine cq ?_;exact ⟨by rw [if_pos rfl], hh.below⟩
     | false =>
      refine al (N := 29) (l := [.agg #[.slice A n c, .slice B m c2]]) Tryz.func60 rfl rfl (by simp) ?_;refine sr ?_;refine db hh [_,_] ?_;intro b1 w1 hh;refine aI (aa (ah (aj (sr (bP ?_)))));refine bR hh 0 ?_;refine aW ?_;refine ct (mB (gT (bP (gT ?_))));refine bR hh 0 ?_;refine aV rfl rfl ?_;refine bE hh (h1 _ (hS.ext hh.below)) rfl ?_;intro w11 hh;rw [g2];refine eX ?_;refine aB (aa (cF (sr (bP ?_))));refine bR hh 0 ?_;refine bE hh (dE A n c ds _ (hS.ext hh.below) hn) rfl ?_;intro w16 hh;refine dh (aB (aa (cF (ah ?_))));refine a8 6 [[(1, none)], [(19, some 0)], [(20, some 1)], [(1, none)], [(22, some 3)], [(23, some 4)]] [(5, 24), (4, 23), (3, 22), (2, 21), (1, 20), (0, 19)] hh mixed KA ?_;refine eA ?_;refine fQ 0 ?_;refine xp ?_;refine eA ?_;refine fQ 0 ?_;refine dC (fun _ hj => dE A n c ds _ (hS.ext hj.hp.below) hn) ?_;refine bA ?_;intro f W hJ hV;have hb_5 := hJ.bl;obtain ⟨v24, v23, v22, v21, v20, v19, _⟩ := hV;replace hh := hJ.hp;refine bj (bC (ae v24 (ae v23 (ae v22 (ae v21 (ae v20 (ae v19 bh))))))) ?_;dsimp only [cP];clear hJ;refine cL (aB (aa (cF (ak (aP (ai (ah (sr (bP ?_)))))))));refine bR hh 0 ?_;refine bE hh (h2 _ (hT.hp hh) (hS2.ext hh.below)) rfl ?_;intro w28 hh
      rw [g5];refine aa (cF (ak (ai (sr (aI (aa (ao ?_)))))));refine cq ?_;exact ⟨by rw [if_neg Kz], hh.below⟩
    ·rw [if_pos (show (cs.length : Int) ≠ gB 1 ds by omega)];refine al (N := 29) (l := [.agg #[.slice A n c, .slice B m c2]]) Tryz.func60 rfl rfl (by simp) ?_;refine sr ?_;refine db hh [_,_] ?_;intro b1 w1 hh;refine aI (aa (ah (aj (sr (bP ?_)))));refine bR hh 0 ?_;refine aW ?_;refine ct (mB (gT (bP (gT ?_))));refine bR hh 0 ?_;refine aV rfl rfl ?_;refine bE hh (h1 _ (hS.ext hh.below)) rfl ?_;intro w11 hh;rw [g2];refine eX ?_;refine aB (aa (cF (sr (bP ?_))));refine bR hh 0 ?_;refine bE hh (dE A n c ds _ (hS.ext hh.below) hn) rfl ?_;intro w16 hh;refine dh (aB (aa (cF (ah ?_))));refine a8 6 [[(1, none)], [(19, some 0)], [(20, some 1)], [(1, none)], [(22, some 3)], [(23, some 4)]] [(5, 24), (4, 23), (3, 22), (2, 21), (1, 20), (0, 19)] hh mixed KA ?_;refine eA ?_;refine fQ 0 ?_;refine xp ?_;refine eA ?_;refine fQ 0 ?_;refine dC (fun _ hj => dE A n c ds _ (hS.ext hj.hp.below) hn) ?_;refine bA ?_;intro f W hJ hV;have hb_5 := hJ.bl;obtain ⟨v24, v23, v22, v21, v20, v19, _⟩ := hV;replace hh := hJ.hp;refine bj (bC (ae v24 (ae v23 (ae v22 (ae v21 (ae v20 (ae v19 bh))))))) ?_;dsimp only [cP];clear hJ;refine cL (aB (aa (cT (sr (aI (aa (ao (bD (aG ?_)))))))));refine cq ?_;exact ⟨rfl, hh.below⟩
end Go.Proofs.YtaapkaefelhfcaaGreatDoor
/- Plain laws: forms of greater degrees. No program in sight. -/
namespace Go.Proofs.YtaapkaefelhfcaaGreatDoor
def Hk : List Nat → List Nat → Bool
 | [], [] => true
 | d :: ds, r :: rs => decide (r ≤ d) && Hk ds rs
 | _, _ => false
theorem Ac : ∀ (ds rs : List Nat), Hk ds rs = true ↔ ju ds rs
 | [], [] => by simp [Hk, ju]
 | [], _ :: _ => by simp [Hk, ju]
 | _ :: _, [] => by simp [Hk, ju]
 | d :: ds, r :: rs => by rw [Hk, ju, Bool.and_eq_true, decide_eq_true_eq, Ac ds rs]
def co (ds : List Nat) (xs : List Dyadic) (row : List Nat) : Dyadic := if Hk ds row then (xs[dA ds row]?).getD 0 else 0
theorem Aa {ds : List Nat} {xs : List Dyadic} {row : List Nat} (h : ju ds row) : co ds xs row = (xs[dA ds row]?).getD 0 := by
 unfold co; rw [if_pos ((Ac _ _).2 h)]
theorem yO {ds : List Nat} {xs : List Dyadic} {p : Nat} (h : p < av ds) : co ds xs (bV ds p) = (xs[p]?).getD 0 := by
 rw [Aa (gN ds p), xC h]
theorem Hc {ds : List Nat} {xs ys : List Dyadic} (hx : xs.length = av ds) (hy : ys.length = av ds) (h : ∀ row, ju ds row → co ds xs row = co ds ys row) : xs = ys := by
 refine List.ext_getElem (by rw [hx, hy]) fun p h1 h2 => ?_;have h3 := h (bV ds p) (gN ds p);rw [yO Ky, yO Ky, List.getElem?_eq_getElem h1, List.getElem?_eq_getElem h2] at h3;exact h3
def dH : List Nat → List Nat → List Nat
 | a :: l, b :: m => (a + b) :: dH l m
 | _, _ => []
theorem p9 : ∀ {ds es rs js : List Nat}, ju ds rs → ju es js → ds.length = es.length → ju (dH ds es) (dH rs js)
 | [], [], [], [], _, _, _ => trivial
 | [], _ :: _, _, _, _, _, h => by simp at h
 | _ :: _, [], _, _, _, _, h => by simp at h
 | d :: ds, e :: es, r :: rs, j :: js, h1, h2, h3 => ⟨by have := h1.1; have := h2.1; omega, p9 h1.2 h2.2 (by simpa using h3)⟩
theorem xH : ∀ {a b : List Nat}, a.length = b.length → (dH a b).length = a.length
 | [], [], _ => rfl
 | _ :: a, _ :: b, h => by rw [dH, List.length_cons, List.length_cons, xH (by simpa using h)]
def Jm : (List Nat → Dyadic) → List Nat → List Nat → Dyadic
 | F, r :: rs, j :: js => if j ≤ r then Jm (fun t => F ((r - j) :: t)) rs js else 0
 | F, [], [] => F []
 | _, _, _ => 0
def GQ : List Nat → List Nat → Nat
 | m :: ms, j :: js => bin m j * GQ ms js
 | _, _ => 1
def JH : List Nat → (List Nat → Dyadic) → List Nat → Dyadic
 | m :: ms, F, r :: rs => sm (List.range (m + 1)) fun j => if j ≤ r then nD (bin m j) * JH ms (fun t => F ((r - j) :: t)) rs else 0
 | _, F, row => F row
def wy (ds es : List Nat) (xs ys : List Dyadic) : List (Nat × Dyadic) :=
 (List.range (av es)).flatMap fun k => (List.range (av ds)).map fun i => (dA (dH ds es) (dH (bV ds i) (bV es k)), (xs[i]?).getD 0 * (ys[k]?).getD 0)
theorem vC (n : Nat) (f : Nat → Dyadic) : sm (List.range (n + 1)) f = f 0 + sm (List.range n) fun j => f (j + 1) := by
 induction n with
 | zero => simp only [List.range_succ, List.range_zero, List.nil_append, sm]
 | succ n ih => rw [List.range_succ, jZ, ih, List.range_succ (n := n), jZ]; grind
def Jb (row : List Nat) (a : Nat) : List Nat := row.set a (row.getD a 0 - 1)
end Go.Proofs.YtaapkaefelhfcaaGreatDoor
/- The walks through package bern: ways to choose, weights. -/
namespace Go.Proofs.YtaapkaefelhfcaaGreatDoor
open Go.RowKit
def lg (n : Nat) : List NR := (pV n).map fun k => nR (nD k)
theorem D2 (n : Nat) : (lg n).length = n + 1 := by simp [lg, qJ]
theorem kU {n k : Nat} (h : k ≤ n) : (lg n)[k]? = some (nR (nD (bin n k))) := by
 unfold lg;rw [List.getElem?_map, uk h]
 rfl
theorem rR (n k : Nat) (h : n ≤ 127) : Sz 128 (nD (bin n k)) := GA (Nat.lt_of_le_of_lt (uq n k) (Nat.pow_lt_pow_right Kz Ky))
theorem mw (n : Nat) (w : World) (hT : eP w) (hn : n ≤ 127) :
  Calls Tryz.prog 162 #[.int .i64 n] w fun r w' => ∃ A c', r = .returned (.slice A (n + 1) c') ∧ w'.ownsRow w.heap.size 29 3 (.slice A (n + 1) c') (n + 1) (aY NR.cells (lg n)) ∧ Below w.heap.size w w' := by
 have hh := Hp.start w;refine al (N := 39) (l := [.int .i64 n]) Tryz.func162 rfl rfl (by simp) ?_;refine sr (aL (aa (sr ?_)));refine bE hh (jy 1 _ (hT.hp hh) Ky Ky) rfl ?_;intro w6 hh;refine aO hh (cs := [_, _, _]) aQ.out aF.out (aR (cJ rfl) bI) rfl rfl Kz Kz Kz rfl Kz ?_;intro b7 w7 hh;refine aL (aa (ah (sr (mI (mI (aa (aj ?_)))))));refine cv [3, 4, 5, 9, 10, 11, 12, 13, 14, 15, 16, 17, 18, 19, 20, 21, 22, 23, 24, 25, 26, 27, 28, 29, 30, 31, 32, 33, 34, 35, 36, 37] 3 9
  (fun v3 v w' => ∃ (i c3 : Nat) (A : Option Addr), i ≤ n ∧ v = .int .i64 i ∧ v3 = .slice A (i + 1) c3 ∧ Hp w [.row A (i + 1) c3 29 3 (aY NR.cells (lg i))] w')
  (fun _ v _ => n - (intOf v).toNat) ?_ ?_
 ·exact ⟨0, _, _, Nat.zero_le _, rfl, rfl, hh⟩
 ·clear hh;rintro ρ' v3 v w' ⟨i, c3, A, hi, rfl, rfl, hh⟩;by_cases hlt : i < n
  ·refine sr ?_;refine aK (aa (ah (cT (ak (ai (ah (aj (sr ?_))))))));refine bE hh (jy 1 _ (hT.hp hh) Ky Ky) rfl ?_;intro w11 hh;refine aO hh (cs := [_, _, _]) aQ.out aF.out (aR (cJ rfl) bI) rfl rfl Kz Kz Kz rfl Kz ?_;intro b12 w12 hh;refine aL (aa (ah (sr (aI (aa (aj ?_))))));refine cv [4, 5, 13, 14, 15, 16, 17, 18, 19, 20, 21, 22, 23, 24, 25, 26, 27, 28, 29, 30, 31, 32] 4 5
    (fun v4 v w' => ∃ (k c4 : Nat) (B : Option Addr), k ≤ i ∧ v = .int .i64 ((k + 1 : Nat) : Int) ∧ v4 = .slice B (k + 1) c4 ∧ Hp w [.row B (k + 1) c4 29 3 (aY NR.cells ((lg (i + 1)).take (k + 1))), .row A (i + 1) c3 29 3 (aY NR.cells (lg i))] w')
    (fun _ v _ => i + 1 - (intOf v).toNat) ?_ ?_
   ·refine ⟨0, _, _, Nat.zero_le _, rfl, rfl, ?_⟩;rw [show (lg (i + 1)).take (0 + 1) = [nR (nD 1)] by rw [aH (kU (Nat.zero_le _)), lX]; rfl];exact hh
   ·clear hh;rintro ρ2 v4 v w2 ⟨k, c4, B, hk, rfl, rfl, hh⟩;by_cases hlk : k < i
    ·have e1 := kU (n := i) (k := k) Ky;have e2 := kU (n := i) (k := k + 1) Ky;have e3 := kU (n := i + 1) (k := k + 1) Ky;have z1 := rR i k Ky;have z2 := rR i (k + 1) Ky;have hadd := fun A cc w1 hT1 hS1 => iK A 2 cc [nR (nD (bin i k)), nR (nD (bin i (k + 1)))] w1 hT1 hS1 (by simpa using ⟨z1.ok Ky, z2.ok Ky⟩) 128 (by simpa [dK] using ⟨z1, z2⟩) Ky;rw [show lv ([nR (nD (bin i k)), nR (nD (bin i (k + 1)))].map NR.d) = nD (bin (i + 1) (k + 1)) by simp only [List.map_cons, List.map_nil, dK, kn, bin, uH]] at hadd;obtain ⟨go, rfl⟩ := hh.dq (i := 1) rfl Ky;refine ah (sr (mI (mL (aW ?_))));refine aK (aa (cT (ak (ai (ah (aj ?_))))));refine a8 13 [[(4, none)], [(3, none)], [(5, none)], [(21, some 2)], [(20, some 1), (22, some 3)], [(23, some 4)], [(3, none)], [(5, none)], [(25, some 6), (26, some 7)], [(27, some 8)], [(24, some 5), (28, some 9)], [(29, some 10)], [(30, some 11)]] [(12, 31), (11, 30), (10, 29), (9, 28), (8, 27), (7, 26), (6, 25), (5, 24), (4, 23), (3, 22), (2, 21), (1, 20), (0, 19)] hh mixed KA ?_;refine jt ?_;refine jt ?_;refine fJ ?_;refine wB ?_;refine DF (k) ?_
     refine x6 [_,_,_] (fun _ hj => hj.hp.gO (f := NR.cells) (x := nR (nD (bin i k))) (l := lg i) (i := 1) rfl NR.len Kz e1) ?_;refine jt ?_;refine fJ ?_;refine DF ((k + 1)) ?_;refine x6 [_,_,_] (fun _ hj => hj.hp.gO (f := NR.cells) (x := nR (nD (bin i (k + 1)))) (l := lg i) (i := 1) rfl NR.len Kz e2) ?_;refine xw [_,_,_,_,_,_] ?_;refine cH (i := 11) (Is (.agg #[.bool (nR (nD (bin (i + 1) (k + 1)))).neg, .string (nR (nD (bin (i + 1) (k + 1)))).cA, .int .i64 (nR (nD (bin (i + 1) (k + 1)))).e])) Is.ext ?_ ?_
     ·intro ρ1 w1 hj hR;obtain ⟨A29, c29, h29, s29⟩ := hR.1;exact du rfl (bX aw.out (a7 h29 bQ)) (hadd A29 c29 _ (hT.hp hj.hp) s29) (fun _ _ hq => ⟨_, hq.1, hq.2, rfl⟩)
     refine xw [_,_,_] ?_;refine bA ?_;intro f W hJ hV;have hb_8 := hJ.bl;obtain ⟨v31, v30, v29, v28, v27, v26, v25, v24, v23, v22, v21, v20, v19, _⟩ := hV;obtain ⟨A29, c29, e29, f29⟩ : Rows _ _ _ (f 10) W := v29;obtain ⟨A31, c31, e31, f31⟩ : Rows _ _ _ (f 12) W := v31;replace hh := hJ.hp;refine bj (bC (ae e31 (ae v30 (ae e29 (ae v28 (ae v27 (ae v26 (ae v25 (ae v24 (ae v23 (ae v22 (ae v21 (ae v20 (ae v19 bh)))))))))))))) ?_;dsimp only [cP];clear e29 e31 hJ;refine cz hh (i := 0) rfl rfl rfl (f31) aQ.out aF.out rfl Kz (by first | rfl | exact cD _ | exact cm _ | exact bH _ | exact bO NR.one _) Ky Ky Kz ?_;intro A32 c32 w32 hh;simp only [List.set_cons_zero] at hh;refine aL (aE (aP (ai (aq (mI ?_)))));refine bB (aI (aE (ai ?_)));replace hh := hh.sub (List.Sublist.cons_cons _ (List.Sublist.cons_cons _ List.Sublist.slnil));refine ⟨⟨k + 1, c32, A32, Ky, rfl, rfl, ?_⟩, by show i + 1 - (k + 1 + 1) < i + 1 - (k + 1); omega, ?_⟩
     ·rw [aH e3, cK];exact hh
     ·exact KB
    ·obtain rfl : k = i := Ky;have e3 := kU (n := k + 1) (k := k + 1) (Nat.le_refl _);refine ah (sr (mI (mL (aW ?_))));refine aK (aa (cF (aJ (az (az (aX (ai (aq (mL ?_)))))))));refine bE hh (jy 1 _ (hT.hp hh) Ky Ky) rfl ?_;intro w34 hh;refine aO hh (cs := [_, _, _]) aQ.out aF.out (aR (cJ rfl) bI) rfl rfl Kz Kz Kz rfl Kz ?_;intro b35 w35 hh;refine cz hh (i := 1) rfl rfl rfl (hh.aM (i := 0) rfl) aQ.out aF.out rfl Kz (by first | rfl | exact cD _ | exact cm _ | exact bH _ | exact bO NR.one _) Ky Ky Kz ?_;intro A36 c36 w36 hh;simp only [List.set_cons_zero, List.set_cons_succ] at hh;replace hh := hh.sub (List.sublist_cons_self _ _);refine aL (aE (aP (ai (aq ?_))));refine bB (mI (aE (ai ?_)));replace hh := hh.sub (List.Sublist.cons_cons _ (List.Sublist.cons _ List.Sublist.slnil));refine ⟨⟨k + 1, c36, A36, Ky, rfl, rfl, ?_⟩, by show n - (k + 1) < n - k; omega, ?_⟩
     ·have e4 : lg (k + 1) = (lg (k + 1)).take (k + 1) ++ [nR (nD (bin (k + 1) (k + 1)))] := by
       rw [← aH e3, List.take_of_length_le (by rw [D2]; omega)]
      rw [e4, cK, wa];exact hh
     ·exact KB
  ·obtain rfl : i = n := Ky;refine sr ?_;refine aK (aa (ah (cF (aJ (az (az (aX (ai (sr (mL (aL (aa (ao ?_)))))))))))));refine cq ?_;exact ⟨_, _, rfl, hh.at_ (i := 0) rfl, hh.below⟩
def sJ (ds : List Nat) : List Nat := (List.range (av ds.reverse)).map fun p => GQ ds.reverse (bV ds.reverse p)
theorem CT (ds : List Nat) (d : Nat) : sJ (ds ++ [d]) = (sJ ds).flatMap fun x => (pV d).map (x * ·) := by
 have hl : ∀ a ∈ sJ ds, ((pV d).map (a * ·)).length = d + 1 := fun a _ => by rw [List.length_map, qJ]
 refine List.ext_getElem? fun p => ?_;rw [sf Ky _ _ _ hl];unfold sJ;rw [List.reverse_append, List.reverse_singleton, List.singleton_append];by_cases hp : p < av (d :: ds.reverse)
 ·have hq : p / (d + 1) < av ds.reverse := by rw [Nat.div_lt_iff_lt_mul Ky, Nat.mul_comm]; exact hp
  have hr : p % (d + 1) ≤ d := by have := Nat.mod_lt p (show 0 < d + 1 by omega); omega
  rw [List.getElem?_map, List.getElem?_range hp, List.getElem?_map, List.getElem?_range hq];simp only [Option.map_some, Option.bind_some, List.getElem?_map, uk hr, bV, GQ, Nat.mul_comm]
 ·have hq : ¬ p / (d + 1) < av ds.reverse := by rw [Nat.div_lt_iff_lt_mul Ky, Nat.mul_comm]; exact hp
  rw [List.getElem?_eq_none (by simp; omega), List.getElem?_eq_none (l := List.map _ _) (by simp; omega)]
  rfl
theorem AB (ds : List Nat) : (sJ ds).length = av ds := by simp [sJ, dr]
def DY (ds : List Nat) : List NR := (sJ ds).map fun k => nR (nD k)
end Go.Proofs.YtaapkaefelhfcaaGreatDoor
/- The walk through bern.Weights. -/
namespace Go.Proofs.YtaapkaefelhfcaaGreatDoor
open Go.RowKit
theorem CP : ∀ (ds row : List Nat), (∀ d ∈ ds, d ≤ 127) → GQ ds row ≤ 2 ^ (127 * ds.length)
 | [], _, _ => by show 1 ≤ 1; exact Nat.le_refl _
 | d :: ds, [], _ => by show 1 ≤ _; exact Nat.pow_pos Kz
 | d :: ds, r :: rs, h => by
  have h1 : bin d r ≤ 2 ^ 127 := Nat.le_trans (uq d r) (Nat.pow_le_pow_right Kz (h d List.mem_cons_self));have h2 := CP ds rs fun x hx => h x (List.mem_cons_of_mem _ hx);rw [GQ, List.length_cons, Nat.mul_succ, Nat.add_comm, Nat.pow_add];exact Nat.mul_le_mul h1 h2
theorem GZ {n m k : Nat} (h : n ≤ 2 ^ m) (hk : m < k) : Sz k (nD n) := GA (Nat.lt_of_le_of_lt h (Nat.pow_lt_pow_right Kz hk))
theorem DR {ds : List Nat} {x : Nat} (h : x ∈ sJ ds) (h1 : ds.length ≤ 12) (h2 : ∀ d ∈ ds, d ≤ 127) : Sz 1600 (nD x) := by
 obtain ⟨p, _, rfl⟩ := List.mem_map.1 h;have h3 := CP ds.reverse (bV ds.reverse p) fun d hd => h2 d (List.mem_reverse.1 hd);exact GZ h3 (by rw [List.length_reverse]; omega)
def E9 (ds : List Nat) (d j : Nat) : List Nat := ((sJ ds).take j).flatMap fun x => (pV d).map (x * ·)
theorem DL {ds : List Nat} {d j x : Nat} (h : (sJ ds)[j]? = some x) : E9 ds d (j + 1) = E9 ds d j ++ (pV d).map (x * ·) := by
 unfold E9;rw [aH h, List.flatMap_append, List.flatMap_singleton]
theorem r3 (A : Option Addr) (n c : Nat) (ns : List Nat) (w : World) (hT : eP w) (hS : Sl w A n 1 (bG (bu ns))) (h12 : ns.length ≤ 12) (hlow : ∀ d ∈ ns, d ≤ 127) (hmax : av ns ≤ 4096) :
  Calls Tryz.prog 64 #[.slice A n c] w fun r w' => ∃ B c', r = .returned (.slice B (av ns) c') ∧ w'.ownsRow w.heap.size 29 3 (.slice B (av ns) c') (av ns) (aY NR.cells (DY ns)) ∧ Below w.heap.size w w' := by
 have hh := Hp.start w;have hln : ns.length = n := by have := hS.1; simpa [bG, bu] using this
 have hc := jg ns 1 Kz Kz hlow;rw [Nat.one_mul, if_pos hmax] at hc;have hc1 : gB ((1 : Nat) : Int) (bu ns) = gB 1 (bu ns) := rfl;rw [hc1] at hc;have hpos := dw ns;have hcnt := fun w1 hS1 => dE A n c (bu ns) w1 hS1 Ky;rw [hc] at hcnt;refine al (N := 52) (l := [.slice A n c]) Tryz.func64 rfl rfl (by simp) ?_;refine sr (aL (aa (ah (sr (mL (aW ?_))))));refine ct (mB (gT (mL ?_)));refine aV rfl rfl ?_;refine bE hh (hcnt _ (hS.ext hh.below)) rfl ?_;intro w16 hh;refine gT ?_;refine dh ?_;refine eX ?_;refine aa (cF (ak (ai (sr ?_))));refine bE hh (jy 1 _ (hT.hp hh) Ky Ky) rfl ?_;intro w19 hh;refine aO hh (cs := [_, _, _]) aQ.out aF.out (aR (cJ rfl) bI) rfl rfl Kz Kz Kz rfl Kz ?_;intro b20 w20 hh;refine aL (aa (ah (sr (mL (aW (mI (aa (aj ?_))))))));refine cv [3, 5, 6, 8, 10, 23, 24, 25, 26, 27, 28, 29, 30, 31, 32, 33, 34, 35, 36, 37, 38, 39, 40, 41, 42, 43, 44, 45, 46, 47, 48, 49, 50] 3 23
  (fun v3 v w' => ∃ (i c3 : Nat) (B : Option Addr), i ≤ n ∧ v = .int .i64 i ∧ v3 = .slice B (av (ns.take i)) c3 ∧ Hp w [.row B (av (ns.take i)) c3 29 3 (aY NR.cells (DY (ns.take i)))] w')
  (fun _ v _ => n - (intOf v).toNat) ?_ ?_
 ·exact ⟨0, _, _, Nat.zero_le _, rfl, rfl, hh⟩
 ·clear hh;rintro ρ' v3 v w' ⟨i, c3, B, hi, rfl, rfl, hh⟩;by_cases hlt : i < n
  ·obtain ⟨d, hd⟩ := ay (l := ns) (k := i) Ky;have hgi := cx (eu hd);have hd127 := hlow d (List.mem_of_getElem? hd);have htl : (ns.take i).length ≤ 12 := by rw [List.length_take]; omega
   have htw : ∀ d ∈ ns.take i, d ≤ 127 := fun d hd => hlow d (List.mem_of_mem_take hd);have hct := fU ns (i + 1);have hct2 := fU ns i;have hstep : av (ns.take (i + 1)) = av (ns.take i) * (d + 1) := by rw [aH hd, dT]; simp [av]
   have hsnoc : DY (ns.take (i + 1)) = (E9 (ns.take i) d (av (ns.take i))).map fun k => nR (nD k) := by
    unfold DY E9;rw [aH hd, CT, List.take_of_length_le (l := sJ (ns.take i)) (by rw [AB]; exact Nat.le_refl _)]
   generalize hds : ns.take i = ds at *;generalize hN : av ds = N at *;obtain ⟨ad, rfl, hr⟩ := hS.at_ Ky;refine sr ?_;refine aK (aa (ah (cT (ak (ai (ah (aj (sr ?_))))))));refine aD (k := i) aQ.out aF.size rfl rfl Ky Ky Kz ?_;refine aZ aF.out rfl ((hr.ext hh.below).fP hgi) Kz ?_;refine aI (aa (sr (aL (aa (ah (sr (mL (aW (mI (aa (aj ?_)))))))))));replace hh := hh.ef 29 3;refine cv [6, 8, 10, 29, 30, 31, 32, 33, 34, 35, 36, 37, 38, 39, 40, 41, 42, 43, 44, 45, 46, 47, 48] 6 29
    (fun v6 v w' => ∃ (j c6 : Nat) (C : Option Addr), j ≤ N ∧ v = .int .i64 j ∧ v6 = .slice C (j * (d + 1)) c6 ∧ Hp w [.row C (j * (d + 1)) c6 29 3 (aY NR.cells ((E9 ds d j).map fun k => nR (nD k))), .row B N c3 29 3 (aY NR.cells (DY ds))] w')
    (fun _ v _ => N - (intOf v).toNat) ?_ ?_
   ·refine ⟨0, 0, none, Nat.zero_le _, rfl, ?_, ?_⟩
    ·rw [Nat.zero_mul]; rfl
    ·rw [Nat.zero_mul]; exact hh
   ·clear hh;rintro ρ2 v6 v w2 ⟨j, c6, C, hj, rfl, rfl, hh⟩;by_cases hjN : j < N
    ·obtain ⟨x, hx⟩ := ay (l := sJ ds) (k := j) (by rw [AB]; omega);have hx2 : (DY ds)[j]? = some (nR (nD x)) := by unfold DY; rw [List.getElem?_map, hx]; rfl
     have zx := DR (List.mem_of_getElem? hx) htl htw;have hj1 : (j + 1) * (d + 1) ≤ N * (d + 1) := Nat.mul_le_mul_right _ hjN;rw [Nat.succ_mul] at hj1;obtain ⟨go, rfl⟩ := hh.dq (i := 1) rfl Ky;refine sr ?_;refine aK (aa (ah (cT (ak (ai (ah (aj (sr ?_))))))));refine bf (k := j) aQ.out aF.size rfl rfl Ky Ky Kz ?_;refine bJ (vs := [_, _, _]) aF.out rfl (hh.gO (f := NR.cells) (x := nR (nD x)) (l := DY ds) (i := 1) rfl NR.len Kz hx2) rfl Kz ?_;refine cB hh ?_;intro b8 w8 hh;refine bK hh 0 [_,_,_] ?_;intro ws hh;replace hh : Hp _ (.blk _ _ [_, _, _] _ :: _) _ := hh;refine aa (sr (mI ?_));refine aN (mw d _ (hT.hp hh) hd127) aw.out rfl Kz ?_;rintro e_ w34 ⟨A34, c34, rfl, hown_, hb_⟩;refine ⟨_, rfl, ?_⟩;replace hh := hh.bz (x := .row _ _ _ _ _ _) hb_ hown_;refine aW (mI (aa (aj ?_)));refine cv [6, 10, 36, 37, 38, 39, 40, 41, 42, 43, 44, 45, 46, 47] 6 36
      (fun v6 v w' => ∃ (k c6 : Nat) (C : Option Addr), k ≤ d + 1 ∧ v = .int .i64 k ∧ v6 = .slice C (j * (d + 1) + k) c6 ∧ Hp w [.row A34 (d + 1) c34 29 3 (aY NR.cells (lg d)), .blk b8 29 [.bool (nR (nD x)).neg, .string (nR (nD x)).cA, .int .i64 (nR (nD x)).e] (0, 0), .row C (j * (d + 1) + k) c6 29 3 (aY NR.cells ((E9 ds d j ++ ((pV d).take k).map (x * ·)).map fun k => nR (nD k))), .row (some ⟨go, 0, none⟩) N c3 29 3 (aY NR.cells (DY ds))] w')
      (fun _ v _ => d + 1 - (intOf v).toNat) ?_ ?_
     ·refine ⟨0, c6, C, Nat.zero_le _, rfl, rfl, ?_⟩;rw [List.take_zero, List.map_nil, List.append_nil];exact hh
     ·clear hh;rintro ρ3 v6 v w3 ⟨k, c6, C, hk, rfl, rfl, hh⟩;by_cases hkd : k < d + 1
      ·have hb1 := uk (n := d) (k := k) Ky;have hb2 := kU (n := d) (k := k) Ky;have zb := rR d k hd127;have hmul := fun A cc w1 hT1 hS1 => jM A 2 cc [nR (nD x), nR (nD (bin d k))] w1 hT1 hS1 (by simpa using ⟨zx.ok Ky, zb.ok Ky⟩) 1600 (by simpa [dK] using ⟨zx, zb.mono Ky⟩) Ky Ky;rw [show jL ([nR (nD x), nR (nD (bin d k))].map NR.d) = nD (x * bin d k) by rw [D5]; show 1 * (nR (nD x)).d * (nR (nD (bin d k))).d = _; rw [dK, dK, Dyadic.one_mul]] at hmul;obtain ⟨ga, rfl⟩ := hh.dq (i := 0) rfl Ky;refine sr ?_;refine aK (aa (ah (cT (ak (ai (ah (aj (sr ?_))))))));refine bf (k := k) aQ.out aF.size rfl rfl Ky Ky Kz ?_;refine bJ (vs := [_, _, _]) aF.out rfl (hh.gO (f := NR.cells) (x := nR (nD (bin d k))) (l := lg d) (i := 0) rfl NR.len Kz hb2) rfl Kz ?_;refine cB hh ?_;intro b10 w10 hh;refine bK hh 0 [_,_,_] ?_;intro ws hh;replace hh : Hp _ (.blk _ _ [_, _, _] _ :: _) _ := hh;refine aa (aq (mL ?_));refine cR hh 2 [_,_,_] ?_;refine cR hh 0 [_,_,_] ?_;refine aO hh (cs := [_, _, _, _, _, _]) aQ.out aF.out (aR (cJ rfl) (aR (cJ rfl) bI)) rfl rfl Kz Kz Kz rfl Kz ?_;intro b43 w43 hh;refine bE hh (hmul _ _ _ (hT.hp hh) (hh.aM (i := 0) rfl)) rfl ?_;intro w44 hh
       refine aO hh (cs := [_, _, _]) aQ.out aF.out (aR (cJ rfl) bI) rfl rfl Kz Kz Kz rfl Kz ?_;intro b45 w45 hh;refine cz hh (i := 5) rfl rfl rfl (hh.aM (i := 0) rfl) aQ.out aF.out rfl Kz (by first | rfl | exact cD _ | exact cm _ | exact bH _ | exact bO NR.one _) Ky Ky Kz ?_;intro A46 c46 w46 hh;simp only [List.set_cons_zero, List.set_cons_succ] at hh;replace hh := hh.sub (List.sublist_cons_self _ _);refine aL (aE (aP (ai (aq ?_))));refine bB (mI (aE (ai ?_)));replace hh := hh.sub (List.Sublist.cons _ (List.Sublist.cons _ (List.Sublist.cons_cons _ (List.Sublist.cons_cons _ (List.Sublist.cons_cons _ (List.Sublist.cons_cons _ List.Sublist.slnil))))));refine ⟨⟨k + 1, c46, A46, Ky, rfl, rfl, ?_⟩, by show d + 1 - (k + 1) < d + 1 - k; omega, ?_⟩
       ·have e : (E9 ds d j ++ ((pV d).take (k + 1)).map (x * ·)).map (fun k => nR (nD k)) = (E9 ds d j ++ ((pV d).take k).map (x * ·)).map (fun k => nR (nD k)) ++ [nR (nD (x * bin d k))] := by rw [aH hb1]; simp
        rw [e, cK];exact hh
       ·exact KB
      ·obtain rfl : k = d + 1 := Ky;rw [List.take_of_length_le (by rw [qJ]; omega), ← DL hx] at hh;refine sr ?_;refine aK (aa (ah (cF (aJ (az (az (aX (aP (ai (aq ?_))))))))));refine bB (mI (aE (ai ?_)));replace hh := hh.sub (List.Sublist.cons _ (List.Sublist.cons _ (List.Sublist.cons_cons _ (List.Sublist.cons_cons _ List.Sublist.slnil))));refine ⟨⟨j + 1, c6, C, Ky, rfl, ?_, ?_⟩, by show N - (j + 1) < N - j; omega, ?_⟩
       ·rw [Nat.succ_mul]; rfl
       ·rw [Nat.succ_mul]; exact hh
       ·exact KB
    ·obtain rfl : j = N := Ky;rw [← hsnoc, ← hstep] at hh;rw [← hstep];refine sr ?_;refine aK (aa (ah (cF (aJ (az (az (aX (ai (aq (mL (aL (aE (aP (ai (aq ?_)))))))))))))));refine bB (mI (aE (ai ?_)));replace hh := hh.sub (List.Sublist.cons_cons _ (List.Sublist.cons _ List.Sublist.slnil));refine ⟨⟨i + 1, c6, C, Ky, rfl, rfl, hh⟩, by show n - (i + 1) < n - i; omega, ?_⟩;exact KB
  ·obtain rfl : i = n := Ky;rw [List.take_of_length_le Ky] at hh ⊢;refine sr ?_;refine aK (aa (ah (cF (aJ (az (az (aX (ai (sr (mL (aL (aa (ao ?_)))))))))))));refine cq ?_;exact ⟨_, _, rfl, hh.at_ (i := 0) rfl, hh.below⟩
end Go.Proofs.YtaapkaefelhfcaaGreatDoor
/- Plain laws: values of forms. No program in sight. -/
namespace Go.Proofs.YtaapkaefelhfcaaGreatDoor
def kL (d r : Nat) (t : Dyadic) : Dyadic := t ^ r * (1 - t) ^ (d - r)
def lf : List Nat → List Nat → List Dyadic → Dyadic
 | d :: ds, r :: rs, t :: ts => kL d r t * lf ds rs ts
 | _, _, _ => 1
def jo (ds : List Nat) (xs : List Dyadic) (ts : List Dyadic) : Dyadic := sm (List.range (av ds)) fun p => (xs[p]?).getD 0 * lf ds (bV ds p) ts
def Ii (d : Nat) (t : Dyadic) (m : Nat) (xs : List Dyadic) : List Dyadic := (List.range m).map fun q => sm (List.range (d + 1)) fun r => (xs[r + (d + 1) * q]?).getD 0 * kL d r t
def H5 : List Nat → List Dyadic → List Dyadic → List Dyadic
 | d :: ds, t :: ts, xs => H5 ds ts (Ii d t (av ds) xs)
 | _, _, xs => xs
theorem mb (t : Dyadic) (a b : Nat) : t ^ (a + b) = t ^ a * t ^ b := by
 induction b with
 | zero => rw [Nat.add_zero]; grind
 | succ b ih => rw [← Nat.add_assoc]; grind
theorem DU {d e a b : Nat} (t : Dyadic) (h1 : a ≤ d) (h2 : b ≤ e) : kL (d + e) (a + b) t = kL d a t * kL e b t := by
 unfold kL;rw [show d + e - (a + b) = (d - a) + (e - b) by omega, mb, mb];grind
theorem wG : ∀ {ds es rs js : List Nat} (ts : List Dyadic), ju ds rs → ju es js → ds.length = es.length → lf (dH ds es) (dH rs js) ts = lf ds rs ts * lf es js ts
 | [], [], [], [], _, _, _, _ => by show (1 : Dyadic) = 1 * 1; grind
 | [], _ :: _, _, _, _, _, _, h => by simp at h
 | _ :: _, [], _, _, _, _, _, h => by simp at h
 | d :: ds, e :: es, r :: rs, j :: js, [], _, _, _ => by show (1 : Dyadic) = 1 * 1; grind
 | d :: ds, e :: es, r :: rs, j :: js, t :: ts, h1, h2, h3 => by
  rw [dH, dH, lf, lf, lf, DU t h1.1 h2.1, wG ts h1.2 h2.2 (by simpa using h3)];grind
theorem F6 {N : Nat} (L : List (Nat × Dyadic)) (g : Nat → Dyadic) (h : ∀ q ∈ L, q.1 < N) : sm (List.range N) (fun p => ((gR N L)[p]?).getD 0 * g p) = sm L fun q => q.2 * g q.1 := by
 have e1 : sm (List.range N) (fun p => ((gR N L)[p]?).getD 0 * g p) = sm (List.range N) fun p => sm L fun q => if p = q.1 then q.2 * g q.1 else 0 := by
  refine bZ fun p hp => ?_;rw [kR _ (List.mem_range.1 hp), Option.getD_some, ← kd];refine bZ fun q _ => ?_;by_cases hq : q.1 = p
  ·subst hq; rw [if_pos rfl, if_pos rfl]
  ·rw [if_neg hq, if_neg fun e => hq e.symm]; grind
 rw [e1, n9];refine bZ fun q hq => ?_;rw [kX, if_pos (h q hq)]
theorem Df {ds es : List Nat} {xs ys : List Dyadic} (hl : ds.length = es.length) : ∀ q ∈ wy ds es xs ys, q.1 < av (dH ds es) := fun q hq => by
 unfold wy at hq;obtain ⟨k, _, hq⟩ := List.mem_flatMap.1 hq;obtain ⟨i, _, rfl⟩ := List.mem_map.1 hq;exact jx (p9 (gN _ _) (gN _ _) hl)
theorem EI {ds es : List Nat} {xs ys ts : List Dyadic} (hl : ds.length = es.length) : jo (dH ds es) (gR (av (dH ds es)) (wy ds es xs ys)) ts = jo ds xs ts * jo es ys ts := by
 unfold jo;rw [F6 _ (fun p => lf (dH ds es) (bV (dH ds es) p) ts) (Df hl)];unfold wy;rw [yp, ← gF];refine bZ fun k _ => ?_;rw [oV, ← kd];refine bZ fun i _ => ?_;rw [gK (p9 (gN _ _) (gN _ _) hl), wG ts (gN _ _) (gN _ _) hl];grind
theorem CR (n : Nat) (a b : Dyadic) : sm (List.range (n + 1)) (fun k => nD (bin n k) * a ^ k * b ^ (n - k)) = (a + b) ^ n := by
 induction n with
 | zero => show nD 1 * a ^ 0 * b ^ 0 + 0 = (a + b) ^ 0; rw [rE]; grind
 | succ n ih =>
  have e2 : ∀ k, nD (bin (n + 1) (k + 1)) * a ^ (k + 1) * b ^ (n + 1 - (k + 1)) = nD (bin n k) * a ^ k * b ^ (n - k) * a + nD (bin n (k + 1)) * a ^ (k + 1) * b ^ (n - k) := fun k => by
   rw [bin, uH, show n + 1 - (k + 1) = n - k by omega];grind
  rw [vC, bZ (g := fun k => nD (bin n k) * a ^ k * b ^ (n - k) * a + nD (bin n (k + 1)) * a ^ (k + 1) * b ^ (n - k)) fun k _ => e2 k, xT, kd, ih, lX];have e3 : sm (List.range (n + 1)) (fun k => nD (bin n (k + 1)) * a ^ (k + 1) * b ^ (n - k)) = sm (List.range n) (fun k => nD (bin n (k + 1)) * a ^ (k + 1) * b ^ (n - (k + 1))) * b := by
   rw [List.range_succ, jZ, qe (show n < n + 1 by omega), zA, ← kd];have : ∀ x y : Dyadic, x + 0 * y * b ^ (n - n) = x := fun x y => by grind
   rw [this];refine bZ fun k hk => ?_;have hk2 := List.mem_range.1 hk;rw [show n - k = (n - (k + 1)) + 1 by omega];grind
  have e4 : (a + b) ^ n = nD 1 * a ^ 0 * b ^ (n - 0) + sm (List.range n) (fun k => nD (bin n (k + 1)) * a ^ (k + 1) * b ^ (n - (k + 1))) := by
   rw [← ih, vC, lX]
  rw [e3];have e5 : (a + b) ^ (n + 1) = (a + b) ^ n * a + (a + b) ^ n * b := by grind
  rw [e5];generalize hS : sm (List.range n) (fun k => nD (bin n (k + 1)) * a ^ (k + 1) * b ^ (n - (k + 1))) = S at *;rw [e4, show n + 1 - 0 = n + 1 by omega, show n - 0 = n by omega, rE];grind
theorem AF : ∀ (ds : List Nat) (ts : List Dyadic), ts.length = ds.length → sm (List.range (av ds)) (fun p => nD (GQ ds (bV ds p)) * lf ds (bV ds p) ts) = 1
 | [], [], _ => by show nD 1 * 1 + 0 = 1; rw [rE]; grind
 | d :: ds, t :: ts, h => by
  have ih := AF ds ts (by simpa using h);rw [uF, bZ (g := fun q => (nD (GQ ds (bV ds q)) * lf ds (bV ds q) ts) * 1) fun q _ => ?_]
  ·rw [kd, ih]; grind
  ·have hb := CR d t (1 - t);rw [show t + (1 - t) = (1 : Dyadic) by grind] at hb;have h1 : (1 : Dyadic) ^ d = 1 := by
    clear hb ih
    induction d with
    | zero => grind
    | succ d ih => grind
   rw [h1] at hb;rw [← hb, ← gF];refine bZ fun r hr => ?_;have hr2 := List.mem_range.1 hr;rw [bV, Nat.add_mul_mod_self_left, Nat.mod_eq_of_lt hr2, Nat.add_mul_div_left _ _ Ky, Nat.div_eq_of_lt hr2, Nat.zero_add, lf, GQ, D5, kL];grind
end Go.Proofs.YtaapkaefelhfcaaGreatDoor
/- Plain laws: forms changed along an axis; both parts of a form that is cut. No program in sight. -/
namespace Go.Proofs.YtaapkaefelhfcaaGreatDoor
def sR : List Nat → (List Nat → Dyadic) → Dyadic
 | [], F => F []
 | d :: ds, F => sm (List.range (d + 1)) fun r => sR ds fun row => F (r :: row)
def jk (ds : List Nat) (a : Nat) (M : Nat → Nat → Dyadic) (xs : List Dyadic) : List Dyadic :=
 (List.range (av ds)).map fun p => sm (List.range (ds.getD a 0 + 1)) fun i => co ds xs ((bV ds p).set a i) * M i ((bV ds p).getD a 0)
theorem qP (ds : List Nat) (a : Nat) (M : Nat → Nat → Dyadic) (xs : List Dyadic) : (jk ds a M xs).length = av ds := by simp [jk]
theorem BV {ds row : List Nat} (a : Nat) (M : Nat → Nat → Dyadic) (xs : List Dyadic) (h : ju ds row) : co ds (jk ds a M xs) row = sm (List.range (ds.getD a 0 + 1)) fun i => co ds xs (row.set a i) * M i (row.getD a 0) := by
 rw [Aa h];unfold jk;rw [List.getElem?_map, List.getElem?_range (jx h)];simp only [Option.map_some, Option.getD_some, gK h]
theorem zK : ∀ {ds row : List Nat} {a i : Nat}, ju ds row → i ≤ ds.getD a 0 → ju ds (row.set a i)
 | [], [], _, _, _, _ => trivial
 | d :: ds, r :: rs, 0, i, h, hi => ⟨hi, h.2⟩
 | d :: ds, r :: rs, a + 1, i, h, hi => ⟨h.1, zK (a := a) h.2 (by simpa using hi)⟩
def Ji (d : Nat) (s : Dyadic) (i k : Nat) : Dyadic := if k < i then 0 else nD (bin (d - i) (k - i)) * s ^ i * (1 - s) ^ (k - i)
def Jd (d : Nat) (s : Dyadic) (i k : Nat) : Dyadic := if i < k then 0 else nD (bin i (i - k)) * s ^ (i - k) * (1 - s) ^ (d - i)
theorem GV (d i : Nat) (hi : i ≤ d) (f : Nat → Dyadic) : sm (List.range (d + 1)) (fun k => if k < i then 0 else f (k - i)) = sm (List.range (d - i + 1)) f := by
 obtain ⟨m, rfl⟩ : ∃ m, d = i + m := ⟨d - i, Ky⟩;rw [show i + m - i + 1 = m + 1 by omega, show i + m + 1 = i + (m + 1) by omega, List.range_add, kB, oV, pX fun k hk => by rw [if_pos (List.mem_range.1 hk)]];have : ∀ x : Dyadic, 0 + x = x := fun x => by grind
 rw [this];exact bZ fun k _ => by rw [if_neg Ky, Nat.add_sub_cancel_left]
end Go.Proofs.YtaapkaefelhfcaaGreatDoor
/- Plain laws: the lines of a form along an axis, by places. No program in sight. -/
namespace Go.Proofs.YtaapkaefelhfcaaGreatDoor
theorem pE : ∀ {A B x y : List Nat}, x.length = A.length → dA (A ++ B) (x ++ y) = dA A x + av A * dA B y
 | [], B, [], y, _ => by rw [List.nil_append, List.nil_append, av, Nat.one_mul]; show _ = 0 + _; rw [Nat.zero_add]
 | d :: A, B, r :: x, y, h => by
  rw [List.cons_append, List.cons_append, dA, dA, av, pE (by simpa using h), Nat.mul_add, Nat.mul_assoc, Nat.add_assoc]
theorem pz : ∀ (A B : List Nat) (p : Nat), bV (A ++ B) p = bV A p ++ bV B (p / av A)
 | [], B, p => by rw [List.nil_append, av, Nat.div_one]; rfl
 | d :: A, B, p => by rw [List.cons_append, bV, bV, pz A B, av, Nat.div_div_eq_div_mul]; rfl
theorem xE : ∀ (A : List Nat) (f q : Nat), bV A (f + av A * q) = bV A f
 | [], _, _ => rfl
 | d :: A, f, q => by
  rw [bV, bV, av, Nat.mul_assoc, Nat.add_mul_mod_self_left, Nat.add_mul_div_left _ _ Ky, xE A]
section
variable {A B : List Nat} {d : Nat}
def dy (A : List Nat) (d f k q : Nat) : Nat := f + av A * (k + (d + 1) * q)
theorem rz {f k q : Nat} (hf : f < av A) (hk : k ≤ d) (hq : q < av B) : dy A d f k q < av (A ++ d :: B) := by
 rw [dT, av, dy];have h1 : k + (d + 1) * q + 1 ≤ (d + 1) * av B := by
  have : (d + 1) * (q + 1) ≤ (d + 1) * av B := Nat.mul_le_mul_left _ hq;rw [Nat.mul_succ] at this;omega
 have h2 := Nat.mul_le_mul_left (av A) h1;rw [Nat.mul_succ] at h2;omega
theorem tV {f k q : Nat} (hf : f < av A) (hk : k ≤ d) : bV (A ++ d :: B) (dy A d f k q) = bV A f ++ k :: bV B q := by
 unfold dy;rw [pz, xE, Nat.add_mul_div_left _ _ (dw A), Nat.div_eq_of_lt hf, Nat.zero_add, bV, Nat.add_mul_mod_self_left, Nat.mod_eq_of_lt Ky, Nat.add_mul_div_left _ _ Ky, Nat.div_eq_of_lt Ky, Nat.zero_add]
theorem y3 {p : Nat} (h : p < av (A ++ d :: B)) : ∃ f k q, f < av A ∧ k ≤ d ∧ q < av B ∧ p = dy A d f k q := by
 rw [dT, av] at h;have hA := dw A;refine ⟨p % av A, p / av A % (d + 1), p / av A / (d + 1), Nat.mod_lt _ hA, by have := Nat.mod_lt (p / av A) (show 0 < d + 1 by omega); omega, ?_, ?_⟩
 ·rw [Nat.div_lt_iff_lt_mul Ky, Nat.div_lt_iff_lt_mul hA, Nat.mul_comm, Nat.mul_comm (av B)];exact h
 ·unfold dy;rw [Nat.mod_add_div, Nat.mod_add_div]
theorem wM (x y : List Nat) (k : Nat) : (x ++ k :: y).getD x.length 0 = k := by
 rw [List.getD_eq_getElem?_getD, List.getElem?_append_right (Nat.le_refl _), Nat.sub_self]
 rfl
theorem yx (x y : List Nat) (k i : Nat) : (x ++ k :: y).set x.length i = x ++ i :: y := by
 rw [List.set_append_right _ _ (Nat.le_refl _), Nat.sub_self, List.set_cons_zero]
def fp (A : List Nat) (d : Nat) (xs : List Dyadic) (f q : Nat) : List Dyadic := (List.range (d + 1)).map fun i => (xs[dy A d f i q]?).getD 0
theorem CO {f k q : Nat} (M : Nat → Nat → Dyadic) (xs : List Dyadic) (hf : f < av A) (hk : k ≤ d) (hq : q < av B) :
  (jk (A ++ d :: B) A.length M xs)[dy A d f k q]? = some (sm (List.range (d + 1)) fun i => (xs[dy A d f i q]?).getD 0 * M i k) := by
 have hp := rz (B := B) hf hk hq;unfold jk;rw [List.getElem?_map, List.getElem?_range hp];simp only [Option.map_some];rw [tV hf hk, wM];have hl := lE A f;rw [show ((bV A f ++ k :: bV B q).getD A.length 0) = k by rw [← hl]; exact wM _ _ _];congr 1;refine bZ fun i hi => ?_;have hi2 : i ≤ d := by have := List.mem_range.1 hi; omega
 rw [show (bV A f ++ k :: bV B q).set A.length i = bV A f ++ i :: bV B q by rw [← hl]; exact yx _ _ _ _, ← tV (B := B) hf hi2, yO (rz hf hi2 hq)]
end
end Go.Proofs.YtaapkaefelhfcaaGreatDoor
/- The walks through package lift: sizes, places. -/
namespace Go.Proofs.YtaapkaefelhfcaaGreatDoor
open Go.RowKit
theorem vD (A : Option Addr) (n c : Nat) (ns : List Nat) (w : World) (hS : Sl w A n 1 (bG (bu ns))) (hn : n ≤ 1000) (hlow : ∀ d ∈ ns, d ≤ 255) (hmax : av ns ≤ 1000000) :
  Calls Tryz.prog 201 #[.slice A n c] w fun r w' => r = .returned (.int .i64 (av ns : Nat)) ∧ Below w.heap.size w w' := by
 have hh := Hp.start w;have hln : ns.length = n := by have := hS.1; simpa [bG, bu] using this
 refine al (N := 18) (l := [.slice A n c]) Tryz.func201 rfl rfl (by simp) ?_;refine sr (aI (aa (sr (aI (aa (ah (sr (mL (aW (mI (aa (aj ?_))))))))))));refine cv [3, 5, 8, 9, 10, 11, 12, 13, 14, 15, 16] 3 8
  (fun v3 v w' => ∃ i : Nat, i ≤ n ∧ v = .int .i64 i ∧ v3 = .int .i64 (av (ns.take i) : Nat) ∧ Hp w [] w')
  (fun _ v _ => n - (intOf v).toNat) ?_ ?_
 ·exact ⟨0, Nat.zero_le _, rfl, rfl, hh⟩
 ·clear hh;rintro ρ' v3 v w' ⟨i, hi, rfl, rfl, hh⟩;by_cases hlt : i < n
  ·obtain ⟨d, hd⟩ := ay (l := ns) (k := i) Ky;have hgi := cx (eu hd);have hd2 := hlow d (List.mem_of_getElem? hd);obtain ⟨ad, rfl, hr⟩ := hS.at_ Ky;have hct := fU ns (i + 1);have hct2 := fU ns i;have hstep : av (ns.take (i + 1)) = av (ns.take i) * (d + 1) := by rw [aH hd, dT]; simp [av]
   have e1 : ((av (ns.take i) : Nat) : Int) * ((d : Int) + 1) = ((av (ns.take (i + 1)) : Nat) : Int) := by rw [hstep, Int.natCast_mul, Int.natCast_add]; rfl
   refine sr ?_;refine aK (aa (ah (cT (ak (ai (ah (aj (sr ?_))))))));refine aD (k := i) aQ.out aF.size rfl rfl Ky Ky Kz ?_;refine aZ aF.out rfl ((hr.ext hh.below).fP hgi) Kz ?_;refine aI (aa (aq (mI (mI ?_))));refine bB ?_;refine mulC (aI (aE (aP (ai (aq ?_)))));refine bB (mI (aE (ai ?_)));rw [e1];refine ⟨⟨i + 1, Ky, rfl, rfl, hh⟩, by show n - (i + 1) < n - i; omega, ?_⟩;exact KB
  ·refine sr ?_;refine aK (aa (ah (cF (aJ (az (az (aX (ai (sr (mI (aI (aa (ao ?_)))))))))))));refine cq ?_;rw [List.take_of_length_le Ky];exact ⟨rfl, hh.below⟩
def pT (ns : List Nat) : Bool := ns.any (fun d => decide (127 < d)) || decide (4096 < av ns)
theorem qN (A : Option Addr) (n c : Nat) (ns : List Nat) (w : World) (hS : Sl w A n 1 (bG (bu ns))) (hn : n ≤ 1000) (hlow : ∀ d ∈ ns, d ≤ 1000) :
  Calls Tryz.prog 121 #[.slice A n c] w fun r w' => r = .returned (.bool (pT ns)) ∧ Below w.heap.size w w' := by
 have hh := Hp.start w;have hln : ns.length = n := by have := hS.1; simpa [bG, bu] using this
 refine al (N := 26) (l := [.slice A n c]) Tryz.func121 rfl rfl (by simp) ?_;refine sr (aB (aa (sr (aI (aa (ah (sr (mL (aW (mI (aa (aj ?_))))))))))));refine cv [2, 3, 5, 8, 9, 10, 11, 12, 13, 14, 15, 16, 17, 18, 19, 20, 21, 22, 23, 24, 25] 3 8
  (fun v3 v w' => ∃ i : Nat, i ≤ n ∧ v = .int .i64 i ∧ v3 = .int .i64 (av (ns.take i) : Nat) ∧ av (ns.take i) ≤ 4096 ∧ (ns.take i).any (fun d => decide (127 < d)) = false ∧ Hp w [] w')
  (fun _ v _ => n - (intOf v).toNat) ?_ ?_
 ·exact ⟨0, Nat.zero_le _, rfl, rfl, by show 1 ≤ 4096; decide, rfl, hh⟩
 ·clear hh;rintro ρ' v3 v w' ⟨i, hi, rfl, rfl, hmx, hall, hh⟩;by_cases hlt : i < n
  ·obtain ⟨d, hd⟩ := ay (l := ns) (k := i) Ky;have hgi := cx (eu hd);have hd2 := hlow d (List.mem_of_getElem? hd);obtain ⟨ad, rfl, hr⟩ := hS.at_ Ky;have hct := fU ns (i + 1);have hstep : av (ns.take (i + 1)) = av (ns.take i) * (d + 1) := by rw [aH hd, dT]; simp [av]
   have hpb : av (ns.take i) * (d + 1) ≤ 4096 * 1001 := Nat.mul_le_mul hmx Ky;have e1 : ((av (ns.take i) : Nat) : Int) * ((d : Int) + 1) = ((av (ns.take (i + 1)) : Nat) : Int) := by rw [hstep, Int.natCast_mul, Int.natCast_add]; rfl
   by_cases h1 : 127 < d
   ·refine sr ?_;refine aK (aa (ah (cT (ak (ai (ah (aj (sr ?_))))))));refine aD (k := i) aQ.out aF.size rfl rfl Ky Ky Kz ?_;refine aZ aF.out rfl ((hr.ext hh.below).fP hgi) Kz ?_;refine aI (aa (ah (sr (mI ?_))));refine ct (mB ?_);refine gS (gS (gS (gS (gS ?_))));refine e7 ?_;refine aa (cT (sr (aB (aa (ao (aG (bD (aG (aG (bD (aG ?_)))))))))));refine cq ?_;refine ⟨?_, hh.below⟩;unfold pT;rw [List.any_eq_true.2 ⟨d, List.mem_of_getElem? hd, decide_eq_true h1⟩]
    rfl
   ·by_cases h2 : 4096 < av (ns.take (i + 1))
    ·refine sr ?_;refine aK (aa (ah (cT (ak (ai (ah (aj (sr ?_))))))));refine aD (k := i) aQ.out aF.size rfl rfl Ky Ky Kz ?_;refine aZ aF.out rfl ((hr.ext hh.below).fP hgi) Kz ?_;refine aI (aa (ah (sr (mI ?_))));refine ct (mB (gT (mI (gT (mI (gT ?_))))));refine bB (gT ?_);refine mulC (gT ?_);refine ct ?_;refine eX ?_;refine aa (cT (sr (aB (aa (ao (aG (bD (aG (aG (bD (aG ?_)))))))))));refine cq ?_;refine ⟨?_, hh.below⟩;unfold pT;rw [decide_eq_true (show 4096 < av ns by omega), Bool.or_true]
    ·refine sr ?_;refine aK (aa (ah (cT (ak (ai (ah (aj (sr ?_))))))));refine aD (k := i) aQ.out aF.size rfl rfl Ky Ky Kz ?_;refine aZ aF.out rfl ((hr.ext hh.below).fP hgi) Kz ?_;refine aI (aa (ah (sr (mI ?_))));refine ct (mB (gT (mI (gT (mI (gT ?_))))));refine bB (gT ?_);refine mulC (gT ?_);refine ct ?_;refine eX ?_;refine aa (cF (ak (ai (aq (mI (mI ?_))))));refine bB ?_;refine mulC (aI (aE (aP (ai (aq ?_)))));refine bB (mI (aE (ai ?_)));rw [e1];refine ⟨⟨i + 1, Ky, rfl, rfl, Ky, ?_, hh⟩, by show n - (i + 1) < n - i; omega, ?_⟩
     ·rw [aH hd, List.any_append, hall, List.any_cons, List.any_nil, decide_eq_false h1]; rfl
     ·exact KB
  ·rw [List.take_of_length_le Ky] at hmx hall;refine sr ?_;refine aK (aa (ah (cF (aJ (az (az (aX (ai (sr (aB (aa (ao ?_))))))))))));refine cq ?_;refine ⟨?_, hh.below⟩;unfold pT;rw [hall, decide_eq_false Ky]
   rfl
theorem vk {α : Type} {l : List α} {n k : Nat} (hl : l.length = n) (hk : k < n) : l[n - 1 - k]? = l.reverse[k]? := by rw [List.getElem?_reverse Ky, hl]
theorem Cv : ∀ {X Y : List Nat} {d r : Nat}, X.length = Y.length → dA (X ++ [d]) (Y ++ [r]) = dA X Y + av X * r := fun {X Y d r} h => by
 rw [pE h.symm];simp [dA]
theorem kz (X : List Nat) (d : Nat) : av (X ++ [d]) = av X * (d + 1) := by rw [dT]; simp [av]
theorem ur : ∀ {R : List Nat} {k d : Nat} (p : Nat), R[k]? = some d → (bV R p)[k]? = some (p / av (R.take k) % (d + 1))
 | [], _, _, _, h => by simp at h
 | e :: R, 0, d, p, h => by
  obtain rfl : e = d := by simpa using h
  show some (p % (e + 1)) = _;rw [List.take_zero, av, Nat.div_one]
 | e :: R, k + 1, d, p, h => by
  show (bV R (p / (e + 1)))[k]? = _;rw [ur (p / (e + 1)) (by simpa using h), List.take_succ_cons, av, Nat.div_div_eq_div_mul]
theorem zw : ∀ {a b : List Nat} {k x y : Nat}, a[k]? = some x → b[k]? = some y → (dH a b)[k]? = some (x + y)
 | [], _, _, _, _, h, _ => by simp at h
 | _ :: _, [], _, _, _, _, h => by simp at h
 | p :: a, q :: b, 0, x, y, h1, h2 => by
  obtain rfl : p = x := by simpa using h1
  obtain rfl : q = y := by simpa using h2
  rfl
 | p :: a, q :: b, k + 1, x, y, h1, h2 => by
  show (dH a b)[k]? = _;exact zw (by simpa using h1) (by simpa using h2)
theorem vM : ∀ {ds rs : List Nat} (k : Nat), ju ds rs → ju (ds.take k) (rs.take k)
 | [], [], _, _ => by simp [ju]
 | _ :: _, _ :: _, 0, _ => trivial
 | d :: ds, r :: rs, k + 1, h => ⟨h.1, vM k h.2⟩
theorem D9 : ∀ {ds rs : List Nat} {k d r : Nat}, ju ds rs → ds[k]? = some d → rs[k]? = some r → r ≤ d
 | [], _, _, _, _, _, h, _ => by simp at h
 | _ :: _, [], _, _, _, _, _, h => by simp at h
 | d :: ds, r :: rs, 0, _, _, h, h1, h2 => by
  simp only [List.getElem?_cons_zero, Option.some.injEq] at h1 h2;subst h1 h2;exact h.1
 | d :: ds, r :: rs, k + 1, _, _, h, h1, h2 => D9 (k := k) h.2 (by simpa using h1) (by simpa using h2)
theorem vn (F T Y : Option Addr) (n c1 c2 c3 : Nat) (ns ts js : List Nat) (p : Nat) (w : World) (hF : Sl w F n 1 (bG (bu ns))) (hT : Sl w T n 1 (bG (bu ts))) (hY : Sl w Y n 1 (bG (bu js)))
  (hn : n ≤ 1000) (hok : ju ts.reverse (dH (bV ns.reverse p) js.reverse)) (hmax : av ts ≤ 1000000) (hns : ∀ d ∈ ns, d ≤ 1000) (hts : ∀ d ∈ ts, d ≤ 1000) (hp : p ≤ 1000000) :
  Calls Tryz.prog 203 #[.slice F n c1, .slice T n c2, .slice Y n c3, .int .i64 p] w fun r w' => r = .returned (.int .i64 (dA ts.reverse (dH (bV ns.reverse p) js.reverse) : Nat)) ∧ Below w.heap.size w w' := by
 have hh := Hp.start w;have hl1 : ns.length = n := by have := hF.1; simpa [bG, bu] using this
 have hl2 : ts.length = n := by have := hT.1; simpa [bG, bu] using this
 have hl3 : js.length = n := by have := hY.1; simpa [bG, bu] using this
 generalize hrow : dH (bV ns.reverse p) js.reverse = row at *;have hrl : row.length = n := by rw [← hrow, xH (by rw [lE, List.length_reverse, List.length_reverse, hl1, hl3]), lE, List.length_reverse, hl1]
 refine al (N := 52) (l := [.slice F n c1, .slice T n c2, .slice Y n c3, .int .i64 p]) Tryz.func203 rfl rfl (by simp) ?_;refine sr (aI (aa (sr (aI (aI (aa (ah (sr (mL (aW ?_))))))))));refine eO (aI (aa (aj ?_)));refine C6 [3, 9, 10, 11, 12, 16, 17, 18, 19, 20, 21, 22, 23, 24, 25, 26, 27, 28, 29, 30, 31, 32, 33, 34, 35, 36, 37, 38, 39, 40, 41, 42, 43, 44, 45, 46, 47, 48, 49, 50] 3 9 10 11
  (fun v3 v9 v10 v w' => ∃ k : Nat, k ≤ n ∧ v = .int .i64 ((n : Int) - 1 - k) ∧ v3 = .int .i64 (p / av (ns.reverse.take k) : Nat) ∧ v9 = .int .i64 (dA (ts.reverse.take k) (row.take k) : Nat) ∧ v10 = .int .i64 (av (ts.reverse.take k) : Nat) ∧ Hp w [] w')
  (fun _ _ _ v _ => (intOf v + 1).toNat) ?_ ?_
 ·refine ⟨0, Nat.zero_le _, ?_, ?_, rfl, rfl, hh⟩
  ·exact congrArg (Value.int IntKind.i64) (show (n : Int) - 1 = (n : Int) - 1 - (0 : Nat) by omega)
  ·rw [List.take_zero, av, Nat.div_one]; rfl
 ·clear hh;rintro ρ' v3 v9 v10 v w' ⟨k, hk, rfl, rfl, rfl, rfl, hh⟩;by_cases hlt : k < n
  ·obtain ⟨d, hd⟩ := ay (l := ns.reverse) (k := k) (by rw [List.length_reverse]; omega);obtain ⟨t, ht⟩ := ay (l := ts.reverse) (k := k) (by rw [List.length_reverse]; omega);obtain ⟨j, hj⟩ := ay (l := js.reverse) (k := k) (by rw [List.length_reverse]; omega);have hd' := vk hl1 hlt;have ht' := vk hl2 hlt;have hj' := vk hl3 hlt;rw [hd] at hd';rw [ht] at ht';rw [hj] at hj';have hgd := cx (eu hd');have hgt := cx (eu ht');have hgj := cx (eu hj');have hd2 := hns d (List.mem_of_getElem? hd');have ht2 := hts t (List.mem_of_getElem? ht');have hr : row[k]? = some (p / av (ns.reverse.take k) % (d + 1) + j) := by rw [← hrow]; exact zw (ur p hd) hj
   have hrt := D9 hok ht hr;have hcp := dw (ns.reverse.take k);have hq : p / av (ns.reverse.take k) ≤ p := Nat.div_le_self _ _;have hct := fU ts.reverse (k + 1);rw [dr, aH ht, kz] at hct;have hck : av (ts.reverse.take k) * 1 ≤ av (ts.reverse.take k) * (t + 1) := Nat.mul_le_mul_left _ Ky;have hhl : dA (ts.reverse.take k) (row.take k) < av (ts.reverse.take k) := jx (vM k hok);have e1 : ((p / av (ns.reverse.take k) : Nat) : Int) % ((d : Int) + 1) = ((p / av (ns.reverse.take k) % (d + 1) : Nat) : Int) := by rw [Int.natCast_emod]; rfl
   have e2 : ((p / av (ns.reverse.take k) : Nat) : Int) / ((d : Int) + 1) = ((p / av (ns.reverse.take (k + 1)) : Nat) : Int) := by rw [aH hd, kz, ← Nat.div_div_eq_div_mul, Int.natCast_ediv]; rfl
   have hst : dA (ts.reverse.take (k + 1)) (row.take (k + 1)) = dA (ts.reverse.take k) (row.take k) + av (ts.reverse.take k) * (p / av (ns.reverse.take k) % (d + 1) + j) := by rw [aH ht, aH hr, Cv (by rw [List.length_take, List.length_take, List.length_reverse, hl2, hrl])]
   have e3 : (((p / av (ns.reverse.take k) % (d + 1) : Nat) : Int) + (j : Int)) * ((av (ts.reverse.take k) : Nat) : Int) = ((av (ts.reverse.take k) * (p / av (ns.reverse.take k) % (d + 1) + j) : Nat) : Int) := by rw [Nat.mul_comm, Int.natCast_mul, Int.natCast_add]
   have e4 : ((av (ts.reverse.take k) : Nat) : Int) * ((t : Int) + 1) = ((av (ts.reverse.take (k + 1)) : Nat) : Int) := by rw [aH ht, kz, Int.natCast_mul, Int.natCast_add]; rfl
   have hb3 : av (ts.reverse.take k) * (p / av (ns.reverse.take k) % (d + 1) + j) ≤ av (ts.reverse.take k) * (t + 1) := Nat.mul_le_mul_left _ Ky;have hc5 : av (ts.reverse.take (k + 1)) = av (ts.reverse.take k) * (t + 1) := by rw [aH ht, kz]
   generalize p / av (ns.reverse.take k) = q at *;generalize q % (d + 1) = m at *;generalize av (ts.reverse.take k) = C at *;generalize dA (ts.reverse.take k) (row.take k) = Hh at *;obtain ⟨a1, rfl, s1⟩ := hF.at_ Ky;obtain ⟨a2, rfl, s2⟩ := hT.at_ Ky;obtain ⟨a3, rfl, s3⟩ := hY.at_ Ky;refine ah (sr (mI ?_));refine dv (aa (cT (ak (ai (ah (aj (ah ?_)))))));refine a8 11 [[(3, none)], [(0, none)], [(11, none)], [(21, some 1), (22, some 2)], [(23, some 3)], [(24, some 4)], [(20, some 0), (25, some 5)], [(2, none)], [(11, none)], [(27, some 7), (28, some 8)], [(29, some 9)]] [(10, 30), (9, 29), (8, 28), (7, 27), (6, 26), (5, 25), (4, 24), (3, 23), (2, 22), (1, 21), (0, 20)] hh mixed KA ?_;refine fJ ?_;refine jt ?_;refine fJ ?_;refine mH ((n - 1 - k)) ?_;refine bF (i := 4) (fun ρ1 w1 hj hR => fO aF.out (show ρ1 23 = Value.pointer _ from hR.1) ((s1.ext hj.hp.below).fP (by assumption))) ?_;refine sG ?_;refine bF (i := 6) (fun ρ1 w1 hj hR => mX (show ρ1 20 = Value.int _ _ from hR.1) (show ρ1 25 = Value.int _ _ from hR.2.1) Ky Ky) ?_;refine jt ?_;refine fJ ?_;refine mH ((n - 1 - k)) ?_
   refine bF (i := 10) (fun ρ1 w1 hj hR => fO aF.out (show ρ1 29 = Value.pointer _ from hR.1) ((s3.ext hj.hp.below).fP (by assumption))) ?_;refine bA ?_;intro f W hJ hV;have hb_5 := hJ.bl;obtain ⟨v30, v29, v28, v27, v26, v25, v24, v23, v22, v21, v20, _⟩ := hV;replace hh := hJ.hp;refine bj (bC (ae v30 (ae v29 (ae v28 (ae v27 (ae v26 (ae v25 (ae v24 (ae v23 (ae v22 (ae v21 (ae v20 bh)))))))))))) ?_;dsimp only [cP];clear hJ;rw [e1];refine bB (aI (aa (sr (mI (mL (mI ?_))))));refine aD (k := (n - 1 - k)) aQ.out aF.size rfl rfl Ky Ky Kz ?_;refine aZ aF.out rfl ((s1.ext hh.below).fP (by assumption)) Kz ?_;refine bB ?_;refine jr rfl rfl Ky Ky Ky Kz ?_;refine aI (aa (sr (mI (mI (mI ?_)))));refine mulC ?_;refine bB (aI (aa (aq (mI (mL (mI ?_))))));refine aD (k := (n - 1 - k)) aQ.out aF.size rfl rfl Ky Ky Kz ?_;refine aZ aF.out rfl ((s2.ext hh.below).fP (by assumption)) Kz ?_;refine bB ?_;refine mulC (aI (aE (aP (ai (aq (mI ?_))))));refine eO (aI (aE (ai ?_)));refine ⟨⟨k + 1, Ky, ?_, ?_, ?_, ?_, hh⟩, by show ((n : Int) - 1 - (k : Int) - 1 + 1).toNat < ((n : Int) - 1 - (k : Int) + 1).toNat; omega, ?_⟩
   ·exact congrArg (Value.int IntKind.i64) (show (n : Int) - 1 - (k : Int) - 1 = (n : Int) - 1 - ((k + 1 : Nat) : Int) by omega)
   ·exact congrArg (Value.int IntKind.i64) e2
   ·exact congrArg (Value.int IntKind.i64) (show (Hh : Int) + ((m : Int) + (j : Int)) * (C : Int) = _ by rw [e3, hst, Int.natCast_add])
   ·exact congrArg (Value.int IntKind.i64) e4
   ·exact KB
  ·obtain rfl : k = n := Ky;refine ah (sr (mI ?_));refine dv (aa (cF (aJ (az (az (aX (ai (sr (mI (aI (aa (ao ?_))))))))))));refine cq ?_;rw [List.take_of_length_le (by rw [List.length_reverse]; omega), List.take_of_length_le Ky];exact ⟨rfl, hh.below⟩
end Go.Proofs.YtaapkaefelhfcaaGreatDoor
/- The walks through package lift: indices, products. -/
namespace Go.Proofs.YtaapkaefelhfcaaGreatDoor
open Go.RowKit
theorem nO (a : List Int) (x y : Int) (b : List Int) (n : Nat) (h : a.length = n) : (a ++ x :: b).set n y = a ++ y :: b := by
 subst h;rw [List.set_append_right _ _ (Nat.le_refl _), Nat.sub_self, List.set_cons_zero]
theorem rl (F : Option Addr) (n c1 : Nat) (ns : List Nat) (p : Nat) (w : World) (hF : Sl w F n 1 (bG (bu ns))) (hn : n ≤ 1000) (hns : ∀ d ∈ ns, d ≤ 1000) (hp : p ≤ 1000000) :
  Calls Tryz.prog 202 #[.slice F n c1, .int .i64 p] w fun r w' => ∃ A c', r = .returned (.slice A n c') ∧ w'.ownsRow w.heap.size 3 1 (.slice A n c') n (bG (bu (bV ns.reverse p).reverse)) ∧ Below w.heap.size w w' := by
 have hh := Hp.start w;have hl1 : ns.length = n := by have := hF.1; simpa [bG, bu] using this
 have hdl : (bV ns.reverse p).length = n := by rw [lE, List.length_reverse, hl1]
 refine al (N := 35) (l := [.slice F n c1, .int .i64 p]) Tryz.func202 rfl rfl (by simp) ?_;refine sr (aL (aa (sr (mL (aW ?_)))));refine eT (n := n) hh rfl rfl Ky Ky aQ.out aF.out rfl Ky Ky Kz ?_;intro b9 w9 hh;refine aL (aa (ah (sr (mL (aW ?_)))));refine eO (aI (aa (aj ?_)));rw [show Value.int IntKind.i64 0 = Value.int IntKind.i64 0 from rfl] at hh;have hzr : gh n [Value.int .i64 0] = bG (eN n) := by rw [nX]; simp [bG, eN]
 rw [hzr] at hh;refine cv [1, 6, 13, 14, 15, 16, 17, 18, 19, 20, 21, 22, 23, 24, 25, 26, 27, 28, 29, 30, 31, 32, 33] 1 6
  (fun v1 v w' => ∃ k : Nat, k ≤ n ∧ v = .int .i64 ((n : Int) - 1 - k) ∧ v1 = .int .i64 (p / av (ns.reverse.take k) : Nat) ∧ Hp w [.row (some ⟨b9, 0, none⟩) n n 3 1 (bG (eN (n - k) ++ bu ((bV ns.reverse p).take k).reverse))] w')
  (fun _ v _ => (intOf v + 1).toNat) ?_ ?_
 ·refine ⟨0, Nat.zero_le _, ?_, ?_, ?_⟩
  ·exact congrArg (Value.int IntKind.i64) (show (n : Int) - 1 = (n : Int) - 1 - (0 : Nat) by omega)
  ·rw [List.take_zero, av, Nat.div_one]; rfl
  ·rw [List.take_zero]; simpa [bu] using hh
 ·clear hh;rintro ρ' v1 v w' ⟨k, hk, rfl, rfl, hh⟩;by_cases hlt : k < n
  ·obtain ⟨d, hd⟩ := ay (l := ns.reverse) (k := k) (by rw [List.length_reverse]; omega);have hd' := vk hl1 hlt;rw [hd] at hd';have hgd := cx (eu hd');have hd2 := hns d (List.mem_of_getElem? hd');have hdk := ur p hd;have hq : p / av (ns.reverse.take k) ≤ p := Nat.div_le_self _ _;have e1 : ((p / av (ns.reverse.take k) : Nat) : Int) % ((d : Int) + 1) = ((p / av (ns.reverse.take k) % (d + 1) : Nat) : Int) := by rw [Int.natCast_emod]; rfl
   have e2 : ((p / av (ns.reverse.take k) : Nat) : Int) / ((d : Int) + 1) = ((p / av (ns.reverse.take (k + 1)) : Nat) : Int) := by rw [aH hd, kz, ← Nat.div_div_eq_div_mul, Int.natCast_ediv]; rfl
   have hlen : (eN (n - k) ++ bu ((bV ns.reverse p).take k).reverse).length = n := by simp [eN, bu, hdl]; omega
   have hil : (bG (eN (n - k) ++ bu ((bV ns.reverse p).take k).reverse)).length = n := by rw [bT, hlen]
   generalize p / av (ns.reverse.take k) = q at *;obtain ⟨a1, rfl, s1⟩ := hF.at_ Ky;refine ah (sr (mI ?_));refine dv (aa (cT (ak (ai (ah (aj (sr (mL (mI (mI (mL (mI ?_))))))))))));refine aD (k := (n - 1 - k)) aQ.out aF.size rfl rfl Ky Ky Kz ?_;refine aZ aF.out rfl ((s1.ext hh.below).fP (by assumption)) Kz ?_;refine bB ?_;refine kT rfl rfl Ky Ky Kz ?_;refine bf (k := (n - 1 - k)) aQ.out aF.size rfl rfl Ky Ky Kz ?_;rw [e1];refine bs hh (i := 0) (vs := [_]) rfl rfl (cd rfl) rfl aF.out rfl Ky rfl ?_;intro ws hh;simp only [List.set_cons_zero] at hh;rw [jb _ Ky] at hh;refine aa (aq (mI (mL (mI ?_))));refine aD (k := (n - 1 - k)) aQ.out aF.size rfl rfl Ky Ky Kz ?_;refine aZ aF.out rfl ((s1.ext hh.below).fP (by assumption)) Kz ?_;refine bB ?_;refine jr rfl rfl Ky Ky Ky Kz ?_;refine aI (aE (aP (ai (aq (mI ?_)))));refine eO (aI (aE (ai ?_)));refine ⟨⟨k + 1, Ky, ?_, ?_, ?_⟩, by show ((n : Int) - 1 - (k : Int) - 1 + 1).toNat < ((n : Int) - 1 - (k : Int) + 1).toNat; omega, ?_⟩
   ·exact congrArg (Value.int IntKind.i64) (show (n : Int) - 1 - (k : Int) - 1 = (n : Int) - 1 - ((k + 1 : Nat) : Int) by omega)
   ·exact congrArg (Value.int IntKind.i64) e2
   ·have e5 : (eN (n - k) ++ bu ((bV ns.reverse p).take k).reverse).set (n - 1 - k) ((q % (d + 1) : Nat) : Int) = eN (n - (k + 1)) ++ bu ((bV ns.reverse p).take (k + 1)).reverse := by
     have hz : eN (n - k) = eN (n - (k + 1)) ++ [0] := by
      unfold eN;rw [show n - k = n - (k + 1) + 1 by omega, List.replicate_succ']
     rw [hz, List.append_assoc, List.singleton_append, nO _ _ _ _ _ (by rw [n7]; omega), aH hdk];simp [bu]
    rw [e5] at hh;exact hh
   ·exact KB
  ·obtain rfl : k = n := Ky;rw [List.take_of_length_le Ky, Nat.sub_self] at hh;refine ah (sr (mI ?_));refine dv (aa (cF (aJ (az (az (aX (ai (sr (mL (aL (aa (ao ?_))))))))))));refine cq ?_;exact ⟨_, _, rfl, hh.at_ (i := 0) rfl, hh.below⟩
end Go.Proofs.YtaapkaefelhfcaaGreatDoor
/- The walk through lift.times. -/
namespace Go.Proofs.YtaapkaefelhfcaaGreatDoor
open Go.RowKit
def da (a b : List Nat) : List Nat := List.zipWith (· + ·) a b
theorem jK {a b : List Nat} (h : a.length = b.length) : (da a b).length = a.length := by simp [da, h]
theorem qk {a b : List Nat} {i x y : Nat} (h1 : a[i]? = some x) (h2 : b[i]? = some y) : (da a b)[i]? = some (x + y) := by
 unfold da;rw [List.getElem?_zipWith, h1, h2]
theorem Az : ∀ (a b : List Nat), dH a b = da a b
 | [], [] => rfl
 | [], _ :: _ => rfl
 | _ :: _, [] => rfl
 | x :: a, y :: b => by rw [dH, Az a b]; rfl
theorem nZ {a b : List Nat} (h : a.length = b.length) : dH a.reverse b.reverse = (da a b).reverse := by
 rw [Az];exact (List.reverse_zipWith h).symm
theorem Bw {N : Nat} {L M : List (Nat × Dyadic)} (h : ∀ q ∈ M, q.2 = 0) : gR N (L ++ M) = gR N L := by
 unfold gR;refine List.map_congr_left fun p _ => ?_;rw [kB, pX (l := M) fun q hq => by rw [h q hq]; split <;> rfl];grind
theorem wD (N : Nat) : gh N [.bool false, .string (ByteArray.mk #[]), .int .i64 0] = aY NR.cells ((gR N []).map nR) := by
 rw [rp, List.map_replicate]
 induction N with
 | zero => rfl
 | succ n ih => rw [List.replicate_succ, iO, ← ih]; rfl
def sk (ds es : List Nat) (xs ys : List Dyadic) (k : Nat) : List (Nat × Dyadic) :=
 (List.range k).flatMap fun k => (List.range (av ds)).map fun i => (dA (dH ds es) (dH (bV ds i) (bV es k)), (xs[i]?).getD 0 * (ys[k]?).getD 0)
theorem qI (ds es : List Nat) (xs ys : List Dyadic) (k : Nat) : sk ds es xs ys (k + 1) = sk ds es xs ys k ++ (List.range (av ds)).map fun i => (dA (dH ds es) (dH (bV ds i) (bV es k)), (xs[i]?).getD 0 * (ys[k]?).getD 0) := by
 unfold sk;rw [List.range_succ, List.flatMap_append, List.flatMap_singleton]
theorem AM (ds es : List Nat) (xs ys : List Dyadic) (k : Nat) : (sk ds es xs ys k).length = k * av ds := by
 unfold sk;rw [pD (m := av ds) _ _ fun a _ => by simp, List.length_range]
theorem ym {ds es : List Nat} {xs ys : List Dyadic} {k1 k2 : Nat} (hx : ∀ x ∈ xs, Sz k1 x) (hy : ∀ y ∈ ys, Sz k2 y) (k : Nat) : ∀ q ∈ sk ds es xs ys k, Sz (k1 + k2) q.2 := fun q hq => by
 unfold sk at hq;obtain ⟨j, _, hq⟩ := List.mem_flatMap.1 hq;obtain ⟨i, _, rfl⟩ := List.mem_map.1 hq;refine Sz.mul ?_ ?_
 ·cases h : xs[i]? with
  | none => exact Sz.zero _
  | some x => exact hx x (List.mem_of_getElem? h)
 ·cases h : ys[j]? with
  | none => exact Sz.zero _
  | some y => exact hy y (List.mem_of_getElem? h)
theorem wA {ns ms : List Nat} (hl : ns.length = ms.length) (i k : Nat) : ju (da ns ms).reverse (dH (bV ns.reverse i) (bV ms.reverse k)) := by
 rw [← nZ hl];exact p9 (gN _ _) (gN _ _) (by rw [List.length_reverse, List.length_reverse, hl])
def lr (ns ms : List Nat) (xs ys : List Dyadic) : List Dyadic := gR (av (da ns ms)) (sk ns.reverse ms.reverse xs ys (av ms))
theorem nL (F FC G GC : Option Addr) (n c1 c2 c3 c4 : Nat) (ns ms : List Nat) (xs ys : List Dyadic) (k1 k2 : Nat) (w : World) (hT : eP w)
  (hF : Sl w F n 1 (bG (bu ns))) (hFC : Sl w FC (av ns) 3 (aY NR.cells (xs.map nR))) (hG : Sl w G n 1 (bG (bu ms))) (hGC : Sl w GC (av ms) 3 (aY NR.cells (ys.map nR)))
  (hn : n ≤ 12) (hns : ∀ d ∈ ns, d ≤ 127) (hms : ∀ d ∈ ms, d ≤ 127) (hN : av (da ns ms) ≤ 4096) (hM : av ms * av ns ≤ 1000000) (hx : ∀ x ∈ xs, Sz k1 x) (hy : ∀ y ∈ ys, Sz k2 y) (hk : k1 + k2 ≤ 100000) :
  Calls Tryz.prog 122 #[.agg #[.slice F n c1, .slice FC (av ns) c2], .agg #[.slice G n c3, .slice GC (av ms) c4]] w fun r w' => ∃ A a B b, r = .returned (.agg #[.slice A n a, .slice B (av (da ns ms)) b]) ∧ Hp w [.row B (av (da ns ms)) b 29 3 (aY NR.cells ((lr ns ms xs ys).map nR)), .row A n a 3 1 (bG (bu (da ns ms)))] w' := by
 have hh := Hp.start w;have hl1 : ns.length = n := by have := hF.1; simpa [bG, bu] using this
 have hl2 : ms.length = n := by have := hG.1; simpa [bG, bu] using this
 have hlx : xs.length = av ns := by have := hFC.bM NR.len Kz; simpa using this
 have hly : ys.length = av ms := by have := hGC.bM NR.len Kz; simpa using this
 have hpn := dw ns;have hpm := dw ms;have hMn : 1 * av ns ≤ av ms * av ns := Nat.mul_le_mul_right _ hpm;have hMm : av ms * 1 ≤ av ms * av ns := Nat.mul_le_mul_left _ hpn;obtain ⟨a4, rfl, s4⟩ := hGC.at_ hpm;obtain ⟨a5, rfl, s5⟩ := hFC.at_ hpn;have hla : (da ns ms).length = n := by rw [jK Ky, hl1]
 have hadd : ∀ d ∈ da ns ms, d ≤ 254 := fun d hd => by
  obtain ⟨i, hi⟩ := List.mem_iff_getElem?.1 hd;have hi2 := (List.getElem?_eq_some_iff.1 hi).1;obtain ⟨x, hx1⟩ := ay (l := ns) (k := i) Ky;obtain ⟨y, hy1⟩ := ay (l := ms) (k := i) Ky;rw [qk hx1 hy1] at hi;have := hns x (List.mem_of_getElem? hx1);have := hms y (List.mem_of_getElem? hy1);have := Option.some.inj hi;omega
 have hzr : gh n [Value.int .i64 0] = bG (eN n) := by rw [nX]; simp [bG, eN]
 refine al (N := 93) (l := [.agg #[.slice F n c1, .slice (some a5) (av ns) c2], .agg #[.slice G n c3, .slice (some a4) (av ms) c4]]) Tryz.func122 rfl rfl (by simp) ?_;refine sr ?_;refine db hh [_,_] ?_;intro b2 w2 hh;refine db hh [_,_] ?_;intro b3 w3 hh;refine cB hh ?_;intro b4 w4 hh;refine aa (sr (bP ?_));refine bR hh 2 ?_;refine aW ?_;refine eT (n := n) hh rfl rfl Ky Ky aQ.out aF.out rfl Ky Ky Kz ?_;intro b16 w16 hh;refine e9 [_,_] ?_;refine cB hh ?_;intro b5 w5 hh;refine bK hh 0 [_,_] ?_;intro ws hh;replace hh : Hp _ (.blk _ _ [_, _] _ :: _) _ := hh;refine aa (ah (sr (bP ?_)));refine bR hh 0 ?_;refine aW (mI (aa (aj ?_)));rw [hzr] at hh;refine bm [6, 21, 22, 23, 24, 25, 26, 27, 28, 29, 30, 31, 32, 33, 34, 35, 36, 37, 38, 39] 21
  (fun v w' => ∃ i : Nat, i ≤ n ∧ v = .int .i64 i ∧ Hp w [.blk b5 61 [.slice (some ⟨b16, 0, none⟩) n n, .slice none 0 0] (0, 0), .row (some ⟨b16, 0, none⟩) n n 3 1 (bG (bu ((da ns ms).take i) ++ eN (n - i))), .blk b4 61 [.slice none 0 0, .slice none 0 0] (0, 0), .blk b3 61 [.slice G n c3, .slice (some a4) (av ms) c4] (0, 0), .blk b2 61 [.slice F n c1, .slice (some a5) (av ns) c2] (0, 0)] w')
  (fun v _ => n - (intOf v).toNat) ?_ ?_
 ·exact ⟨0, Nat.zero_le _, rfl, hh⟩
 ·clear hh;rintro ρ' v w' ⟨i, hi, rfl, hh⟩;by_cases hlt : i < n
  ·obtain ⟨x, hx1⟩ := ay (l := ns) (k := i) Ky;obtain ⟨y, hy1⟩ := ay (l := ms) (k := i) Ky;have hgx := cx (eu hx1);have hgy := cx (eu hy1);have hxy := qk hx1 hy1;have hx2 := hns x (List.mem_of_getElem? hx1);have hy2 := hms y (List.mem_of_getElem? hy1);have htl : (bu ((da ns ms).take i)).length = i := by rw [cU, List.length_take]; omega
   have hil : (bG (bu ((da ns ms).take i) ++ eN (n - i))).length = n := by rw [bT, List.length_append, htl, n7]; omega
   obtain ⟨a1, rfl, s1⟩ := hF.at_ Ky;obtain ⟨a2, rfl, s2⟩ := hG.at_ Ky;refine sr ?_;refine aK (aa (ah (cT (ak (ai (ah (aj (sr (mI (aI (aa ?_)))))))))));refine a8 14 [[(5, none)], [(24, some 0)], [(6, none)], [(2, none)], [(27, some 3)], [(6, none)], [(28, some 4), (29, some 5)], [(30, some 6)], [(3, none)], [(32, some 8)], [(6, none)], [(33, some 9), (34, some 10)], [(35, some 11)], [(31, some 7), (36, some 12)]] [(13, 37), (12, 36), (11, 35), (10, 34), (9, 33), (8, 32), (7, 31), (6, 30), (5, 29), (4, 28), (3, 27), (2, 26), (1, 25), (0, 24)] hh mixed KA ?_;refine eA ?_;refine fQ 0 ?_;refine fJ ?_;refine eA ?_;refine fQ 4 ?_;refine fJ ?_;refine mH (i) ?_;refine bF (i := 7) (fun ρ1 w1 hj hR => fO aF.out (show ρ1 30 = Value.pointer _ from hR.1) ((s1.ext hj.hp.below).fP (by assumption))) ?_;refine eA ?_;refine fQ 3 ?_;refine fJ ?_;refine mH (i) ?_;refine bF (i := 12) (fun ρ1 w1 hj hR => fO aF.out (show ρ1 35 = Value.pointer _ from hR.1) ((s2.ext hj.hp.below).fP (by assumption))) ?_;refine sG ?_;refine bA ?_;intro f W hJ hV;have hb_5 := hJ.bl;obtain ⟨v37, v36, v35, v34, v33, v32, v31, v30, v29, v28, v27, v26, v25, v24, _⟩ := hV;replace hh := hJ.hp
   refine bj (bC (ae v37 (ae v36 (ae v35 (ae v34 (ae v33 (ae v32 (ae v31 (ae v30 (ae v29 (ae v28 (ae v27 (ae v26 (ae v25 (ae v24 bh))))))))))))))) ?_;dsimp only [cP];clear hJ;refine bf (k := i) aQ.out aF.size rfl rfl Ky Ky Kz ?_;refine bs hh (i := 1) (vs := [_]) rfl rfl (cd rfl) rfl aF.out rfl Ky rfl ?_;intro ws hh;simp only [List.set_cons_zero, List.set_cons_succ] at hh;rw [jb _ (by rw [← bT, hil]; exact hlt)] at hh;have e5 : (bu ((da ns ms).take i) ++ eN (n - i)).set i ((x : Int) + (y : Int)) = bu ((da ns ms).take (i + 1)) ++ eN (n - (i + 1)) := by
    have hz : eN (n - i) = 0 :: eN (n - (i + 1)) := by
     unfold eN;rw [show n - i = n - (i + 1) + 1 by omega, List.replicate_succ]
    rw [hz, nO _ _ _ _ _ htl, aH hxy];simp [bu]
   rw [e5] at hh;refine aE (aP (ai (aq ?_)));refine bB (mI (aE (ai ?_)));refine ⟨⟨i + 1, Ky, rfl, hh⟩, by show n - (i + 1) < n - i; omega, ?_⟩;exact KB
  ·obtain rfl : i = n := Ky;rw [List.take_of_length_le Ky, Nat.sub_self] at hh;replace hh : Hp w [.blk b5 61 [.slice (some ⟨b16, 0, none⟩) i i, .slice none 0 0] (0, 0), .row (some ⟨b16, 0, none⟩) i i 3 1 (bG (bu (da ns ms))), .blk b4 61 [.slice none 0 0, .slice none 0 0] (0, 0), .blk b3 61 [.slice G i c3, .slice (some a4) (av ms) c4] (0, 0), .blk b2 61 [.slice F i c1, .slice (some a5) (av ns) c2] (0, 0)] w' := by
    have : bu (da ns ms) ++ eN 0 = bu (da ns ms) := List.append_nil _;rw [this] at hh;exact hh
   have hsz := fun w1 hS1 => vD (some ⟨b16, 0, none⟩) i i (da ns ms) w1 hS1 Ky (fun d hd => by have := hadd d hd; omega) Ky;have hzr2 := wD (av (da ns ms));refine sr ?_;refine aK (aa (ah (cF (aJ (az (az (aX (ai (sr (bP ?_))))))))));refine bR hh 0 ?_;refine bE hh (hsz _ (hh.aM (i := 1) rfl)) rfl ?_;intro w42 hh;refine eT (n := (av (da ns ms))) hh rfl rfl Ky Ky aQ.out aF.out rfl Ky Ky Kz ?_;intro b43 w43 hh;refine bP ?_;refine bK hh 1 [_] ?_;intro ws hh;replace hh : Hp _ (_ :: .blk _ _ [_, _] _ :: _) _ := hh;refine aa (ah (sr (bP ?_)));refine bR hh 4 ?_;refine aW (mI (aa (aj ?_)));rw [hzr2] at hh;clear hsz hzr2 hzr;have hpr0 : gR (av (da ns ms)) [] = gR (av (da ns ms)) (sk ns.reverse ms.reverse xs ys 0) := rfl;rw [hpr0] at hh;unfold lr;have hk12 := hk;clear hk;refine bm [7, 8, 9, 10, 11, 12, 48, 49, 50, 51, 52, 53, 54, 55, 56, 57, 58, 59, 60, 61, 62, 63, 64, 65, 66, 67, 68, 69, 70, 71, 72, 73, 74, 75, 76, 77, 78, 79, 80, 81, 82, 83, 84, 85, 86, 87, 88, 89, 90, 91] 48
    (fun v w' => ∃ k : Nat, k ≤ av ms ∧ v = .int .i64 k ∧ Hp w [.row (some ⟨b43, 0, none⟩) (av (da ns ms)) (av (da ns ms)) 29 3 (aY NR.cells ((gR (av (da ns ms)) (sk ns.reverse ms.reverse xs ys k)).map nR)), .blk b5 61 [.slice (some ⟨b16, 0, none⟩) i i, .slice (some ⟨b43, 0, none⟩) (av (da ns ms)) (av (da ns ms))] (0, 0), .row (some ⟨b16, 0, none⟩) i i 3 1 (bG (bu (da ns ms))), .blk b4 61 [.slice none 0 0, .slice none 0 0] (0, 0), .blk b3 61 [.slice G i c3, .slice (some a4) (av ms) c4] (0, 0), .blk b2 61 [.slice F i c1, .slice (some a5) (av ns) c2] (0, 0)] w')
    (fun v _ => av ms - (intOf v).toNat) ?_ ?_
   ·exact ⟨0, Nat.zero_le _, rfl, hh⟩
   ·clear hh hpr0;rintro ρ2 v w2 ⟨k, hk, rfl, hh⟩;by_cases hkm : k < av ms
    ·obtain ⟨yk, hyk⟩ := ay (l := ys) (k := k) Ky;have hyn : (ys.map nR)[k]? = some (nR yk) := by rw [List.getElem?_map, hyk]; rfl
     have zy := hy yk (List.mem_of_getElem? hyk);have hsg := fun w1 => fS (nR yk) w1;rw [NR.sign, dK] at hsg;by_cases hy0 : yk = 0
     ·subst hy0;rw [sM] at hsg;refine sr ?_;refine aK (aa (ah (cT (ak (ai (ah (aj (sr (mI ?_)))))))));refine aD (k := k) aQ.out aF.size rfl rfl Ky Ky Kz ?_;refine bJ (vs := [_, _, _]) aF.out rfl ((s4.ext hh.below).recAt NR.len hyn) rfl Kz ?_;refine cB hh ?_;intro b8 w8 hh;refine aI ?_;refine bK hh 0 [_,_,_] ?_;intro ws hh;replace hh : Hp _ (.blk _ _ [_, _, _] _ :: _) _ := hh;refine aa (ah (sr ?_));refine cR hh 0 [_,_,_] ?_;refine bE hh (hsg _) rfl ?_;intro w54 hh;refine dh (aa (cT (aJ (az (aX (ai (aq ?_)))))));refine bB (mI (aE (ai ?_)));replace hh := hh.sub (List.Sublist.cons _ (List.Sublist.cons_cons _ (List.Sublist.cons_cons _ (List.Sublist.cons_cons _ (List.Sublist.cons_cons _ (List.Sublist.cons_cons _ (List.Sublist.cons_cons _ List.Sublist.slnil)))))));refine ⟨⟨k + 1, Ky, rfl, ?_⟩, by show av ms - (k + 1) < av ms - k; omega, ?_⟩
      ·rw [qI, Bw fun q hq => ?_]
       ·exact hh
       ·obtain ⟨i, _, rfl⟩ := List.mem_map.1 hq;show (xs[i]?).getD 0 * (ys[k]?).getD 0 = 0;rw [hyk];show (xs[i]?).getD 0 * 0 = 0;grind
      ·exact KB
     ·have hne : jR yk 0 ≠ 0 := by
       rcases Gx yk 0 with h | h | h
       ·rw [rG h]; decide
       ·exact absurd h hy0
       ·rw [qw h]; decide
      generalize jR yk 0 = sg at *;refine sr ?_;refine aK (aa (ah (cT (ak (ai (ah (aj (sr (mI ?_)))))))));refine aD (k := k) aQ.out aF.size rfl rfl Ky Ky Kz ?_;refine bJ (vs := [_, _, _]) aF.out rfl ((s4.ext hh.below).recAt NR.len hyn) rfl Kz ?_;refine cB hh ?_;intro b8 w8 hh;refine aI ?_;refine bK hh 0 [_,_,_] ?_;intro ws hh;replace hh : Hp _ (.blk _ _ [_, _, _] _ :: _) _ := hh;refine aa (ah (sr ?_));refine cR hh 0 [_,_,_] ?_;refine bE hh (hsg _) rfl ?_;intro w54 hh;refine dh (aa (cF (ak (ai (sr (bP ?_))))));refine bR hh 5 ?_;refine mI ?_;refine aN (rl G i c3 ms k _ (hG.ext hh.below) Ky (fun d hd => by have := hms d hd; omega) Ky) aw.out rfl Kz ?_;rintro e_ w59 ⟨A59, c59, rfl, hown_, hb_⟩;refine ⟨_, rfl, ?_⟩;replace hh := hh.bz (x := .row _ _ _ _ _ _) hb_ hown_;refine aL (aa (sr (bP ?_)));refine bR hh 7 ?_;refine aW (mI (aa (aj ?_)));refine bm [10, 11, 12, 63, 64, 65, 66, 67, 68, 69, 70, 71, 72, 73, 74, 75, 76, 77, 78, 79, 80, 81, 82, 83, 84, 85, 86, 87, 88, 89, 90] 63
       (fun v w' => ∃ j : Nat, j ≤ av ns ∧ v = .int .i64 j ∧ Hp w [.row A59 i c59 3 1 (bG (bu (bV ms.reverse k).reverse)), .blk b8 29 [.bool (nR yk).neg, .string (nR yk).cA, .int .i64 (nR yk).e] (0, 0), .row (some ⟨b43, 0, none⟩) (av (da ns ms)) (av (da ns ms)) 29 3 (aY NR.cells ((gR (av (da ns ms)) (sk ns.reverse ms.reverse xs ys k ++ (List.range j).map (fun i => (dA (dH ns.reverse ms.reverse) (dH (bV ns.reverse i) (bV ms.reverse k)), (xs[i]?).getD 0 * (ys[k]?).getD 0)))).map nR)), .blk b5 61 [.slice (some ⟨b16, 0, none⟩) i i, .slice (some ⟨b43, 0, none⟩) (av (da ns ms)) (av (da ns ms))] (0, 0), .row (some ⟨b16, 0, none⟩) i i 3 1 (bG (bu (da ns ms))), .blk b4 61 [.slice none 0 0, .slice none 0 0] (0, 0), .blk b3 61 [.slice G i c3, .slice (some a4) (av ms) c4] (0, 0), .blk b2 61 [.slice F i c1, .slice (some a5) (av ns) c2] (0, 0)] w')
       (fun v _ => av ns - (intOf v).toNat) ?_ ?_
      ·refine ⟨0, Nat.zero_le _, rfl, ?_⟩;rw [List.range_zero, List.map_nil, List.append_nil];exact hh
      ·clear hh;rintro ρ3 v w3 ⟨j, hj, rfl, hh⟩;by_cases hjn : j < av ns
       ·obtain ⟨xj, hxj⟩ := ay (l := xs) (k := j) Ky;have hxn : (xs.map nR)[j]? = some (nR xj) := by rw [List.getElem?_map, hxj]; rfl
        have zx := hx xj (List.mem_of_getElem? hxj);have hpl := fun w1 h1 h2 h3 => vn F (some ⟨b16, 0, none⟩) A59 i c1 i c59 ns (da ns ms) (bV ms.reverse k).reverse j w1 h1 h2 h3 Ky (by rw [List.reverse_reverse]; exact wA Ky _ _) Ky (fun d hd => by have := hns d hd; omega) (fun d hd => by have := hadd d hd; omega) Ky;simp only [List.reverse_reverse, ← nZ (show ns.length = ms.length by omega)] at hpl;have hplt : dA (dH ns.reverse ms.reverse) (dH (bV ns.reverse j) (bV ms.reverse k)) < av (da ns ms) := by
         have := jx (wA (show ns.length = ms.length by omega) j k);rwa [dr, ← nZ (show ns.length = ms.length by omega)] at this
        obtain ⟨pL, hold⟩ := ay (l := gR (av (da ns ms)) (sk ns.reverse ms.reverse xs ys k ++ (List.range j).map (fun i => (dA (dH ns.reverse ms.reverse) (dH (bV ns.reverse i) (bV ms.reverse k)), (xs[i]?).getD 0 * (ys[k]?).getD 0)))) (by rw [gE]; exact hplt);have hlen : (sk ns.reverse ms.reverse xs ys k ++ (List.range j).map (fun i => (dA (dH ns.reverse ms.reverse) (dH (bV ns.reverse i) (bV ms.reverse k)), (xs[i]?).getD 0 * (ys[k]?).getD 0))).length ≤ 1000000 := by
         rw [List.length_append, AM, List.length_map, List.length_range, dr];have : k * av ns + av ns ≤ av ms * av ns := by rw [← Nat.succ_mul]; exact Nat.mul_le_mul_right _ hkm
         omega
        have zold : Sz 1200000 pL := by
         refine (ug (k := k1 + k2) (fun q hq => ?_) pL (List.mem_of_getElem? hold)).mono Ky
         rcases List.mem_append.1 hq with hq | hq
         ·exact ym hx hy k q hq
         ·refine ym (ds := ns.reverse) (es := ms.reverse) hx hy (k + 1) q ?_;rw [qI];obtain ⟨u, hu, rfl⟩ := List.mem_map.1 hq;exact List.mem_append_right _ (List.mem_map.2 ⟨u, List.mem_range.2 (by have := List.mem_range.1 hu; rw [dr]; omega), rfl⟩)
        have hon : ((gR (av (da ns ms)) (sk ns.reverse ms.reverse xs ys k ++ (List.range j).map (fun i => (dA (dH ns.reverse ms.reverse) (dH (bV ns.reverse i) (bV ms.reverse k)), (xs[i]?).getD 0 * (ys[k]?).getD 0)))).map nR)[dA (dH ns.reverse ms.reverse) (dH (bV ns.reverse j) (bV ms.reverse k))]? = some (nR pL) := by rw [List.getElem?_map, hold]; rfl
        have zxy : Sz 100000 (xj * yk) := (zx.mul zy).mono hk12;have hmul := fun A cc w1 hT1 hS1 => jM A 2 cc [nR xj, nR yk] w1 hT1 hS1 (by simpa using ⟨zx.ok Ky, zy.ok Ky⟩) 100000 (by simpa [dK] using ⟨zx.mono Ky, zy.mono Ky⟩) Ky Ky;rw [show jL ([nR xj, nR yk].map NR.d) = xj * yk by show 1 * (nR xj).d * (nR yk).d = _; rw [dK, dK, Dyadic.one_mul]] at hmul;have hsum := fun A cc w1 hT1 hS1 => iK A 2 cc [nR pL, nR (xj * yk)] w1 hT1 hS1 (by simpa using ⟨zold.ok Ky, zxy.ok Ky⟩) 1200000 (by simpa [dK] using ⟨zold, zxy.mono Ky⟩) Ky;rw [show lv ([nR pL, nR (xj * yk)].map NR.d) = pL + xj * yk by simp only [List.map_cons, List.map_nil, dK, kn]] at hsum;have hset := th (v := xj * yk) hold;have hstep : sk ns.reverse ms.reverse xs ys k ++ (List.range (j + 1)).map (fun i => (dA (dH ns.reverse ms.reverse) (dH (bV ns.reverse i) (bV ms.reverse k)), (xs[i]?).getD 0 * (ys[k]?).getD 0)) = sk ns.reverse ms.reverse xs ys k ++ (List.range j).map (fun i => (dA (dH ns.reverse ms.reverse) (dH (bV ns.reverse i) (bV ms.reverse k)), (xs[i]?).getD 0 * (ys[k]?).getD 0)) ++ [(dA (dH ns.reverse ms.reverse) (dH (bV ns.reverse j) (bV ms.reverse k)), xj * yk)] := by
         rw [List.range_succ, List.map_append, ← List.append_assoc];simp only [List.map_cons, List.map_nil, hxj, hyk, Option.getD_some]
        have hfin : gR (av (da ns ms)) (sk ns.reverse ms.reverse xs ys k ++ (List.range (j + 1)).map (fun i => (dA (dH ns.reverse ms.reverse) (dH (bV ns.reverse i) (bV ms.reverse k)), (xs[i]?).getD 0 * (ys[k]?).getD 0))) = _ := (congrArg _ hstep).trans hset.symm;clear hset hstep zold;have hll : ((gR (av (da ns ms)) (sk ns.reverse ms.reverse xs ys k ++ (List.range j).map (fun i => (dA (dH ns.reverse ms.reverse) (dH (bV ns.reverse i) (bV ms.reverse k)), (xs[i]?).getD 0 * (ys[k]?).getD 0)))).map nR).length = av (da ns ms) := by rw [List.length_map, gE]
        generalize dA (dH ns.reverse ms.reverse) (dH (bV ns.reverse j) (bV ms.reverse k)) = pl at *;generalize gR (av (da ns ms)) (sk ns.reverse ms.reverse xs ys k ++ (List.range j).map (fun i => (dA (dH ns.reverse ms.reverse) (dH (bV ns.reverse i) (bV ms.reverse k)), (xs[i]?).getD 0 * (ys[k]?).getD 0))) = X at *;have hrl := eY NR.len (X.map nR);refine sr ?_;refine aK (aa (ah (cT (ak (ai (ah (aj (sr (mI ?_)))))))));refine aD (k := j) aQ.out aF.size rfl rfl Ky Ky Kz ?_;refine bJ (vs := [_, _, _]) aF.out rfl ((s5.ext hh.below).recAt NR.len hxn) rfl Kz ?_;refine cB hh ?_;intro b11 w11 hh;refine aI ?_;refine bK hh 0 [_,_,_] ?_;intro ws hh;replace hh : Hp _ (.blk _ _ [_, _, _] _ :: _) _ := hh;refine aa (sr (bP ?_));refine bR hh 8 ?_;refine bP ?_;refine bR hh 4 ?_;refine mL (mI ?_);refine bE hh (hpl _ (hF.ext hh.below) (hh.aM (i := 5) rfl) (hh.aM (i := 1) rfl)) rfl ?_;intro w74 hh;refine aI (aa ?_)
        refine a8 14 [[(5, none)], [(75, some 0)], [(12, none)], [(5, none)], [(78, some 3)], [(12, none)], [(79, some 4), (80, some 5)], [(81, some 6)], [(11, none)], [(8, none)], [(83, some 8), (84, some 9)], [(85, some 10)], [(82, some 7), (86, some 11)], [(87, some 12)]] [(13, 88), (12, 87), (11, 86), (10, 85), (9, 84), (8, 83), (7, 82), (6, 81), (5, 80), (4, 79), (3, 78), (2, 77), (1, 76), (0, 75)] hh mixed KA ?_;refine eA ?_;refine fQ 4 ?_;refine fJ ?_;refine eA ?_;refine fQ 4 ?_;refine fJ ?_;refine DF (pl) ?_;refine x6 [_,_,_] (fun _ hj => hj.hp.gO (f := NR.cells) (x := nR pL) (l := X.map nR) (i := 3) rfl NR.len Kz hon) ?_;refine gY 0 [_,_,_] ?_;refine gY 2 [_,_,_] ?_;refine xw [_,_,_,_,_,_] ?_;refine cH (i := 11) (Is (.agg #[.bool (nR (xj * yk)).neg, .string (nR (xj * yk)).cA, .int .i64 (nR (xj * yk)).e])) Is.ext ?_ ?_
        ·intro ρ1 w1 hj hR;obtain ⟨A85, c85, h85, s85⟩ := hR.1;exact du rfl (bX aw.out (a7 h85 bQ)) (hmul A85 c85 _ (hT.hp hj.hp) s85) (fun _ _ hq => ⟨_, hq.1, hq.2, rfl⟩)
        refine xw [_,_,_,_,_,_] ?_;refine cH (i := 13) (Is (.agg #[.bool (nR (pL + xj * yk)).neg, .string (nR (pL + xj * yk)).cA, .int .i64 (nR (pL + xj * yk)).e])) Is.ext ?_ ?_
        ·intro ρ1 w1 hj hR;obtain ⟨A87, c87, h87, s87⟩ := hR.1;exact du rfl (bX aw.out (a7 h87 bQ)) (hsum A87 c87 _ (hT.hp hj.hp) s87) (fun _ _ hq => ⟨_, hq.1, hq.2, rfl⟩)
        refine bA ?_;intro f W hJ hV;have hb_17 := hJ.bl;obtain ⟨v88, v87, v86, v85, v84, v83, v82, v81, v80, v79, v78, v77, v76, v75, _⟩ := hV;obtain ⟨A85, c85, e85, f85⟩ : Rows _ _ _ (f 10) W := v85;obtain ⟨A87, c87, e87, f87⟩ : Rows _ _ _ (f 12) W := v87;replace hh := hJ.hp;refine bj (bC (ae v88 (ae e87 (ae v86 (ae e85 (ae v84 (ae v83 (ae v82 (ae v81 (ae v80 (ae v79 (ae v78 (ae v77 (ae v76 (ae v75 bh))))))))))))))) ?_;dsimp only [cP];clear e85 e87 hJ;refine bf (k := pl) aQ.out aF.size rfl rfl Ky Ky Kz ?_;refine bs hh (i := 3) (vs := [_, _, _]) rfl rfl (cJ rfl) rfl aF.out rfl Ky rfl ?_;intro ws hh;simp only [List.set_cons_zero, List.set_cons_succ] at hh;rw [show cI (aY NR.cells (X.map nR)) (pl * 3) [.bool (nR (pL + xj * yk)).neg, .string (nR (pL + xj * yk)).cA, .int .i64 (nR (pL + xj * yk)).e] = aY NR.cells ((X.map nR).set pl (nR (pL + xj * yk))) from fZ NR.len Ky, ← List.map_set] at hh;refine aE (aP (ai (aq ?_)));refine bB (mI (aE (ai ?_)))
        replace hh := hh.sub (List.Sublist.cons _ (List.Sublist.cons_cons _ (List.Sublist.cons_cons _ (List.Sublist.cons_cons _ (List.Sublist.cons_cons _ (List.Sublist.cons_cons _ (List.Sublist.cons_cons _ (List.Sublist.cons_cons _ (List.Sublist.cons_cons _ List.Sublist.slnil)))))))));refine ⟨⟨j + 1, Ky, rfl, by rw [hfin]; exact hh⟩, by show av ns - (j + 1) < av ns - j; omega, ?_⟩;exact KB
       ·obtain rfl : j = av ns := Ky;rw [show sk ns.reverse ms.reverse xs ys k ++ (List.range (av ns)).map (fun i => (dA (dH ns.reverse ms.reverse) (dH (bV ns.reverse i) (bV ms.reverse k)), (xs[i]?).getD 0 * (ys[k]?).getD 0)) = sk ns.reverse ms.reverse xs ys (k + 1) by rw [qI, dr]] at hh;refine sr ?_;refine aK (aa (ah (cF (aJ (az (az (aX (aP (ai (aq ?_))))))))));refine bB (mI (aE (ai ?_)));replace hh := hh.sub (List.Sublist.cons _ (List.Sublist.cons _ (List.Sublist.cons_cons _ (List.Sublist.cons_cons _ (List.Sublist.cons_cons _ (List.Sublist.cons_cons _ (List.Sublist.cons_cons _ (List.Sublist.cons_cons _ List.Sublist.slnil))))))));refine ⟨⟨k + 1, Ky, rfl, hh⟩, by show av ms - (k + 1) < av ms - k; omega, ?_⟩;exact KB
    ·obtain rfl : k = av ms := Ky;refine sr ?_;refine aK (aa (ah (cF (aJ (az (az (aX (ai (sr ?_)))))))));refine cR hh 1 [_,_] ?_;refine bK hh 3 [_,_] ?_;intro ws hh;replace hh : Hp _ (_ :: _ :: _ :: .blk _ _ [_, _] _ :: _) _ := hh;refine aa (ao ?_);replace hh := hh.sub (List.Sublist.cons_cons _ (List.Sublist.cons _ (List.Sublist.cons_cons _ (List.Sublist.cons_cons _ (List.Sublist.cons _ (List.Sublist.cons _ List.Sublist.slnil))))));refine iZ (aT rfl (aU (vs := [_, _]) aF.out (hh.aC (i := 2) (n := 2) rfl rfl) rfl) bq) ?_;exact ⟨_, _, _, _, rfl, hh.sub (List.Sublist.cons_cons _ (List.Sublist.cons_cons _ (List.nil_sublist _)))⟩
end Go.Proofs.YtaapkaefelhfcaaGreatDoor
/- The walks through package lift: forms that are alike, degrees raised. -/
namespace Go.Proofs.YtaapkaefelhfcaaGreatDoor
open Go.RowKit
structure FX where
 A : Option Addr
 n : Nat
 a : Nat
 B : Option Addr
 m : Nat
 b : Nat
 ds : List Int
 cs : List NR
def FX.cells (f : FX) : List Value := [.slice f.A f.n f.a, .slice f.B f.m f.b]
theorem FX.len (f : FX) : (FX.cells f).length = 2 := rfl
def FX.v (f : FX) : Value := .agg #[.slice f.A f.n f.a, .slice f.B f.m f.b]
structure FX.at_ (f : FX) (w : World) : Prop where
 dg : Sl w f.A f.n 1 (bG f.ds)
 nm : Sl w f.B f.m 3 (aY NR.cells f.cs)
theorem FX.at_.ext {f : FX} {w w' : World} (h : f.at_ w) (hb : Below w.heap.size w w') : f.at_ w' := ⟨h.dg.ext hb, h.nm.ext hb⟩
structure FX.iu (f : FX) (k : Nat) : Prop where
 Jj : f.n ≤ 1000
 JZ : f.m ≤ 100000
 num : ∀ c ∈ f.cs, c.ok ∧ Sz k c.d
def FX.e (f : FX) : Int := fE f.ds f.cs
theorem Ab (f : FX) (k : Nat) (w : World) (hT : eP w) (h : f.at_ w) (hl : f.iu k) :
  Calls Tryz.prog 60 #[.agg #[.slice f.A f.n f.a, .slice f.B f.m f.b]] w fun r w' => r = .returned (.int .i64 f.e) ∧ Below w.heap.size w w' :=
 sy f.A f.B f.n f.a f.m f.b f.ds f.cs w hT h.dg h.nm (by have := hl.Jj; omega) (by have := hl.JZ; omega) fun a ha => (hl.num a ha).1
def HP (fs : List FX) : Bool := fs.any fun f => decide (f.n ≠ (fs.map FX.n).headD 0)
def ix (fs : List FX) : Int := match fs.find? (fun f => decide (f.e ≠ 0)) with | some f => f.e | none => if fs.length = 0 ∨ HP fs = true then 1 else 0
theorem zn (L : Option Addr) (n c : Nat) (fs : List FX) (f : FX) (p : Addr) (w : World) (hL : Sl w L n 2 (aY FX.cells fs)) (hp : w.cell? p = some (.slice L n c)) (hn : 0 < n) :
  Calls Tryz.prog 245 #[.agg #[.slice f.A f.n f.a, .slice f.B f.m f.b], .pointer (some p)] w fun r w' => r = .returned (.bool (decide (f.n ≠ (fs.map FX.n).headD 0))) ∧ Below w.heap.size w w' := by
 have hh := Hp.start w;have hln := hL.bM FX.len Kz;obtain ⟨g, fs, rfl⟩ : ∃ g l, fs = g :: l := by
  cases fs with
  | nil => exact absurd hln (by show ¬ 0 = n; omega)
  | cons g l => exact ⟨g, l, rfl⟩
 obtain ⟨ad, rfl, hr⟩ := hL.at_ hn;have hd : (((g :: fs).map FX.n).headD 0) = g.n := rfl;rw [hd];have h0 : (g :: fs)[0]? = some g := rfl;by_cases hg : f.n = g.n
 ·refine al (N := 13) (l := [.agg #[.slice f.A f.n f.a, .slice f.B f.m f.b], .pointer (some p)]) Tryz.func245 rfl rfl (by simp) ?_;refine sr ?_;refine db hh [_,_] ?_;intro b2 w2 hh;refine aB (aa (ah ?_));refine a8 8 [[(2, none)], [(4, some 0)], [(5, some 1)], [(1, none)], [(7, some 3)], [(8, some 4)], [(9, some 5)], [(10, some 6)]] [(7, 11), (6, 10), (5, 9), (4, 8), (3, 7), (2, 6), (1, 5), (0, 4)] hh mixed KA ?_;refine eA ?_;refine fQ 0 ?_;refine xp ?_;refine nV (fun _ hj => (hj.hp.below.cell (kN hp)).trans hp) ?_;refine bF (i := 4) (fun ρ1 w1 hj hR => dJ aQ.out aF.size (show ρ1 7 = Value.slice _ _ _ from hR.1) rfl Ky Ky) ?_;refine GJ ?_;refine nV (fun _ hj => cO hj.hp.below (((hr.recAt FX.len h0)) 0 _ rfl)) ?_;refine xp ?_;refine bA ?_;intro f W hJ hV;have hb_1 := hJ.bl;obtain ⟨v11, v10, v9, v8, v7, v6, v5, v4, _⟩ := hV;replace hh := hJ.hp;refine bj (bC (ae v11 (ae v10 (ae v9 (ae v8 (ae v7 (ae v6 (ae v5 (ae v4 bh))))))))) ?_;dsimp only [cP];clear hJ;refine cL (aB (aa (ao ?_)));refine cq ?_;exact ⟨by rw [decide_eq_false Ky], hh.below⟩
 ·refine al (N := 13) (l := [.agg #[.slice f.A f.n f.a, .slice f.B f.m f.b], .pointer (some p)]) Tryz.func245 rfl rfl (by simp) ?_;refine sr ?_;refine db hh [_,_] ?_;intro b2 w2 hh;refine aB (aa (ah ?_));refine a8 8 [[(2, none)], [(4, some 0)], [(5, some 1)], [(1, none)], [(7, some 3)], [(8, some 4)], [(9, some 5)], [(10, some 6)]] [(7, 11), (6, 10), (5, 9), (4, 8), (3, 7), (2, 6), (1, 5), (0, 4)] hh mixed KA ?_;refine eA ?_;refine fQ 0 ?_;refine xp ?_;refine nV (fun _ hj => (hj.hp.below.cell (kN hp)).trans hp) ?_;refine bF (i := 4) (fun ρ1 w1 hj hR => dJ aQ.out aF.size (show ρ1 7 = Value.slice _ _ _ from hR.1) rfl Ky Ky) ?_;refine GJ ?_;refine nV (fun _ hj => cO hj.hp.below (((hr.recAt FX.len h0)) 0 _ rfl)) ?_;refine xp ?_;refine bA ?_;intro f W hJ hV;have hb_1 := hJ.bl;obtain ⟨v11, v10, v9, v8, v7, v6, v5, v4, _⟩ := hV;replace hh := hJ.hp;refine bj (bC (ae v11 (ae v10 (ae v9 (ae v8 (ae v7 (ae v6 (ae v5 (ae v4 bh))))))))) ?_;dsimp only [cP];clear hJ;refine cL (aB (aa (ao ?_)));refine cq ?_;exact ⟨by rw [decide_eq_true hg], hh.below⟩
theorem xU (A : Option Addr) (n c : Nat) (l : List FX) (g : FuncId) (cap : List Value) (p : FX → Bool) (w : World) (hS : Sl w A n 2 (aY FX.cells l)) (hn : n ≤ 1000000) [aw Tryz.prog g]
  (hg : ∀ (z : FX) (w1 : World), z ∈ l → Below w.heap.size w w1 → Calls Tryz.prog g (.agg #[.slice z.A z.n z.a, .slice z.B z.m z.b] :: cap).toArray w1 fun r w' => r = .returned (.bool (p z)) ∧ Below w1.heap.size w1 w') :
  Calls Tryz.prog 271 #[.slice A n c, .func (.func g) #[] cap.toArray] w fun r w' => ∃ v, r = .returned (.int .i64 v) ∧ (0 ≤ v ↔ l.any p = true) ∧ Below w.heap.size w w' := by
 have hh := Hp.start w;have hln := hS.bM FX.len Kz;refine al (N := 19) (l := [.slice A n c, .func (.func g) #[] cap.toArray]) Tryz.func271 rfl rfl (by simp) ?_;refine sr (aI (aa (ah (sr (mL (aW (mI (aa (aj ?_)))))))));refine bm [4, 5, 8, 9, 10, 11, 12, 13, 14, 15, 16, 17, 18] 8
  (fun v w' => ∃ i : Nat, i ≤ n ∧ v = .int .i64 i ∧ (l.take i).any p = false ∧ Hp w [] w')
  (fun v _ => n - (intOf v).toNat) ?_ ?_
 ·exact ⟨0, Nat.zero_le _, rfl, rfl, hh⟩
 ·clear hh;rintro ρ' v w' ⟨i, hi, rfl, hall, hh⟩;by_cases hlt : i < n
  ·obtain ⟨z, hz⟩ := ay (l := l) (k := i) Ky;obtain ⟨ad, rfl, hr⟩ := hS.at_ Ky;have hc := fun w1 => hg z w1 (List.mem_of_getElem? hz)
   cases gz : p z with
   | true =>
    rw [gz] at hc;refine sr ?_;refine aK (aa (ah (cT (ak (ai (ah (aj (sr (mI (aI (aa (sr ?_))))))))))));refine eh (by first | exact eg rfl | exact ev_nilf rfl) Kz ?_;refine mL (mI ?_);refine aD (k := i) aQ.out aF.size rfl rfl Ky Ky Kz ?_;refine bJ (vs := [_, _]) aF.out rfl ((hr.ext hh.below).recAt FX.len hz) rfl Kz ?_;refine eb (hc _ hh.below) aw.out rfl rfl Kz ?_;rintro e_ w16 ⟨rfl, hb_⟩;refine ⟨_, rfl, ?_⟩;replace hh := hh.ext hb_;refine aa (cT (sr (mI (aI (aa (ao (bD (aG (aG (bD (aG ?_)))))))))));refine cq ?_;exact ⟨_, rfl, ⟨fun _ => List.any_eq_true.2 ⟨z, List.mem_of_getElem? hz, gz⟩, fun _ => by omega⟩, hh.below⟩
   | false =>
    rw [gz] at hc;refine sr ?_;refine aK (aa (ah (cT (ak (ai (ah (aj (sr (mI (aI (aa (sr ?_))))))))))));refine eh (by first | exact eg rfl | exact ev_nilf rfl) Kz ?_;refine mL (mI ?_);refine aD (k := i) aQ.out aF.size rfl rfl Ky Ky Kz ?_;refine bJ (vs := [_, _]) aF.out rfl ((hr.ext hh.below).recAt FX.len hz) rfl Kz ?_;refine eb (hc _ hh.below) aw.out rfl rfl Kz ?_;rintro e_ w16 ⟨rfl, hb_⟩;refine ⟨_, rfl, ?_⟩;replace hh := hh.ext hb_;refine aa (cF (ak (aP (ai (aq ?_)))));refine bB (mI (aE (ai ?_)));refine ⟨⟨i + 1, Ky, rfl, by rw [aH hz, List.any_append, hall, List.any_cons, List.any_nil, gz]; rfl, hh⟩, by show n - (i + 1) < n - i; omega, ?_⟩;exact KB
  ·rw [List.take_of_length_le Ky] at hall;refine sr ?_;refine aK (aa (ah (cF (aJ (az (az (aX (ai (sr (aI (aa (ao ?_))))))))))));refine cq ?_;exact ⟨_, rfl, ⟨fun h => absurd h Kz, fun h => by rw [hall] at h; cases h⟩, hh.below⟩
theorem yB (A : Option Addr) (n c : Nat) (l : List FX) (g : FuncId) (cap : List Value) (p : FX → Bool) (w : World) (hS : Sl w A n 2 (aY FX.cells l)) (hn : n ≤ 1000000) [aw Tryz.prog g]
  (hg : ∀ (z : FX) (w1 : World), z ∈ l → Below w.heap.size w w1 → Calls Tryz.prog g (.agg #[.slice z.A z.n z.a, .slice z.B z.m z.b] :: cap).toArray w1 fun r w' => r = .returned (.bool (p z)) ∧ Below w1.heap.size w1 w') :
  Calls Tryz.prog 244 #[.slice A n c, .func (.func g) #[] cap.toArray] w fun r w' => r = .returned (.bool (l.any p)) ∧ Below w.heap.size w w' := by
 have hh := Hp.start w;refine al (N := 9) (l := [.slice A n c, .func (.func g) #[] cap.toArray]) Tryz.func244 rfl rfl (by simp) ?_;refine sr (aB (aa (sr (mL ?_))));refine eh (by first | exact eg rfl | exact ev_nilf rfl) Kz ?_;refine aN (xU A n c l g cap p _ (hS.ext hh.below) hn hg) aw.out rfl Kz ?_;rintro e_ w7 ⟨v_, rfl, hv_, hb_⟩;refine ⟨_, rfl, ?_⟩;replace hh := hh.ext hb_
 cases ga : l.any p with
 | true =>
  have h0 := hv_.2 ga;refine dv (aB (aa (ao ?_)));refine cq ?_;exact ⟨rfl, hh.below⟩
 | false =>
  have h0 : ¬ 0 ≤ v_ := fun h => by rw [hv_.1 h] at ga; cases ga
  refine dv (aB (aa (ao ?_)));refine cq ?_;exact ⟨rfl, hh.below⟩
theorem pI (L : Option Addr) (n c : Nat) (fs : List FX) (k : Nat) (w : World) (hT : eP w) (hL : Sl w L n 2 (aY FX.cells fs)) (hn : n ≤ 1000000) (hf : ∀ f ∈ fs, f.at_ w) (hl : ∀ f ∈ fs, f.iu k) :
  Calls Tryz.prog 200 #[.slice L n c] w fun r w' => r = .returned (.int .i64 (ix fs)) ∧ Below w.heap.size w w' := by
 have hh := Hp.start w;have hln := hL.bM FX.len Kz;refine al (N := 26) (l := [.slice L n c]) Tryz.func200 rfl rfl (by simp) ?_;refine sr ?_;refine db hh [_] ?_;intro b1 w1 hh;refine aI (aa (ah (sr ?_)));refine bR hh 0 ?_;refine aW (mI (aa (aj ?_)));refine bm [2, 4, 5, 8, 9, 10, 11, 12, 13, 14, 15, 16, 17] 8
  (fun v w' => ∃ i : Nat, i ≤ n ∧ v = .int .i64 i ∧ (fs.take i).any (fun f => decide (f.e ≠ 0)) = false ∧ Hp w [.blk b1 195 [.slice L n c] (0, 0)] w')
  (fun v _ => n - (intOf v).toNat) ?_ ?_
 ·exact ⟨0, Nat.zero_le _, rfl, rfl, hh⟩
 ·clear hh;rintro ρ' v w' ⟨i, hi, rfl, hall, hh⟩;by_cases hlt : i < n
  ·obtain ⟨f, hx⟩ := ay (l := fs) (k := i) Ky;have hmem := List.mem_of_getElem? hx;have hc := fun w1 hT1 hb => Ab f k w1 hT1 ((hf f hmem).ext hb) (hl f hmem);obtain ⟨ad, rfl, hr⟩ := hL.at_ Ky;by_cases he : f.e = 0
   ·refine sr ?_;refine aK (aa (ah (cT (ak (ai (ah (aj (sr ?_))))))));refine aD (k := i) aQ.out aF.size rfl rfl Ky Ky Kz ?_;refine bJ (vs := [_, _]) aF.out rfl ((hr.ext hh.below).recAt FX.len hx) rfl Kz ?_;refine cB hh ?_;intro b4 w4 hh;refine bK hh 0 [_,_] ?_;intro ws hh;replace hh : Hp _ (.blk _ _ [_, _] _ :: _) _ := hh;refine aa (sr ?_);refine cR hh 0 [_,_] ?_;refine bE hh (hc _ (hT.hp hh) hh.below) rfl ?_;intro w13 hh;refine aI (aa (sr (mI ?_)));refine cL (aa (cF (ak (aP (ai (aq ?_))))));refine bB (mI (aE (ai ?_)));replace hh := hh.sub (List.Sublist.cons _ (List.Sublist.cons_cons _ List.Sublist.slnil));refine ⟨⟨i + 1, Ky, rfl, by rw [aH hx, List.any_append, hall, List.any_cons, List.any_nil, decide_eq_false Ky]; rfl, hh⟩, by show n - (i + 1) < n - i; omega, ?_⟩;exact KB
   ·refine sr ?_;refine aK (aa (ah (cT (ak (ai (ah (aj (sr ?_))))))));refine aD (k := i) aQ.out aF.size rfl rfl Ky Ky Kz ?_;refine bJ (vs := [_, _]) aF.out rfl ((hr.ext hh.below).recAt FX.len hx) rfl Kz ?_;refine cB hh ?_;intro b4 w4 hh;refine bK hh 0 [_,_] ?_;intro ws hh;replace hh : Hp _ (.blk _ _ [_, _] _ :: _) _ := hh;refine aa (sr ?_);refine cR hh 0 [_,_] ?_;refine bE hh (hc _ (hT.hp hh) hh.below) rfl ?_;intro w13 hh;refine aI (aa (sr (mI ?_)));refine cL (aa (cT (sr (mI (aI (aa (ao (bD (aG (aG (bD (aG ?_))))))))))));refine cq ?_;refine ⟨?_, hh.below⟩;unfold ix;rw [o6 hall hx (decide_eq_true he)]
  ·rw [List.take_of_length_le Ky] at hall;have hlk : ix fs = if fs.length = 0 ∨ HP fs = true then 1 else 0 := by unfold ix; rw [iF hall]
   rw [hlk];by_cases h0 : n = 0
   ·refine sr ?_;refine aK (aa (ah (cF (aJ (az (az (aX (ai (ah (sr ?_))))))))));refine bR hh 0 ?_;refine aW ?_;refine dh (mB ?_);refine gS (gS ?_);refine cn Kz rfl rfl Kz ?_;refine e7 ?_;refine aa (cT (sr (aI (aa (ao (aG ?_))))));refine cq ?_;exact ⟨by rw [if_pos (.inl Ky)], hh.below⟩
   ·have hcell : w'.cell? ⟨b1, 0, none⟩ = some (.slice L n c) := hh.ja (i := 0) rfl rfl;have ho := fun w1 hb => yB L n c fs 245 [.pointer (some ⟨b1, 0, none⟩)] (fun f => decide (f.n ≠ (fs.map FX.n).headD 0)) w1 (hL.ext (hh.below.trans (hb.mono hh.below.size))) hn (fun z w2 hz hb2 => zn L n c fs z ⟨b1, 0, none⟩ w2 ((hL.ext (hh.below.trans (hb.mono hh.below.size))).ext hb2) (cO hb2 (cO hb hcell)) Ky)
    cases hod : HP fs with
    | true =>
     have hod2 : fs.any (fun f => decide (f.n ≠ (fs.map FX.n).headD 0)) = true := hod;rw [hod2] at ho;refine sr ?_;refine aK (aa (ah (cF (aJ (az (az (aX (ai (ah (sr ?_))))))))));refine bR hh 0 ?_;refine aW ?_;refine dh (mB (gT ?_));refine bR hh 0 ?_;refine gT ?_;refine fW rfl (a7 (lJ rfl) bQ) Kz ?_;refine aV rfl rfl ?_;refine bE hh (ho _ (Below.refl _ _)) rfl ?_;intro w24 hh;refine eX ?_;refine aa (cT (sr (aI (aa (ao (aG ?_))))));refine cq ?_;exact ⟨by rw [if_pos (.inr rfl)], hh.below⟩
    | false =>
     have hod2 : fs.any (fun f => decide (f.n ≠ (fs.map FX.n).headD 0)) = false := hod;rw [hod2] at ho;refine sr ?_;refine aK (aa (ah (cF (aJ (az (az (aX (ai (ah (sr ?_))))))))));refine bR hh 0 ?_;refine aW ?_;refine dh (mB (gT ?_));refine bR hh 0 ?_;refine gT ?_;refine fW rfl (a7 (lJ rfl) bQ) Kz ?_;refine aV rfl rfl ?_;refine bE hh (ho _ (Below.refl _ _)) rfl ?_;intro w24 hh;refine eX ?_;refine aa (cF (ak (ai (sr (aI (aa (ao ?_)))))));refine cq ?_;refine ⟨?_, hh.below⟩;rw [if_neg];rintro (h | h)
     ·omega
     ·cases h
end Go.Proofs.YtaapkaefelhfcaaGreatDoor
/- Arguments opened: forms. -/
namespace Go.Proofs.YtaapkaefelhfcaaGreatDoor
open Go.ChangeShapes Go.WideShapes Go.ChangeAt Go.RowKit Go.ChangeMaps
end Go.Proofs.YtaapkaefelhfcaaGreatDoor
/- Arguments opened: a form, with the room that its degrees have. -/
namespace Go.Proofs.YtaapkaefelhfcaaGreatDoor
open Go.ChangeShapes Go.WideShapes Go.ChangeAt Go.RowKit Go.ChangeMaps
set_option maxRecDepth 100000 in
theorem yF {H : Type} {enc : TypeId × Value → H} {W : World} {r : Reach} {base b0 : Nat} {sp : Nat → Bool} {held : Bool} {v : Value} {d : DataW H} {ps : List MemPlace}
  (hval : Value.okWide Tryz.prog W r b0 52 v) (hd : DataW.Trod enc Tryz.prog W base sp held 52 v d ps) : ∃ (A : Option Addr) (n c : Nat) (l : List Int), v = .slice A n c ∧ Sl W A n 1 (bG l) ∧ n ≤ c := by
 obtain ⟨A, n, c, l, rfl, h2, _⟩ := BA hval hd;obtain ⟨fuel, hf⟩ := hd;exact ⟨A, n, c, l, rfl, h2, sU Tryz.underlying52 hf⟩
end Go.Proofs.YtaapkaefelhfcaaGreatDoor
/- Arguments opened: all kinds. -/
/- The walk through lift.Raise. -/
namespace Go.Proofs.YtaapkaefelhfcaaGreatDoor
open Go.RowKit
def lN (p : Int × Int) : Bool := decide (p.2 < p.1 ∨ 127 < p.2)
def p7 (ds es : List Int) : Int := if es.length ≠ ds.length then 1 else if (ds.zip es).any lN = true then 1 else if 4096 < av (es.map Int.toNat) then 3 else 0
def gy (a b : List Nat) : List Nat := List.zipWith (· - ·) a b
def k5 (ns ts : List Nat) (xs : List Dyadic) : List Dyadic := lr ns (gy ts ns) xs ((sJ (gy ts ns)).map nD)
theorem oB : ∀ {ns ts : List Nat}, ns.length = ts.length → (∀ (i n t : Nat), ns[i]? = some n → ts[i]? = some t → n ≤ t) → da ns (gy ts ns) = ts
 | [], [], _, _ => rfl
 | [], _ :: _, h, _ => by simp at h
 | _ :: _, [], h, _ => by simp at h
 | n :: ns, t :: ts, h, h2 => by
  have h0 := h2 0 n t rfl rfl;have ih := oB (ns := ns) (ts := ts) (by simpa using h) fun i a b ha hb => h2 (i + 1) a b ha hb;show (n + (t - n)) :: da ns (gy ts ns) = _;rw [ih, show n + (t - n) = t by omega]
theorem tw : ∀ {a b : List Nat}, a.length = b.length → (∀ (i x y : Nat), a[i]? = some x → b[i]? = some y → x ≤ y) → av a ≤ av b
 | [], [], _, _ => Nat.le_refl _
 | [], _ :: _, h, _ => by simp at h
 | _ :: _, [], h, _ => by simp at h
 | x :: a, y :: b, h, h2 => by
  have h0 := h2 0 x y rfl rfl;rw [av, av];exact Nat.mul_le_mul Ky (tw (by simpa using h) fun i p q hp hq => h2 (i + 1) p q hp hq)
theorem z3 {a b : List Nat} {i x y : Nat} (h1 : a[i]? = some x) (h2 : b[i]? = some y) : (gy a b)[i]? = some (x - y) := by
 unfold gy;rw [List.getElem?_zipWith, h1, h2]
theorem r9 {a b : List Nat} (h : a.length = b.length) : (gy a b).length = a.length := by simp [gy, h]
def H3 (es ds : List Int) : List Int := List.zipWith (· - ·) es ds
theorem G2 {es ds : List Int} {i : Nat} {x y : Int} (h1 : es[i]? = some x) (h2 : ds[i]? = some y) : (H3 es ds)[i]? = some (x - y) := by
 unfold H3;rw [List.getElem?_zipWith, h1, h2]
theorem Av : ∀ {ts ns : List Nat}, ns.length = ts.length → (∀ (i n t : Nat), ns[i]? = some n → ts[i]? = some t → n ≤ t) → H3 (bu ts) (bu ns) = bu (gy ts ns)
 | [], [], _, _ => rfl
 | [], _ :: _, h, _ => by simp at h
 | _ :: _, [], h, _ => by simp at h
 | t :: ts, n :: ns, h, h2 => by
  have h0 := h2 0 n t rfl rfl;have ih := Av (ns := ns) (ts := ts) (by simpa using h) fun i a b ha hb => h2 (i + 1) a b ha hb;show ((t : Int) - (n : Int)) :: H3 (bu ts) (bu ns) = ((t - n : Nat) : Int) :: bu (gy ts ns);rw [ih, show (t : Int) - (n : Int) = ((t - n : Nat) : Int) by omega]
theorem u9 {ns : List Nat} {es : List Int} (hl : es.length = (bu ns).length) (hb : ((bu ns).zip es).any lN = false) : ∃ ts : List Nat, es = bu ts ∧ ns.length = ts.length ∧ (∀ (i n t : Nat), ns[i]? = some n → ts[i]? = some t → n ≤ t) ∧ ∀ t ∈ ts, t ≤ 127 := by
 have key : ∀ (i : Nat) (d : Int), es[i]? = some d → ∃ n, ns[i]? = some n ∧ (n : Int) ≤ d ∧ d ≤ 127 := fun i d hd => by
  have hi := (List.getElem?_eq_some_iff.1 hd).1;rw [hl, cU] at hi;obtain ⟨n, hn⟩ := ay hi;have hz : ((n : Int), d) ∈ (bu ns).zip es := List.mem_of_getElem? (i := i) (by rw [List.getElem?_zip_eq_some]; exact ⟨eu hn, hd⟩);have := List.any_eq_false.1 hb _ hz;simp [lN] at this;exact ⟨n, hn, Ky, Ky⟩
 refine ⟨es.map Int.toNat, ?_, by rw [List.length_map, hl, cU], fun i n t hn ht => ?_, fun t ht => ?_⟩
 ·unfold bu;rw [List.map_map];refine (List.map_id' es).symm.trans (List.map_congr_left fun d hd => ?_);obtain ⟨i, hi⟩ := List.mem_iff_getElem?.1 hd;obtain ⟨n, _, h1, _⟩ := key i d hi;show d = ((d.toNat : Nat) : Int);omega
 ·rw [List.getElem?_map] at ht
  cases hd : es[i]? with
  | none => rw [hd] at ht; cases ht
  | some d =>
   rw [hd] at ht;obtain rfl : d.toNat = t := by simpa using ht
   obtain ⟨n', hn', h1, _⟩ := key i d hd;rw [hn] at hn';obtain rfl := Option.some.inj hn';omega
 ·obtain ⟨d, hd, rfl⟩ := List.mem_map.1 ht;obtain ⟨i, hi⟩ := List.mem_iff_getElem?.1 hd;obtain ⟨n, _, h1, h2⟩ := key i d hi;omega
theorem iC (ts : List Nat) : (bu ts).map Int.toNat = ts := by
 unfold bu;rw [List.map_map];exact List.map_id' ts
def Dv (e : Int) : Ending := .returned (.tuple #[.agg #[.slice none 0 0, .slice none 0 0], .int .i64 e])
theorem uZ {ds es : List Int} {i : Nat} {d e : Int} (h : ((ds.take i).zip (es.take i)).any lN = false) (hd : ds[i]? = some d) (he : es[i]? = some e) (hb : lN (d, e) = false) : ((ds.take (i + 1)).zip (es.take (i + 1))).any lN = false := by
 rw [aH hd, aH he, List.zip_append (by have := (List.getElem?_eq_some_iff.1 hd).1; have := (List.getElem?_eq_some_iff.1 he).1; simp; omega), List.any_append, h];show (false || ([(d, e)].any lN)) = false;rw [List.any_cons, hb]
 rfl
theorem n8 (f : FX) (E : Option Addr) (q cE : Nat) (es : List Int) (k : Nat) (w : World) (hT : eP w) (hf : f.at_ w) (hl : f.iu k) (hE : Sl w E q 1 (bG es)) (hq : q ≤ 1000) (hk : k ≤ 90000)
  (hM : f.e = 0 → p7 f.ds es = 0 → av (es.map Int.toNat) * av (f.ds.map Int.toNat) ≤ 1000000) :
  Calls Tryz.prog 38 #[.agg #[.slice f.A f.n f.a, .slice f.B f.m f.b], .slice E q cE] w fun r w' => ((f.e ≠ 0 ∧ r = Dv f.e ∨ f.e = 0 ∧ p7 f.ds es ≠ 0 ∧ r = Dv (p7 f.ds es)) ∧ Below w.heap.size w w') ∨
   (f.e = 0 ∧ p7 f.ds es = 0 ∧ ∃ (A : Option Addr) (a : Nat) (B : Option Addr) (b : Nat), r = .returned (.tuple #[.agg #[.slice A q a, .slice B (av (es.map Int.toNat)) b], .int .i64 0]) ∧ Hp w [.row B (av (es.map Int.toNat)) b 29 3 (aY NR.cells ((k5 (f.ds.map Int.toNat) (es.map Int.toNat) (f.cs.map NR.d)).map nR)), .row A q a 3 1 (bG es)] w') := by
 have hh := Hp.start w;have hln : f.ds.length = f.n := by have := hf.dg.1; simpa [bG] using this
 have hlq : es.length = q := by have := hE.1; simpa [bG] using this
 have hlm := hf.nm.bM NR.len Kz;have hck := fun w1 hT1 hb => Ab f k w1 hT1 (hf.ext hb) hl;have hn20 := hl.Jj;by_cases h0 : f.e = 0
 ·by_cases h1 : q = f.n
  ·obtain ⟨ns, xs, hv, hxs⟩ := GS h0;refine al (N := 66) (l := [.agg #[.slice f.A f.n f.a, .slice f.B f.m f.b], .slice E q cE]) Tryz.func38 rfl rfl (by simp) ?_;refine sr ?_;refine db hh [_,_] ?_;intro b2 w2 hh;refine cB hh ?_;intro b4 w4 hh;refine aI (aa (ah (sr ?_)));refine cR hh 1 [_,_] ?_;refine bE hh (hck _ (hT.hp hh) hh.below) rfl ?_;intro w11 hh;refine aI (aa (sr (mI ?_)));refine cL (aa (cF (ak (ai (ah (sr (mL (aW (bP ?_)))))))));refine bR hh 1 ?_;refine aW ?_;refine cL (aa (cF (ak (ai (sr ?_)))));refine e9 [_,_] ?_;refine cB hh ?_;intro b7 w7 hh;refine bK hh 0 [_,_] ?_;intro ws hh;replace hh : Hp _ (.blk _ _ [_, _] _ :: _) _ := hh;refine aa (ah (sr (mL (aW (mI (aa (aj ?_)))))));replace hh := hh.ef 3 1;refine bm [5, 8, 9, 26, 27, 28, 29, 30, 31, 32, 33, 34, 35, 36, 37, 38, 39, 40, 41, 42, 43, 44, 45, 46, 47, 48, 49, 50, 51, 52, 53, 54, 55] 26
    (fun v w' => ∃ (i c7 : Nat) (A : Option Addr), i ≤ q ∧ v = .int .i64 i ∧ ((f.ds.take i).zip (es.take i)).any lN = false ∧ Hp w [.row A i c7 3 1 (bG ((H3 es f.ds).take i)), .blk b7 61 [.slice A i c7, .slice none 0 0] (0, 0), .blk b4 61 [.slice none 0 0, .slice none 0 0] (0, 0), .blk b2 61 [.slice f.A f.n f.a, .slice f.B f.m f.b] (0, 0)] w')
    (fun v _ => q - (intOf v).toNat) ?_ ?_
   ·exact ⟨0, 0, none, Nat.zero_le _, rfl, rfl, hh⟩
   ·clear hh;rintro ρ' v w' ⟨i, c7, A, hi, rfl, hall, hh⟩;by_cases hlt : i < q
    ·obtain ⟨d, hd⟩ := ay (l := f.ds) (k := i) Ky;obtain ⟨e, he⟩ := ay (l := es) (k := i) Ky;have hgd := cx hd;have hge := cx he;have hde := G2 he hd;obtain ⟨a1, hA1, s1⟩ := hf.dg.at_ Ky;obtain ⟨a2, rfl, s2⟩ := hE.at_ Ky;have hdn : 0 ≤ d ∧ d ≤ 127 := by
      have hdeg := hv.Ju;rw [hdeg] at hd;have hlow := hv.low;obtain ⟨nn, hnn⟩ := ay (l := ns) (k := i) (by rw [← cU, ← hdeg, hln]; omega);rw [eu hnn] at hd;have := hlow nn (List.mem_of_getElem? hnn);have := Option.some.inj hd;omega
     have hbad : lN (d, e) = true → p7 f.ds es = 1 := fun hb => by
      unfold p7;rw [if_neg Ky, if_pos];exact List.any_eq_true.2 ⟨(d, e), List.mem_of_getElem? (i := i) (by rw [List.getElem?_zip_eq_some]; exact ⟨hd, he⟩), hb⟩
     rw [hA1] at hh;by_cases h2 : e < d
     ·have hr1 := hbad (by unfold lN; rw [decide_eq_true]; exact .inl h2);refine sr ?_;refine aK (aa (ah (cT (ak (ai (ah (aj (sr (mI ?_)))))))));refine aD (k := i) aQ.out aF.size rfl rfl Ky Ky Kz ?_;refine aZ aF.out rfl ((s2.ext hh.below).fP (by assumption)) Kz ?_;refine aI (aI (aa (ah (sr (mI (bP ?_))))));refine bR hh 3 ?_;refine mI ?_;refine aD (k := i) aQ.out aF.size rfl rfl Ky Ky Kz ?_;refine aZ aF.out rfl ((s1.ext hh.below).fP (by assumption)) Kz ?_;refine aK (mB ?_);refine gS (gS ?_);refine e7 ?_;refine aa (cT (sr ?_));refine e9 [_,_] ?_;refine bK hh 2 [_,_] ?_;intro ws hh;replace hh : Hp _ (_ :: _ :: .blk _ _ [_, _] _ :: _) _ := hh;refine aI (aa (ao (aG (bD (aG (aG (bD (aG ?_))))))));refine jG (aT rfl (aU (vs := [_, _]) aF.out (hh.aC (i := 2) (n := 2) rfl rfl) rfl) (cw (cM rfl) bq)) ?_;exact .inl ⟨.inr ⟨h0, by rw [hr1]; decide, by rw [hr1]; rfl⟩, hh.below⟩
     ·by_cases h3 : 127 < e
      ·have hr1 := hbad (by unfold lN; rw [decide_eq_true]; exact .inr h3);refine sr ?_;refine aK (aa (ah (cT (ak (ai (ah (aj (sr (mI ?_)))))))));refine aD (k := i) aQ.out aF.size rfl rfl Ky Ky Kz ?_;refine aZ aF.out rfl ((s2.ext hh.below).fP (by assumption)) Kz ?_;refine aI (aI (aa (ah (sr (mI (bP ?_))))));refine bR hh 3 ?_;refine mI ?_;refine aD (k := i) aQ.out aF.size rfl rfl Ky Ky Kz ?_;refine aZ aF.out rfl ((s1.ext hh.below).fP (by assumption)) Kz ?_;refine aK (mB (gT (mI (gT ?_))));refine ct ?_;refine eX ?_;refine aa (cT (sr ?_));refine e9 [_,_] ?_;refine bK hh 2 [_,_] ?_;intro ws hh;replace hh : Hp _ (_ :: _ :: .blk _ _ [_, _] _ :: _) _ := hh;refine aI (aa (ao (aG (bD (aG (aG (bD (aG ?_))))))));refine jG (aT rfl (aU (vs := [_, _]) aF.out (hh.aC (i := 2) (n := 2) rfl rfl) rfl) (cw (cM rfl) bq)) ?_;exact .inl ⟨.inr ⟨h0, by rw [hr1]; decide, by rw [hr1]; rfl⟩, hh.below⟩
      ·refine sr ?_;refine aK (aa (ah (cT (ak (ai (ah (aj (sr (mI ?_)))))))));refine aD (k := i) aQ.out aF.size rfl rfl Ky Ky Kz ?_;refine aZ aF.out rfl ((s2.ext hh.below).fP (by assumption)) Kz ?_;refine aI (aI (aa (ah (sr (mI (bP ?_))))));refine bR hh 3 ?_;refine mI ?_;refine aD (k := i) aQ.out aF.size rfl rfl Ky Ky Kz ?_;refine aZ aF.out rfl ((s1.ext hh.below).fP (by assumption)) Kz ?_;refine aK (mB (gT (mI (gT ?_))));refine ct ?_;refine eX ?_;refine aa (cF (ak (ai ?_)));refine a8 10 [[(7, none)], [(43, some 0)], [(9, none)], [(2, none)], [(46, some 3)], [(8, none)], [(47, some 4), (48, some 5)], [(49, some 6)], [(45, some 2), (50, some 7)], [(51, some 8)]] [(9, 52), (8, 51), (7, 50), (6, 49), (5, 48), (4, 47), (3, 46), (2, 45), (1, 44), (0, 43)] hh mixed KA ?_;refine eA ?_;refine fQ 1 ?_;refine fJ ?_;refine eA ?_;refine fQ 3 ?_;refine fJ ?_;refine mH (i) ?_;refine bF (i := 7) (fun ρ1 w1 hj hR => fO aF.out (show ρ1 49 = Value.pointer _ from hR.1) ((s1.ext hj.hp.below).fP (by assumption))) ?_;refine wB ?_;refine xw [_] ?_;refine bA ?_;intro f W hJ hV;have hb_12 := hJ.bl;obtain ⟨v52, v51, v50, v49, v48, v47, v46, v45, v44, v43, _⟩ := hV
       obtain ⟨A52, c52, e52, f52⟩ : Rows _ _ _ (f 9) W := v52;replace hh := hJ.hp;refine bj (bC (ae e52 (ae v51 (ae v50 (ae v49 (ae v48 (ae v47 (ae v46 (ae v45 (ae v44 (ae v43 bh))))))))))) ?_;dsimp only [cP];clear e52 hJ;refine cz hh (i := 0) rfl rfl rfl (f52) aQ.out aF.out rfl Kz (by first | rfl | exact cD _ | exact cm _ | exact bH _ | exact bO NR.one _) Ky Ky Kz ?_;intro A53 c53 w53 hh;simp only [List.set_cons_zero] at hh;refine bP ?_;refine bK hh 1 [_] ?_;intro ws hh;replace hh : Hp _ (_ :: .blk _ _ [_, _] _ :: _) _ := hh;refine aE (aP (ai (aq ?_)));refine bB (mI (aE (ai ?_)));rw [← hA1] at hh;replace hh := hh.sub (List.Sublist.cons_cons _ (List.Sublist.cons_cons _ (List.Sublist.cons_cons _ (List.Sublist.cons_cons _ List.Sublist.slnil))));refine ⟨⟨i + 1, c53, A53, Ky, rfl, uZ hall hd he (by unfold lN; rw [decide_eq_false]; show ¬(e < d ∨ 127 < e); omega), ?_⟩, by show q - (i + 1) < q - i; omega, ?_⟩
       ·rw [aH hde, wI];exact hh
       ·exact KB
    ·obtain rfl : i = q := Ky;rw [List.take_of_length_le Ky, List.take_of_length_le Ky] at hall;have hdeg := hv.Ju;have hnum := hv.num;have hlow := hv.low;have hlen := hv.len;have hfew := hv.HY;rw [hdeg] at hall hln;obtain ⟨ts, rfl, hlt2, hle, ht127⟩ := u9 (by rw [hln]; omega) hall;have hnl : ns.length = f.n := by rw [← cU]; exact hln
     have htn : (bu ts).map Int.toNat = ts := iC ts;have hnn : f.ds.map Int.toNat = ns := by rw [hdeg]; exact iC ns
     have hrz : p7 f.ds (bu ts) = if 4096 < av ts then 3 else 0 := by
      unfold p7;rw [hdeg, if_neg (by rw [cU, cU]; omega), if_neg (by rw [hall]; decide), htn]
     rw [htn, hnn] at hM;rw [htn, hnn, hrz, ← hxs];rw [hrz] at hM;have hbig := fun w1 hS1 => qN E i cE ts w1 hS1 hq (fun d hd => by have := ht127 d hd; omega);have hany : ts.any (fun d => decide (127 < d)) = false := List.any_eq_false.2 fun d hd => by have := ht127 d hd; simp; omega
     by_cases h4 : 4096 < av ts
     ·have hb1 : pT ts = true := by unfold pT; rw [decide_eq_true h4, Bool.or_true]
      rw [hb1] at hbig;rw [if_pos h4];refine sr ?_;refine aK (aa (ah (cF (aJ (az (az (aX (ai (ah (sr (mL ?_)))))))))));refine bE hh (hbig _ (hE.ext hh.below)) rfl ?_;intro w57 hh;refine aa (cT (sr ?_));refine e9 [_,_] ?_;refine bK hh 2 [_,_] ?_;intro ws hh;replace hh : Hp _ (_ :: _ :: .blk _ _ [_, _] _ :: _) _ := hh;refine aI (aa (ao (aG ?_)));refine jG (aT rfl (aU (vs := [_, _]) aF.out (hh.aC (i := 2) (n := 2) rfl rfl) rfl) (cw (cM rfl) bq)) ?_;exact .inl ⟨.inr ⟨h0, Kz, rfl⟩, hh.below⟩
     ·have hb1 : pT ts = false := by unfold pT; rw [hany, decide_eq_false h4]; rfl
      rw [hb1] at hbig;rw [if_neg h4] at hM;rw [if_neg h4];have hM2 := hM h0 rfl;have hsl : (gy ts ns).length = i := by rw [r9 Ky, ← cU]; exact hlq
      have hsub : ∀ d ∈ gy ts ns, d ≤ 127 := fun d hd => by
       obtain ⟨j, hj⟩ := List.mem_iff_getElem?.1 hd;have hj2 := (List.getElem?_eq_some_iff.1 hj).1;obtain ⟨x, hx⟩ := ay (l := ts) (k := j) (by rw [cU] at hlq; omega);obtain ⟨y, hy⟩ := ay (l := ns) (k := j) Ky;rw [z3 hx hy] at hj;have := ht127 x (List.mem_of_getElem? hx);have := Option.some.inj hj;omega
      have hcs : av (gy ts ns) ≤ av ts := tw (by rw [hsl, ← cU]; exact hlq.symm) fun j x y hx hy => by
       have hj2 := (List.getElem?_eq_some_iff.1 hx).1;obtain ⟨z, hz⟩ := ay (l := ns) (k := j) Ky;rw [z3 hy hz] at hx;have := Option.some.inj hx;omega
      have hadd : da ns (gy ts ns) = ts := oB hlt2 hle;have hdif : H3 (bu ts) f.ds = bu (gy ts ns) := by rw [hdeg]; exact Av hlt2 hle
      have hwn : DY (gy ts ns) = ((sJ (gy ts ns)).map nD).map nR := by unfold DY; rw [List.map_map]; rfl
      have hw12 : (gy ts ns).length ≤ 12 := Ky;have hwz : ∀ y ∈ (sJ (gy ts ns)).map nD, Sz 1600 y := fun y hy => by
       obtain ⟨x, hx, rfl⟩ := List.mem_map.1 hy;exact DR hx hw12 hsub
      have hxz : ∀ x ∈ xs, Sz k x := fun x hx => by
       rw [hxs] at hx;obtain ⟨c, hc, rfl⟩ := List.mem_map.1 hx;exact (hl.num c hc).2
      have hpair : av (gy ts ns) * av ns ≤ av ts * av ns := Nat.mul_le_mul_right _ hcs;have hfm : f.m = av ns := by rw [← hlm, hnum, List.length_map, hlen]
      have htm := fun w1 hT1 A B c3 c4 h1 h2 h3 h4' => nL f.A f.B A B i f.a f.b c3 c4 ns (gy ts ns) xs ((sJ (gy ts ns)).map nD) k 1600 w1 hT1 h1 h2 h3 h4' Ky hlow hsub (by rw [hadd]; omega) Ky hxz hwz Ky;rw [hadd] at htm;have hdg := hf.dg;have hnm := hf.nm;rw [hdeg] at hdg;rw [hnum, hfm] at hnm;rw [List.take_of_length_le (by rw [hdif, cU]; omega), hdif] at hh;rw [hfm] at hh;rw [show f.n = i by omega] at hh hdg;refine sr ?_;refine aK (aa (ah (cF (aJ (az (az (aX (ai (ah (sr (mL ?_)))))))))));refine bE hh (hbig _ (hE.ext hh.below)) rfl ?_;intro w57 hh;refine aa (cF (ak (ai (sr (bP ?_)))));refine bR hh 1 ?_;refine aN (r3 A i c7 (gy ts ns) _ (hT.hp hh) (hh.aM (i := 0) rfl) hw12 hsub Ky) aw.out rfl Kz ?_;rintro e_ w61 ⟨A61, c61, rfl, hown_, hb_⟩;refine ⟨_, rfl, ?_⟩;replace hh := hh.bz (x := .row _ _ _ _ _ _) hb_ hown_;rw [hwn] at hh;refine bP ?_;refine bK hh 2 [_] ?_;intro ws hh;replace hh : Hp _ (_ :: _ :: .blk _ _ [_, _] _ :: _) _ := hh;refine aa (sr ?_);refine cR hh 4 [_,_] ?_;refine cR hh 2 [_,_] ?_;refine aN (htm _ (hT.hp hh) _ _ _ _ (hdg.ext hh.below) (hnm.ext hh.below) (hh.aM (i := 1) rfl) (hh.aM (i := 0) rfl)) aw.out rfl Kz ?_;rintro e_ w65 ⟨Ar, cr, Br, br, rfl, h2⟩
      refine ⟨_, rfl, ?_⟩;replace hh := hh.join h2;clear h2;refine bK hh 5 [_,_] ?_;intro ws hh;replace hh : Hp _ (_ :: _ :: _ :: _ :: _ :: .blk _ _ [_, _] _ :: _) _ := hh;refine aI (aa (ao ?_));refine jG (aT rfl (aU (vs := [_, _]) aF.out (hh.aC (i := 5) (n := 2) rfl rfl) rfl) (cw (cM rfl) bq)) ?_;exact .inr ⟨h0, rfl, _, _, _, _, rfl, hh.sub (List.Sublist.cons_cons _ (List.Sublist.cons_cons _ (List.nil_sublist _)))⟩
  ·have hrz : p7 f.ds es = 1 := by unfold p7; rw [if_pos Ky]
   refine al (N := 66) (l := [.agg #[.slice f.A f.n f.a, .slice f.B f.m f.b], .slice E q cE]) Tryz.func38 rfl rfl (by simp) ?_;refine sr ?_;refine db hh [_,_] ?_;intro b2 w2 hh;refine cB hh ?_;intro b4 w4 hh;refine aI (aa (ah (sr ?_)));refine cR hh 1 [_,_] ?_;refine bE hh (hck _ (hT.hp hh) hh.below) rfl ?_;intro w11 hh;refine aI (aa (sr (mI ?_)));refine cL (aa (cF (ak (ai (ah (sr (mL (aW (bP ?_)))))))));refine bR hh 1 ?_;refine aW ?_;refine cL (aa (cT (sr ?_)));refine e9 [_,_] ?_;refine bK hh 0 [_,_] ?_;intro ws hh;replace hh : Hp _ (.blk _ _ [_, _] _ :: _) _ := hh;refine aI (aa (ao (aG ?_)));refine jG (aT rfl (aU (vs := [_, _]) aF.out (hh.aC (i := 0) (n := 2) rfl rfl) rfl) (cw (cM rfl) bq)) ?_;exact .inl ⟨.inr ⟨h0, by rw [hrz]; decide, by rw [hrz]; rfl⟩, hh.below⟩
 ·refine al (N := 66) (l := [.agg #[.slice f.A f.n f.a, .slice f.B f.m f.b], .slice E q cE]) Tryz.func38 rfl rfl (by simp) ?_;refine sr ?_;refine db hh [_,_] ?_;intro b2 w2 hh;refine cB hh ?_;intro b4 w4 hh;refine aI (aa (ah (sr ?_)));refine cR hh 1 [_,_] ?_;refine bE hh (hck _ (hT.hp hh) hh.below) rfl ?_;intro w11 hh;refine aI (aa (sr (mI ?_)));refine cL (aa (cT (sr ?_)));refine e9 [_,_] (mI ?_);refine bK hh 0 [_,_] ?_;intro ws hh;replace hh : Hp _ (.blk _ _ [_, _] _ :: _) _ := hh;refine aI (aa (ao (aG ?_)));refine jG (aT rfl (aU (vs := [_, _]) aF.out (hh.aC (i := 0) (n := 2) rfl rfl) rfl) (cw (cM rfl) bq)) ?_;exact .inl ⟨.inl ⟨h0, rfl⟩, hh.below⟩
end Go.Proofs.YtaapkaefelhfcaaGreatDoor
/- The walk through lift.raised. -/
namespace Go.Proofs.YtaapkaefelhfcaaGreatDoor
open Go.RowKit
def FX.jn (f : FX) : HE := .row f.B f.m f.b 29 3 (aY NR.cells f.cs)
def FX.jc (f : FX) : HE := .row f.A f.n f.a 3 1 (bG f.ds)
def jP : List FX → List HE
 | [] => []
 | f :: fs => f.jn :: f.jc :: jP fs
theorem vm (a b : List FX) : jP (a ++ b) = jP a ++ jP b := by
 induction a with
 | nil => rfl
 | cons f a ih => rw [List.cons_append, jP, jP, ih]; rfl
theorem BX {f : FX} {fs : List FX} (h : f ∈ fs) : f.jn ∈ jP fs ∧ f.jc ∈ jP fs := by
 induction fs with
 | nil => cases h
 | cons g fs ih =>
  rcases List.mem_cons.1 h with rfl | h
  ·exact ⟨List.mem_cons_self, List.mem_cons_of_mem _ List.mem_cons_self⟩
  ·exact ⟨List.mem_cons_of_mem _ (List.mem_cons_of_mem _ (ih h).1), List.mem_cons_of_mem _ (List.mem_cons_of_mem _ (ih h).2)⟩
theorem Hp.ji {w0 w : World} {H : List HE} (h : Hp w0 H w) {f : FX} (h1 : f.jn ∈ H) (h2 : f.jc ∈ H) : f.at_ w := ⟨kZ (h.own _ h2), kZ (h.own _ h1)⟩
def jm (a b : List Nat) : List Nat := List.zipWith max a b
def maxD (fs : List FX) : List Nat := fs.foldl (fun a f => jm a (f.ds.map Int.toNat)) ((fs.map fun f => f.ds.map Int.toNat).headD [])
def eG (fs : List FX) : Int := if ix fs ≠ 0 then ix fs else if 4096 < av (maxD fs) then 3 else 0
theorem ml {fs : List FX} (h : ix fs = 0) : fs ≠ [] ∧ (∀ f ∈ fs, f.e = 0) ∧ ∀ f ∈ fs, f.n = (fs.map FX.n).headD 0 := by
 unfold ix at h;split at h
 ·rename_i f hf;have := List.find?_some hf;simp at this;exact absurd h this
 ·rename_i hf;split at h
  ·cases h
  rename_i hno;refine ⟨fun e => hno (.inl (by rw [e]; rfl)), fun f hm => ?_, fun f hm => ?_⟩
  ·have := List.find?_eq_none.1 hf f hm;simpa using this
  ·apply Classical.byContradiction;intro hne;exact hno (.inr (List.any_eq_true.2 ⟨f, hm, decide_eq_true hne⟩))
theorem lI {a b : List Nat} (h : a.length = b.length) : (jm a b).length = a.length := by simp [jm, h]
theorem ui {a b : List Nat} {i x y : Nat} (h1 : a[i]? = some x) (h2 : b[i]? = some y) : (jm a b)[i]? = some (max x y) := by
 unfold jm;rw [List.getElem?_zipWith, h1, h2]
theorem vc : ∀ (ls : List (List Nat)) (a : List Nat), (∀ l ∈ ls, l.length = a.length) → (ls.foldl jm a).length = a.length ∧ (∀ (i x y : Nat), a[i]? = some x → (ls.foldl jm a)[i]? = some y → x ≤ y) ∧ ∀ l ∈ ls, ∀ (i x y : Nat), l[i]? = some x → (ls.foldl jm a)[i]? = some y → x ≤ y
 | [], a, _ => ⟨rfl, fun i x y h1 h2 => by have h3 : a[i]? = some y := h2; rw [h1] at h3; cases h3; exact Nat.le_refl _, fun _ h => nomatch h⟩
 | l :: ls, a, h => by
  have hl := h l List.mem_cons_self;have h2 := lI hl.symm;obtain ⟨h3, h4, h5⟩ := vc ls (jm a l) fun m hm => by rw [h2]; exact h m (List.mem_cons_of_mem _ hm)
  refine ⟨by rw [List.foldl_cons, h3, h2], fun i x y hx hy => ?_, fun m hm i x y hx hy => ?_⟩
  ·have hi := (List.getElem?_eq_some_iff.1 hx).1;obtain ⟨z, hz⟩ := ay (l := l) (k := i) Ky;have := h4 i (max x z) y (ui hx hz) hy;omega
  ·rcases List.mem_cons.1 hm with rfl | hm
   ·have hi := (List.getElem?_eq_some_iff.1 hx).1;obtain ⟨z, hz⟩ := ay (l := a) (k := i) Ky;have := h4 i (max z x) y (ui hz hx) hy;omega
   ·exact h5 m hm i x y hx hy
theorem uu (B : Nat) : ∀ (ls : List (List Nat)) (a : List Nat), (∀ x ∈ a, x ≤ B) → (∀ l ∈ ls, ∀ x ∈ l, x ≤ B) → ∀ x ∈ ls.foldl jm a, x ≤ B
 | [], _, h, _ => h
 | l :: ls, a, h, h2 => uu B ls (jm a l) (fun x hx => by
   obtain ⟨i, hi⟩ := List.mem_iff_getElem?.1 hx;unfold jm at hi;rw [List.getElem?_zipWith] at hi
   cases h3 : a[i]? with
   | none => rw [h3] at hi; cases hi
   | some p =>
    cases h4 : l[i]? with
    | none => rw [h3, h4] at hi; cases hi
    | some q =>
     rw [h3, h4] at hi;have h5 : max p q = x := by simpa using hi
     have := h p (List.mem_of_getElem? h3);have := h2 l List.mem_cons_self q (List.mem_of_getElem? h4);omega) fun m hm => h2 m (List.mem_cons_of_mem _ hm)
end Go.Proofs.YtaapkaefelhfcaaGreatDoor
