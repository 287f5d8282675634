/- Lemmas for calcSlopes, part 5. -/
import Derived.Test.YteeckcbbnegmcaaGreatDoorZ4
/- The walks through poly.C0 and poly.Check. -/
namespace Go.Proofs.YteeckcbbnegmcaaGreatDoor
open Go.RowKit
def gl (v : Int) : Bool := decide (0 ≤ v) && decide (v ≤ 12)
theorem gE {v : Int} : gl v = true ↔ 0 ≤ v ∧ v ≤ 12 := by unfold gl; rw [Bool.and_eq_true, decide_eq_true_eq, decide_eq_true_eq]
theorem mE (v : Int) (w : World) : Calls Tryz.prog 134 #[.int .i64 v] w fun r w' => r = .returned (.bool (gl v)) ∧ Below w.heap.size w w' := by
 have hh := Hp.start w;unfold gl;by_cases h1 : 0 ≤ v
 ·rw [decide_eq_true h1, Bool.true_and];by_cases h2 : v ≤ 12
  ·rw [decide_eq_true h2];refine aj (N := 9) (l := [.int .i64 v]) Tryz.func134 rfl rfl (by simp) ?_;refine sr (aB (aa (sr (mI ?_))));refine dE (mB ?_);first | refine gS ?_ | (refine gT ?_; refine mI ?_) | refine gV ?_
   first | refine gS ?_ | (refine gT ?_; refine uN ?_) | refine gV ?_
   first | refine cW ?_ | refine cX ?_
   refine aB (aa (al ?_));refine cA ?_;exact ⟨rfl, hh.below⟩
  ·rw [decide_eq_false h2];refine aj (N := 9) (l := [.int .i64 v]) Tryz.func134 rfl rfl (by simp) ?_;refine sr (aB (aa (sr (mI ?_))));refine dE (mB ?_);first | refine gS ?_ | (refine gT ?_; refine mI ?_) | refine gV ?_
   first | refine gS ?_ | (refine gT ?_; refine uN ?_) | refine gV ?_
   first | refine cW ?_ | refine cX ?_
   refine aB (aa (al ?_));refine cA ?_;exact ⟨rfl, hh.below⟩
 ·rw [decide_eq_false h1, Bool.false_and];refine aj (N := 9) (l := [.int .i64 v]) Tryz.func134 rfl rfl (by simp) ?_;refine sr (aB (aa (sr (mI ?_))));refine dE (mB ?_);first | refine gS ?_ | (refine gT ?_; refine mI ?_) | refine gV ?_
  first | refine gS ?_ | (refine gT ?_; refine uN ?_) | refine gV ?_
  first | refine cW ?_ | refine cX ?_
  refine aB (aa (al ?_));refine cA ?_;exact ⟨rfl, hh.below⟩
def Cx (a : NR) : Bool := decide ((nR a.d).neg = a.neg) && (decide ((nR a.d).bM = a.bM) && decide ((nR a.d).e = a.e))
theorem nO (a : NR) : Cx a = true ↔ nR a.d = a := by
 unfold Cx;rw [Bool.and_eq_true, Bool.and_eq_true, decide_eq_true_eq, decide_eq_true_eq, decide_eq_true_eq];constructor
 ·rintro ⟨h1, h2, h3⟩;obtain ⟨s, m, e⟩ := a;generalize nR (NR.d ⟨s, m, e⟩) = b at *;obtain ⟨s', m', e'⟩ := b;simp only at h1 h2 h3;rw [h1, h2, h3]
 ·intro h;rw [h];exact ⟨rfl, rfl, rfl⟩
def kv (v : Int) (t : TR) : Bool := dq t.m.data.toList && decide ((t.m.size : Int) = v) && (rj t && Cx t.c)
def mw : List TR → Bool
 | [] => true
 | [_] => true
 | a :: b :: l => gf a.m b.m && mw (b :: l)
theorem qy : ∀ (l : List TR) (p x : TR), mw (l ++ [p, x]) = (mw (l ++ [p]) && gf p.m x.m)
 | [], p, x => by show (gf p.m x.m && true) = (true && gf p.m x.m); rw [Bool.and_true, Bool.true_and]
 | [a], p, x => by
  show (gf a.m p.m && (gf p.m x.m && true)) = ((gf a.m p.m && true) && gf p.m x.m);rw [Bool.and_true, Bool.and_true]
 | a :: b :: l, p, x => by
  show (gf a.m b.m && mw ((b :: l) ++ [p, x])) = ((gf a.m b.m && mw ((b :: l) ++ [p])) && gf p.m x.m);rw [qy (b :: l) p x, Bool.and_assoc]
theorem vS : ∀ {l : List TR} {i : Nat} {p x : TR}, mw l = true → l[i]? = some p → l[i + 1]? = some x → gf p.m x.m = true
 | [], i, p, x, _, h, _ => by simp at h
 | [a], i, p, x, _, _, h => by simp at h
 | a :: b :: l, 0, p, x, h, h1, h2 => by
  simp only [List.getElem?_cons_zero, Option.some.injEq, Nat.zero_add, List.getElem?_cons_succ] at h1 h2;subst h1 h2;exact (Bool.and_eq_true_iff.1 h).1
 | a :: b :: l, i + 1, p, x, h, h1, h2 => by
  rw [List.getElem?_cons_succ] at h1 h2;exact vS (Bool.and_eq_true_iff.1 h).2 h1 h2
theorem lj : ∀ {l : List TR}, mw l = true ↔ pN l
 | [] => ⟨fun _ => List.Pairwise.nil, fun _ => rfl⟩
 | [a] => ⟨fun _ => List.pairwise_singleton _ _, fun _ => rfl⟩
 | a :: b :: l => by
  show (gf a.m b.m && mw (b :: l)) = true ↔ _;rw [Bool.and_eq_true, lj (l := b :: l)];constructor
  ·rintro ⟨h1, h2⟩;refine List.pairwise_cons.2 ⟨fun t ht => ?_, h2⟩
   rcases List.mem_cons.1 ht with rfl | ht
   ·exact h1
   ·exact g6 h1 ((List.pairwise_cons.1 h2).1 t ht)
  ·intro h;have := List.pairwise_cons.1 h;exact ⟨this.1 b List.mem_cons_self, this.2⟩
def okB (v : Int) (ts : List TR) : Bool := ts.all (kv v) && mw ts
def gJ (v : Int) (ts : List TR) : Int := if gl v = false then 1 else if 4096 < ts.length then 3 else if okB v ts = true then 0 else 1
theorem yl {v : Int} {ts : List TR} (h1 : gl v = true) (h2 : ¬ 4096 < ts.length) (h : okB v ts = false) : gJ v ts = 1 := by
 unfold gJ;rw [if_neg (by rw [h1]; decide), if_neg h2, if_neg (by rw [h]; decide)]
theorem rB {v : Int} {ts : List TR} {i : Nat} {x : TR} (hx : ts[i]? = some x) (h : kv v x = false) : okB v ts = false := by
 unfold okB;rw [Bool.and_eq_false_iff];refine .inl (Bool.eq_false_iff.2 fun h2 => ?_);rw [List.all_eq_true.1 h2 x (List.mem_of_getElem? hx)] at h
 cases h
theorem y2 {v : Int} {ts : List TR} {i : Nat} {p x : TR} (hp : ts[i]? = some p) (hx : ts[i + 1]? = some x) (h : gf p.m x.m = false) : okB v ts = false := by
 unfold okB;rw [Bool.and_eq_false_iff];refine .inr (Bool.eq_false_iff.2 fun h2 => ?_);rw [vS h2 hp hx] at h
 cases h
theorem rM (v : Int) (A : Option Addr) (n c : Nat) (ts : List TR) (w : World) (hT : gK w) (hS : Sl w A n 4 (aQ TR.cells ts)) (hn : n ≤ 1000000) (ho : ∀ t ∈ ts, t.c.ok ∧ t.m.size ≤ 100000) :
  Calls Tryz.prog 142 #[.agg #[.int .i64 v, .slice A n c]] w fun r w' => r = .returned (.int .i64 (gJ v ts)) ∧ Below w.heap.size w w' := by
 have hh := Hp.start w;have hln := hS.cI TR.len Dr;have hfw := fun w1 => mE v w1
 cases hf : gl v with
 | false =>
  rw [hf] at hfw;rw [show gJ v ts = 1 by unfold gJ; rw [if_pos hf]];refine aj (N := 58) (l := [.agg #[.int .i64 v, .slice A n c]]) Tryz.func142 rfl rfl (by simp) ?_;refine sr ?_;refine dp hh [_,_] ?_;intro b1 w1 hh;refine aI (aa (ah (sr (bG ?_))));refine bI hh 0 ?_;refine bB hh (hfw _) rfl ?_;intro w7 hh;refine gd ?_;refine aa (cT (sr (aI (aa (al (aH ?_))))));refine cA ?_;exact ⟨rfl, hh.below⟩
 | true =>
  rw [hf] at hfw;by_cases h4 : 4096 < n
  ·rw [show gJ v ts = 3 by unfold gJ; rw [if_neg (by rw [hf]; decide), if_pos Dq]];refine aj (N := 58) (l := [.agg #[.int .i64 v, .slice A n c]]) Tryz.func142 rfl rfl (by simp) ?_;refine sr ?_;refine dp hh [_,_] ?_;intro b1 w1 hh;refine aI (aa (ah (sr (bG ?_))));refine bI hh 0 ?_;refine bB hh (hfw _) rfl ?_;intro w7 hh;refine gd ?_;refine aa (cF (ak (ai (ah (sr (bG ?_))))));refine bI hh 0 ?_;refine a4 ?_;refine ct (aa (cT (sr (aI (aa (al (aH ?_)))))));refine cA ?_;exact ⟨rfl, hh.below⟩
  ·have hbad := fun h => yl (v := v) (ts := ts) hf Dq h;refine aj (N := 58) (l := [.agg #[.int .i64 v, .slice A n c]]) Tryz.func142 rfl rfl (by simp) ?_;refine sr ?_;refine dp hh [_,_] ?_;intro b1 w1 hh;refine aI (aa (ah (sr (bG ?_))));refine bI hh 0 ?_;refine bB hh (hfw _) rfl ?_;intro w7 hh;refine gd ?_;refine aa (cF (ak (ai (ah (sr (bG ?_))))));refine bI hh 0 ?_;refine a4 ?_;refine ct (aa (cF (ak (ai (ah (sr (bG ?_)))))));refine bI hh 0 ?_;refine a4 (mI (aa (ao ?_)));refine bF [2, 3, 4, 16, 17, 18, 19, 20, 21, 22, 23, 24, 25, 26, 27, 28, 29, 30, 31, 32, 33, 34, 35, 36, 37, 38, 39, 40, 41, 42, 43, 44, 45, 46, 47, 48, 49, 50, 51, 52, 53, 54, 55, 56, 57] 16
    (fun x w' => ∃ i : Nat, i ≤ n ∧ x = .int .i64 i ∧ (ts.take i).all (kv v) = true ∧ mw (ts.take i) = true ∧ Hp w [.blk b1 24 [.int .i64 v, .slice A n c] (0, 0)] w')
    (fun x _ => n - (intOf x).toNat) ?_ ?_
   ·exact ⟨0, Nat.zero_le _, rfl, rfl, rfl, hh⟩
   ·clear hh;rintro ρ' x_ w' ⟨i, hi, rfl, hall, hris, hh⟩;by_cases hlt : i < n
    ·obtain ⟨x, hx⟩ := aG (l := ts) (k := i) Dq;obtain ⟨ad, rfl, hr⟩ := hS.at_ Dq;obtain ⟨hxo, hxm⟩ := ho x (List.mem_of_getElem? hx);have hmay := fun w1 => iJ x.m v w1 Dq;have hsg := fun w1 => nl x.c w1;have hfo := fun w1 hT1 => ep x.c w1 hT1 (by have := hxo.1; omega) (by have := hxo.2.1; omega) (by have := hxo.2.2; omega);have hzz : x.c.i.sign = 0 ↔ x.c.d = 0 := by
      rw [Int.sign_eq_zero_iff_zero];exact ⟨fun h => by unfold NR.d; rw [h]; rfl, jx⟩
     cases hm : dq x.m.data.toList && decide ((x.m.size : Int) = v) with
     | false =>
      rw [hm] at hmay;rw [hbad (rB hx (by unfold kv; rw [hm]; rfl))];refine sr ?_;refine a3 (aa (ah (cT (ak (ai (ah (ao (sr (mI ?_)))))))));refine aZ (k := i) aF.out aC.size rfl rfl Dq Dq Dr ?_;refine bZ (vs := [_, _, _, _]) aC.out rfl ((hr.ext hh.below).recAt TR.len hx) rfl Dr ?_;refine cj hh ?_;intro b4 w4 hh;refine aI ?_;refine bD hh 0 [_,_,_,_] ?_;intro ws hh;replace hh : Hp _ (.blk _ _ [_, _, _, _] _ :: _) _ := hh;refine aa (ah ?_)
      refine cY [] [] [0, 1, 0, 4, 15, 31, 63, 127, 255, 511, 1023, 2047, 4095, 8191, 16383, 32767, 8191, 73727, 262143, 524287, 1048575, 2097151, 4194303, 8388607, 16777215, 33554431, 16777215, 83886079, 268435455, 536870911, 1073741823, 16777215, 2164260863, 8589934591, 17179869183, 34359738367] 33 [[(4, none)], [(21, some 0)], [(1, none)], [(23, some 2)], [(22, some 1), (24, some 3)], [(25, some 4)], [(26, some 5)], [(4, none), (27, some 6)], [(28, some 7), (27, some 6)], [(29, some 8), (27, some 6)], [(30, some 9), (27, some 6)], [(27, some 6), (31, some 10)], [(32, some 11)], [(4, none), (33, some 12)], [(34, some 13), (33, some 12)], [(35, some 14), (33, some 12)], [(4, none), (33, some 12)], [(37, some 16), (33, some 12)], [(36, some 15), (38, some 17), (33, some 12)], [(33, some 12), (39, some 18)], [(40, some 19)], [(3, none), (41, some 20)], [(42, some 21), (41, some 20)], [(43, some 22), (41, some 20)], [(1, none), (44, some 23)], [(45, some 24), (44, some 23)], [(3, none), (44, some 23)], [(47, some 26), (44, some 23)], [(46, some 25), (48, some 27), (44, some 23)], [(49, some 28), (44, some 23)], [(50, some 29), (44, some 23)], [(4, none), (44, some 23)], [(52, some 31), (44, some 23)]] [(32, 53), (31, 52), (30, 51), (29, 50), (28, 49), (27, 48), (26, 47), (25, 46), (24, 45), (23, 44), (22, 43), (21, 42), (20, 41), (19, 40), (18, 39), (17, 38), (16, 37), (15, 36), (14, 35), (13, 34), (12, 33), (11, 32), (10, 31), (9, 30), (8, 29), (7, 28), (6, 27), (5, 26), (4, 25), (3, 24), (2, 23), (1, 22), (0, 21)] hh mixed Dt dI rfl (by repeat (first | exact bX | refine bE ?_ | refine bV ?_)) ?_
      refine dX ?_;refine fT 0 ?_;refine dX ?_;refine fT 1 ?_;refine dC (fun _ hj => hmay _) ?_;refine wk ?_;refine ky ?_;first | refine dS ?_ | refine dU ?_ | refine dG (dX ?_)
      first | refine dS ?_ | refine dU ?_ | refine dG (fX 0 [_,_,_] ?_)
      first | refine dS ?_ | refine dU ?_
      first | refine dS ?_ | refine dU ?_ | refine dG (pR ?_)
      first | refine rh ?_ | refine rQ ?_
      refine ky ?_;first | refine dS ?_ | refine dU ?_ | refine dG (dX ?_)
      first | refine dS ?_ | refine dU ?_ | refine dG (fX 0 [_,_,_] ?_)
      first | refine dS ?_ | refine dU ?_
      first | refine dS ?_ | refine dU ?_ | refine dG (dX ?_)
      first | refine dS ?_ | refine dU ?_ | refine dG (fX 0 [_,_,_] ?_)
      first | refine fQ (i := 18) rfl (fun ρ1 w1 hj hR => (show ρ1 33 = Value.bool _ from hR.2.2.1)) Dr ?_ | refine eU (i := 18) rfl (fun ρ1 w1 hj hR => (show ρ1 33 = undef from hR.2.2.1)) ?_ | refine ee (i := 18) rfl (fun ρ1 w1 hj hR => (show ρ1 33 = Value.bool _ from hR.2.2.1)) (fun ρ1 w1 hj hR => j7 (show ρ1 36 = Value.agg (List.toArray _) from hR.1) (show ρ1 38 = Value.agg (List.toArray _) from hR.2.1) (by first | assumption | rfl)) ?_ | refine ee (i := 18) rfl (fun ρ1 w1 hj hR => (show ρ1 33 = Value.bool _ from hR.2.2.1)) (fun ρ1 w1 hj hR => j8 (show ρ1 36 = Value.agg (List.toArray _) from hR.1) (show ρ1 38 = Value.agg (List.toArray _) from hR.2.1) (by assumption)) ?_
      first | refine rh ?_ | refine rQ ?_
      refine ky ?_;first | refine dS ?_ | refine dU ?_ | refine dG (fW ?_)
      first | refine dS ?_ | refine dU ?_ | refine dG (wg ?_)
      first | refine dS ?_ | refine dU ?_ | refine dG (ky ?_)
      first | refine dS ?_ | refine dU ?_ | refine dG (dX ?_)
      first | refine dS ?_ | refine dU ?_ | refine dG (fT 1 ?_)
      first | refine dS ?_ | refine dU ?_ | refine dG (fW ?_)
      first | refine dS ?_ | refine dU ?_ | refine dG (nD ?_)
      first | refine fQ (i := 28) rfl (fun ρ1 w1 hj hR => (show ρ1 44 = Value.bool _ from hR.2.2.1)) Dr ?_ | refine eU (i := 28) rfl (fun ρ1 w1 hj hR => (show ρ1 44 = undef from hR.2.2.1)) ?_ | refine ee (i := 28) rfl (fun ρ1 w1 hj hR => (show ρ1 44 = Value.bool _ from hR.2.2.1)) (fun ρ1 w1 hj hR => eg aF.out aC.size (show ρ1 46 = Value.slice _ _ _ from hR.1) (show ρ1 48 = Value.int _ _ from hR.2.1) rfl Dq) ?_
      first | refine dS ?_ | refine dU ?_ | refine dG (sX ?_)
      first | refine dS ?_ | refine dU ?_ | refine dG (kP (fun _ hj => hT) ?_)
      first | refine dS ?_ | refine dU ?_ | refine dG (dX ?_)
      first | refine dS ?_ | refine dU ?_ | refine dG (fT 0 ?_)
      refine bq ?_;intro f W hJ hV _;have hb_8 := hJ.bl;obtain ⟨v53, v52, v51, v50, v49, v48, v47, v46, v45, v44, v43, v42, v41, v40, v39, v38, v37, v36, v35, v34, v33, v32, v31, v30, v29, v28, v27, v26, v25, v24, v23, v22, v21, _⟩ := hV;replace hh := hJ.hp;refine a6 (bk (ae v53 (ae v52 (ae v51 (ae v50 (ae v49 (ae v48 (ae v47 (ae v46 (ae v45 (ae v44 (ae v43 (ae v42 (ae v41 (ae v40 (ae v39 (ae v38 (ae v37 (ae v36 (ae v35 (ae v34 (ae v33 (ae v32 (ae v31 (ae v30 (ae v29 (ae v28 (ae v27 (ae v26 (ae v25 (ae v24 (ae v23 (ae v22 (ae v21 a5)))))))))))))))))))))))))))))))))) ?_;dsimp only [cJ];clear hJ;first | refine gS ?_ | (refine gT ?_; refine gZ rfl rfl Dr ?_) | refine gV ?_
      first | refine gS ?_ | (refine gT ?_; (first | refine cW ?_ | refine cX ?_)) | refine gV ?_
      first | refine cW ?_ | refine cX ?_
      refine aa (cT (sr (aI (aa (al (bT (aH (aH (bT (aH ?_))))))))));refine cA ?_;exact ⟨rfl, hh.below⟩
     | true =>
      rw [hm] at hmay;by_cases hz : x.c.d = 0
      ·have hs := hzz.2 hz;rw [hbad (rB hx (by unfold kv rj; rw [hm, decide_eq_true hz]; rfl))];refine sr ?_;refine a3 (aa (ah (cT (ak (ai (ah (ao (sr (mI ?_)))))))));refine aZ (k := i) aF.out aC.size rfl rfl Dq Dq Dr ?_;refine bZ (vs := [_, _, _, _]) aC.out rfl ((hr.ext hh.below).recAt TR.len hx) rfl Dr ?_;refine cj hh ?_;intro b4 w4 hh;refine aI ?_;refine bD hh 0 [_,_,_,_] ?_;intro ws hh;replace hh : Hp _ (.blk _ _ [_, _, _, _] _ :: _) _ := hh;refine aa (ah ?_)
       refine cY [] [] [0, 1, 0, 4, 15, 31, 63, 127, 255, 511, 1023, 2047, 4095, 8191, 16383, 32767, 8191, 73727, 262143, 524287, 1048575, 2097151, 4194303, 8388607, 16777215, 33554431, 16777215, 83886079, 268435455, 536870911, 1073741823, 16777215, 2164260863, 8589934591, 17179869183, 34359738367] 33 [[(4, none)], [(21, some 0)], [(1, none)], [(23, some 2)], [(22, some 1), (24, some 3)], [(25, some 4)], [(26, some 5)], [(4, none), (27, some 6)], [(28, some 7), (27, some 6)], [(29, some 8), (27, some 6)], [(30, some 9), (27, some 6)], [(27, some 6), (31, some 10)], [(32, some 11)], [(4, none), (33, some 12)], [(34, some 13), (33, some 12)], [(35, some 14), (33, some 12)], [(4, none), (33, some 12)], [(37, some 16), (33, some 12)], [(36, some 15), (38, some 17), (33, some 12)], [(33, some 12), (39, some 18)], [(40, some 19)], [(3, none), (41, some 20)], [(42, some 21), (41, some 20)], [(43, some 22), (41, some 20)], [(1, none), (44, some 23)], [(45, some 24), (44, some 23)], [(3, none), (44, some 23)], [(47, some 26), (44, some 23)], [(46, some 25), (48, some 27), (44, some 23)], [(49, some 28), (44, some 23)], [(50, some 29), (44, some 23)], [(4, none), (44, some 23)], [(52, some 31), (44, some 23)]] [(32, 53), (31, 52), (30, 51), (29, 50), (28, 49), (27, 48), (26, 47), (25, 46), (24, 45), (23, 44), (22, 43), (21, 42), (20, 41), (19, 40), (18, 39), (17, 38), (16, 37), (15, 36), (14, 35), (13, 34), (12, 33), (11, 32), (10, 31), (9, 30), (8, 29), (7, 28), (6, 27), (5, 26), (4, 25), (3, 24), (2, 23), (1, 22), (0, 21)] hh mixed Dt dI rfl (by repeat (first | exact bX | refine bE ?_ | refine bV ?_)) ?_
       refine dX ?_;refine fT 0 ?_;refine dX ?_;refine fT 1 ?_;refine dC (fun _ hj => hmay _) ?_;refine wk ?_;refine ky ?_;first | refine dS ?_ | refine dU ?_ | refine dG (dX ?_)
       first | refine dS ?_ | refine dU ?_ | refine dG (fX 0 [_,_,_] ?_)
       refine bR (i := 9) rfl (fun ρ1 w1 hj hR => (show ρ1 27 = Value.bool _ from hR.2.1)) (fun ρ1 w1 hj hR => aW aq.out (ay (show ρ1 29 = Value.agg (List.toArray _) from hR.1) a0)) (fun w1 hj => hsg _) ?_;first | refine dS ?_ | refine dU ?_ | refine dG (pR ?_)
       first | refine rh ?_ | refine rQ ?_
       refine ky ?_;first | refine dS ?_ | refine dU ?_ | refine dG (dX ?_)
       first | refine dS ?_ | refine dU ?_ | refine dG (fX 0 [_,_,_] ?_)
       first | refine dS ?_ | refine dU ?_
       first | refine dS ?_ | refine dU ?_ | refine dG (dX ?_)
       first | refine dS ?_ | refine dU ?_ | refine dG (fX 0 [_,_,_] ?_)
       first | refine fQ (i := 18) rfl (fun ρ1 w1 hj hR => (show ρ1 33 = Value.bool _ from hR.2.2.1)) Dr ?_ | refine eU (i := 18) rfl (fun ρ1 w1 hj hR => (show ρ1 33 = undef from hR.2.2.1)) ?_ | refine ee (i := 18) rfl (fun ρ1 w1 hj hR => (show ρ1 33 = Value.bool _ from hR.2.2.1)) (fun ρ1 w1 hj hR => j7 (show ρ1 36 = Value.agg (List.toArray _) from hR.1) (show ρ1 38 = Value.agg (List.toArray _) from hR.2.1) (by first | assumption | rfl)) ?_ | refine ee (i := 18) rfl (fun ρ1 w1 hj hR => (show ρ1 33 = Value.bool _ from hR.2.2.1)) (fun ρ1 w1 hj hR => j8 (show ρ1 36 = Value.agg (List.toArray _) from hR.1) (show ρ1 38 = Value.agg (List.toArray _) from hR.2.1) (by assumption)) ?_
       first | refine rh ?_ | refine rQ ?_
       refine ky ?_;first | refine dS ?_ | refine dU ?_ | refine dG (fW ?_)
       first | refine dS ?_ | refine dU ?_ | refine dG (wg ?_)
       first | refine dS ?_ | refine dU ?_ | refine dG (ky ?_)
       first | refine dS ?_ | refine dU ?_ | refine dG (dX ?_)
       first | refine dS ?_ | refine dU ?_ | refine dG (fT 1 ?_)
       first | refine dS ?_ | refine dU ?_ | refine dG (fW ?_)
       first | refine dS ?_ | refine dU ?_ | refine dG (nD ?_)
       first | refine fQ (i := 28) rfl (fun ρ1 w1 hj hR => (show ρ1 44 = Value.bool _ from hR.2.2.1)) Dr ?_ | refine eU (i := 28) rfl (fun ρ1 w1 hj hR => (show ρ1 44 = undef from hR.2.2.1)) ?_ | refine ee (i := 28) rfl (fun ρ1 w1 hj hR => (show ρ1 44 = Value.bool _ from hR.2.2.1)) (fun ρ1 w1 hj hR => eg aF.out aC.size (show ρ1 46 = Value.slice _ _ _ from hR.1) (show ρ1 48 = Value.int _ _ from hR.2.1) rfl Dq) ?_
       first | refine dS ?_ | refine dU ?_ | refine dG (sX ?_)
       first | refine dS ?_ | refine dU ?_ | refine dG (kP (fun _ hj => hT) ?_)
       first | refine dS ?_ | refine dU ?_ | refine dG (dX ?_)
       first | refine dS ?_ | refine dU ?_ | refine dG (fT 0 ?_)
       refine bq ?_;intro f W hJ hV _;have hb_8 := hJ.bl;obtain ⟨v53, v52, v51, v50, v49, v48, v47, v46, v45, v44, v43, v42, v41, v40, v39, v38, v37, v36, v35, v34, v33, v32, v31, v30, v29, v28, v27, v26, v25, v24, v23, v22, v21, _⟩ := hV;replace hh := hJ.hp;refine a6 (bk (ae v53 (ae v52 (ae v51 (ae v50 (ae v49 (ae v48 (ae v47 (ae v46 (ae v45 (ae v44 (ae v43 (ae v42 (ae v41 (ae v40 (ae v39 (ae v38 (ae v37 (ae v36 (ae v35 (ae v34 (ae v33 (ae v32 (ae v31 (ae v30 (ae v29 (ae v28 (ae v27 (ae v26 (ae v25 (ae v24 (ae v23 (ae v22 (ae v21 a5)))))))))))))))))))))))))))))))))) ?_;dsimp only [cJ];clear hJ;first | refine gS ?_ | (refine gT ?_; refine gZ rfl rfl Dr ?_) | refine gV ?_
       first | refine gS ?_ | (refine gT ?_; (first | refine cW ?_ | refine cX ?_)) | refine gV ?_
       first | refine cW ?_ | refine cX ?_
       refine aa (cT (sr (aI (aa (al (bT (aH (aH (bT (aH ?_))))))))));refine cA ?_;exact ⟨rfl, hh.below⟩
      ·have hs : ¬ x.c.i.sign = 0 := fun h => hz (hzz.1 h);by_cases hnf : nR x.c.d = x.c
       ·have hgood : kv v x = true := by unfold kv rj; rw [hm, decide_eq_false hz, (nO x.c).2 hnf]; rfl
        have hall2 : (ts.take (i + 1)).all (kv v) = true := by rw [aT hx, List.all_append, hall]; simp [hgood]
        by_cases h0 : i = 0
        ·refine sr ?_;refine a3 (aa (ah (cT (ak (ai (ah (ao (sr (mI ?_)))))))));refine aZ (k := i) aF.out aC.size rfl rfl Dq Dq Dr ?_;refine bZ (vs := [_, _, _, _]) aC.out rfl ((hr.ext hh.below).recAt TR.len hx) rfl Dr ?_;refine cj hh ?_;intro b4 w4 hh;refine aI ?_;refine bD hh 0 [_,_,_,_] ?_;intro ws hh;replace hh : Hp _ (.blk _ _ [_, _, _, _] _ :: _) _ := hh;refine aa (ah ?_)
         refine cY [] [] [0, 1, 0, 4, 15, 31, 63, 127, 255, 511, 1023, 2047, 4095, 8191, 16383, 32767, 8191, 73727, 262143, 524287, 1048575, 2097151, 4194303, 8388607, 16777215, 33554431, 16777215, 83886079, 268435455, 536870911, 1073741823, 16777215, 2164260863, 8589934591, 17179869183, 34359738367] 33 [[(4, none)], [(21, some 0)], [(1, none)], [(23, some 2)], [(22, some 1), (24, some 3)], [(25, some 4)], [(26, some 5)], [(4, none), (27, some 6)], [(28, some 7), (27, some 6)], [(29, some 8), (27, some 6)], [(30, some 9), (27, some 6)], [(27, some 6), (31, some 10)], [(32, some 11)], [(4, none), (33, some 12)], [(34, some 13), (33, some 12)], [(35, some 14), (33, some 12)], [(4, none), (33, some 12)], [(37, some 16), (33, some 12)], [(36, some 15), (38, some 17), (33, some 12)], [(33, some 12), (39, some 18)], [(40, some 19)], [(3, none), (41, some 20)], [(42, some 21), (41, some 20)], [(43, some 22), (41, some 20)], [(1, none), (44, some 23)], [(45, some 24), (44, some 23)], [(3, none), (44, some 23)], [(47, some 26), (44, some 23)], [(46, some 25), (48, some 27), (44, some 23)], [(49, some 28), (44, some 23)], [(50, some 29), (44, some 23)], [(4, none), (44, some 23)], [(52, some 31), (44, some 23)]] [(32, 53), (31, 52), (30, 51), (29, 50), (28, 49), (27, 48), (26, 47), (25, 46), (24, 45), (23, 44), (22, 43), (21, 42), (20, 41), (19, 40), (18, 39), (17, 38), (16, 37), (15, 36), (14, 35), (13, 34), (12, 33), (11, 32), (10, 31), (9, 30), (8, 29), (7, 28), (6, 27), (5, 26), (4, 25), (3, 24), (2, 23), (1, 22), (0, 21)] hh mixed Dt dI rfl (by repeat (first | exact bX | refine bE ?_ | refine bV ?_)) ?_
         refine dX ?_;refine fT 0 ?_;refine dX ?_;refine fT 1 ?_;refine dC (fun _ hj => hmay _) ?_;refine wk ?_;refine ky ?_;first | refine dS ?_ | refine dU ?_ | refine dG (dX ?_)
         first | refine dS ?_ | refine dU ?_ | refine dG (fX 0 [_,_,_] ?_)
         refine bR (i := 9) rfl (fun ρ1 w1 hj hR => (show ρ1 27 = Value.bool _ from hR.2.1)) (fun ρ1 w1 hj hR => aW aq.out (ay (show ρ1 29 = Value.agg (List.toArray _) from hR.1) a0)) (fun w1 hj => hsg _) ?_;first | refine dS ?_ | refine dU ?_ | refine dG (pR ?_)
         first | refine rh ?_ | refine rQ ?_
         refine ky ?_;first | refine dS ?_ | refine dU ?_ | refine dG (dX ?_)
         first | refine dS ?_ | refine dU ?_ | refine dG (fX 0 [_,_,_] ?_)
         refine bR (i := 15) rfl (fun ρ1 w1 hj hR => (show ρ1 33 = Value.bool _ from hR.2.1)) (fun ρ1 w1 hj hR => aW aq.out (ay (show ρ1 35 = Value.agg (List.toArray _) from hR.1) a0)) (fun w1 hj => hfo _ (hT.hp hj.hp)) ?_;first | refine dS ?_ | refine dU ?_ | refine dG (dX ?_)
         first | refine dS ?_ | refine dU ?_ | refine dG (fX 0 [_,_,_] ?_)
         first | refine fQ (i := 18) rfl (fun ρ1 w1 hj hR => (show ρ1 33 = Value.bool _ from hR.2.2.1)) Dr ?_ | refine eU (i := 18) rfl (fun ρ1 w1 hj hR => (show ρ1 33 = undef from hR.2.2.1)) ?_ | refine ee (i := 18) rfl (fun ρ1 w1 hj hR => (show ρ1 33 = Value.bool _ from hR.2.2.1)) (fun ρ1 w1 hj hR => j7 (show ρ1 36 = Value.agg (List.toArray _) from hR.1) (show ρ1 38 = Value.agg (List.toArray _) from hR.2.1) (by first | assumption | rfl)) ?_ | refine ee (i := 18) rfl (fun ρ1 w1 hj hR => (show ρ1 33 = Value.bool _ from hR.2.2.1)) (fun ρ1 w1 hj hR => j8 (show ρ1 36 = Value.agg (List.toArray _) from hR.1) (show ρ1 38 = Value.agg (List.toArray _) from hR.2.1) (by assumption)) ?_
         first | refine rh ?_ | refine rQ ?_
         refine ky ?_;first | refine dS ?_ | refine dU ?_ | refine dG (fW ?_)
         first | refine dS ?_ | refine dU ?_ | refine dG (wg ?_)
         first | refine dS ?_ | refine dU ?_ | refine dG (ky ?_)
         first | refine dS ?_ | refine dU ?_ | refine dG (dX ?_)
         first | refine dS ?_ | refine dU ?_ | refine dG (fT 1 ?_)
         first | refine dS ?_ | refine dU ?_ | refine dG (fW ?_)
         first | refine dS ?_ | refine dU ?_ | refine dG (nD ?_)
         first | refine fQ (i := 28) rfl (fun ρ1 w1 hj hR => (show ρ1 44 = Value.bool _ from hR.2.2.1)) Dr ?_ | refine eU (i := 28) rfl (fun ρ1 w1 hj hR => (show ρ1 44 = undef from hR.2.2.1)) ?_ | refine ee (i := 28) rfl (fun ρ1 w1 hj hR => (show ρ1 44 = Value.bool _ from hR.2.2.1)) (fun ρ1 w1 hj hR => eg aF.out aC.size (show ρ1 46 = Value.slice _ _ _ from hR.1) (show ρ1 48 = Value.int _ _ from hR.2.1) rfl Dq) ?_
         first | refine dS ?_ | refine dU ?_ | refine dG (sX ?_)
         first | refine dS ?_ | refine dU ?_ | refine dG (kP (fun _ hj => hT) ?_)
         first | refine dS ?_ | refine dU ?_ | refine dG (dX ?_)
         first | refine dS ?_ | refine dU ?_ | refine dG (fT 0 ?_)
         refine bq ?_;intro f W hJ hV _;have hb_8 := hJ.bl;obtain ⟨v53, v52, v51, v50, v49, v48, v47, v46, v45, v44, v43, v42, v41, v40, v39, v38, v37, v36, v35, v34, v33, v32, v31, v30, v29, v28, v27, v26, v25, v24, v23, v22, v21, _⟩ := hV;replace hh := hJ.hp;refine a6 (bk (ae v53 (ae v52 (ae v51 (ae v50 (ae v49 (ae v48 (ae v47 (ae v46 (ae v45 (ae v44 (ae v43 (ae v42 (ae v41 (ae v40 (ae v39 (ae v38 (ae v37 (ae v36 (ae v35 (ae v34 (ae v33 (ae v32 (ae v31 (ae v30 (ae v29 (ae v28 (ae v27 (ae v26 (ae v25 (ae v24 (ae v23 (ae v22 (ae v21 a5)))))))))))))))))))))))))))))))))) ?_;dsimp only [cJ];clear hJ;first | refine gS ?_ | (refine gT ?_; refine gZ rfl rfl Dr ?_) | refine gV ?_
         first | refine gS ?_ | (refine gT ?_; (first | refine cW ?_ | refine cX ?_)) | refine gV ?_
         first | refine cW ?_ | refine cX ?_
         refine aa (cF (ak (aX (ai (ar ?_)))));refine bO (mI (aE (ai ?_)));replace hh := hh.sub (List.Sublist.cons _ (List.Sublist.cons_cons _ List.Sublist.slnil));refine ⟨⟨i + 1, Dq, rfl, hall2, by rw [aT hx, h0]; rfl, hh⟩, by show n - (i + 1) < n - i; omega, ?_⟩;exact Du
        ·obtain ⟨q, hq⟩ : ∃ q, i = q + 1 := ⟨i - 1, Dq⟩;obtain ⟨p, hp⟩ := aG (l := ts) (k := q) Dq
         cases hlp : gf p.m x.m with
         | false =>
          rw [hbad (y2 hp (hq ▸ hx) hlp)];have hge : (!(Op.bytesLess p.m.toList x.m.toList)) = true := by rw [lO, hlp]; rfl
          refine sr ?_;refine a3 (aa (ah (cT (ak (ai (ah (ao (sr (mI ?_)))))))));refine aZ (k := i) aF.out aC.size rfl rfl Dq Dq Dr ?_;refine bZ (vs := [_, _, _, _]) aC.out rfl ((hr.ext hh.below).recAt TR.len hx) rfl Dr ?_;refine cj hh ?_;intro b4 w4 hh;refine aI ?_;refine bD hh 0 [_,_,_,_] ?_;intro ws hh;replace hh : Hp _ (.blk _ _ [_, _, _, _] _ :: _) _ := hh;refine aa (ah ?_)
          refine cY [] [] [0, 1, 0, 4, 15, 31, 63, 127, 255, 511, 1023, 2047, 4095, 8191, 16383, 32767, 8191, 73727, 262143, 524287, 1048575, 2097151, 4194303, 8388607, 16777215, 33554431, 16777215, 83886079, 268435455, 536870911, 1073741823, 16777215, 2164260863, 8589934591, 17179869183, 34359738367] 33 [[(4, none)], [(21, some 0)], [(1, none)], [(23, some 2)], [(22, some 1), (24, some 3)], [(25, some 4)], [(26, some 5)], [(4, none), (27, some 6)], [(28, some 7), (27, some 6)], [(29, some 8), (27, some 6)], [(30, some 9), (27, some 6)], [(27, some 6), (31, some 10)], [(32, some 11)], [(4, none), (33, some 12)], [(34, some 13), (33, some 12)], [(35, some 14), (33, some 12)], [(4, none), (33, some 12)], [(37, some 16), (33, some 12)], [(36, some 15), (38, some 17), (33, some 12)], [(33, some 12), (39, some 18)], [(40, some 19)], [(3, none), (41, some 20)], [(42, some 21), (41, some 20)], [(43, some 22), (41, some 20)], [(1, none), (44, some 23)], [(45, some 24), (44, some 23)], [(3, none), (44, some 23)], [(47, some 26), (44, some 23)], [(46, some 25), (48, some 27), (44, some 23)], [(49, some 28), (44, some 23)], [(50, some 29), (44, some 23)], [(4, none), (44, some 23)], [(52, some 31), (44, some 23)]] [(32, 53), (31, 52), (30, 51), (29, 50), (28, 49), (27, 48), (26, 47), (25, 46), (24, 45), (23, 44), (22, 43), (21, 42), (20, 41), (19, 40), (18, 39), (17, 38), (16, 37), (15, 36), (14, 35), (13, 34), (12, 33), (11, 32), (10, 31), (9, 30), (8, 29), (7, 28), (6, 27), (5, 26), (4, 25), (3, 24), (2, 23), (1, 22), (0, 21)] hh mixed Dt dI rfl (by repeat (first | exact bX | refine bE ?_ | refine bV ?_)) ?_
          refine dX ?_;refine fT 0 ?_;refine dX ?_;refine fT 1 ?_;refine dC (fun _ hj => hmay _) ?_;refine wk ?_;refine ky ?_;first | refine dS ?_ | refine dU ?_ | refine dG (dX ?_)
          first | refine dS ?_ | refine dU ?_ | refine dG (fX 0 [_,_,_] ?_)
          refine bR (i := 9) rfl (fun ρ1 w1 hj hR => (show ρ1 27 = Value.bool _ from hR.2.1)) (fun ρ1 w1 hj hR => aW aq.out (ay (show ρ1 29 = Value.agg (List.toArray _) from hR.1) a0)) (fun w1 hj => hsg _) ?_;first | refine dS ?_ | refine dU ?_ | refine dG (pR ?_)
          first | refine rh ?_ | refine rQ ?_
          refine ky ?_;first | refine dS ?_ | refine dU ?_ | refine dG (dX ?_)
          first | refine dS ?_ | refine dU ?_ | refine dG (fX 0 [_,_,_] ?_)
          refine bR (i := 15) rfl (fun ρ1 w1 hj hR => (show ρ1 33 = Value.bool _ from hR.2.1)) (fun ρ1 w1 hj hR => aW aq.out (ay (show ρ1 35 = Value.agg (List.toArray _) from hR.1) a0)) (fun w1 hj => hfo _ (hT.hp hj.hp)) ?_;first | refine dS ?_ | refine dU ?_ | refine dG (dX ?_)
          first | refine dS ?_ | refine dU ?_ | refine dG (fX 0 [_,_,_] ?_)
          first | refine fQ (i := 18) rfl (fun ρ1 w1 hj hR => (show ρ1 33 = Value.bool _ from hR.2.2.1)) Dr ?_ | refine eU (i := 18) rfl (fun ρ1 w1 hj hR => (show ρ1 33 = undef from hR.2.2.1)) ?_ | refine ee (i := 18) rfl (fun ρ1 w1 hj hR => (show ρ1 33 = Value.bool _ from hR.2.2.1)) (fun ρ1 w1 hj hR => j7 (show ρ1 36 = Value.agg (List.toArray _) from hR.1) (show ρ1 38 = Value.agg (List.toArray _) from hR.2.1) (by first | assumption | rfl)) ?_ | refine ee (i := 18) rfl (fun ρ1 w1 hj hR => (show ρ1 33 = Value.bool _ from hR.2.2.1)) (fun ρ1 w1 hj hR => j8 (show ρ1 36 = Value.agg (List.toArray _) from hR.1) (show ρ1 38 = Value.agg (List.toArray _) from hR.2.1) (by assumption)) ?_
          first | refine rh ?_ | refine rQ ?_
          refine ky ?_;first | refine dS ?_ | refine dU ?_ | refine dG (fW ?_)
          first | refine dS ?_ | refine dU ?_ | refine dG (wg ?_)
          first | refine dS ?_ | refine dU ?_ | refine dG (ky ?_)
          first | refine dS ?_ | refine dU ?_ | refine dG (dX ?_)
          first | refine dS ?_ | refine dU ?_ | refine dG (fT 1 ?_)
          first | refine dS ?_ | refine dU ?_ | refine dG (fW ?_)
          first | refine dS ?_ | refine dU ?_ | refine dG (nD ?_)
          first | refine dS ?_ | refine dU ?_ | refine dG (mf (q) ?_)
          first | refine dS ?_ | refine dU ?_ | refine dG (sX ?_)
          first | refine dS ?_ | refine dU ?_ | refine dG (kP (fun _ hj => ((hr.ext hj.hp.below).recAt TR.len hp).cell (i := 0) rfl) ?_)
          first | refine dS ?_ | refine dU ?_ | refine dG (dX ?_)
          first | refine dS ?_ | refine dU ?_ | refine dG (fT 0 ?_)
          refine bq ?_;intro f W hJ hV _;have hb_8 := hJ.bl;obtain ⟨v53, v52, v51, v50, v49, v48, v47, v46, v45, v44, v43, v42, v41, v40, v39, v38, v37, v36, v35, v34, v33, v32, v31, v30, v29, v28, v27, v26, v25, v24, v23, v22, v21, _⟩ := hV;replace hh := hJ.hp;refine a6 (bk (ae v53 (ae v52 (ae v51 (ae v50 (ae v49 (ae v48 (ae v47 (ae v46 (ae v45 (ae v44 (ae v43 (ae v42 (ae v41 (ae v40 (ae v39 (ae v38 (ae v37 (ae v36 (ae v35 (ae v34 (ae v33 (ae v32 (ae v31 (ae v30 (ae v29 (ae v28 (ae v27 (ae v26 (ae v25 (ae v24 (ae v23 (ae v22 (ae v21 a5)))))))))))))))))))))))))))))))))) ?_;dsimp only [cJ];clear hJ;first | refine gS ?_ | (refine gT ?_; refine gZ rfl rfl Dr ?_) | refine gV ?_
          first | refine gS ?_ | (refine gT ?_; (first | refine cW ?_ | refine cX ?_)) | refine gV ?_
          first | refine cW ?_ | refine cX ?_
          refine aa ?_;rw [hge];refine cT (sr (aI (aa (al (bT (aH (aH (bT (aH ?_)))))))));refine cA ?_;exact ⟨rfl, hh.below⟩
         | true =>
          have hge : (!(Op.bytesLess p.m.toList x.m.toList)) = false := by rw [lO, hlp]; rfl
          refine sr ?_;refine a3 (aa (ah (cT (ak (ai (ah (ao (sr (mI ?_)))))))));refine aZ (k := i) aF.out aC.size rfl rfl Dq Dq Dr ?_;refine bZ (vs := [_, _, _, _]) aC.out rfl ((hr.ext hh.below).recAt TR.len hx) rfl Dr ?_;refine cj hh ?_;intro b4 w4 hh;refine aI ?_;refine bD hh 0 [_,_,_,_] ?_;intro ws hh;replace hh : Hp _ (.blk _ _ [_, _, _, _] _ :: _) _ := hh;refine aa (ah ?_)
          refine cY [] [] [0, 1, 0, 4, 15, 31, 63, 127, 255, 511, 1023, 2047, 4095, 8191, 16383, 32767, 8191, 73727, 262143, 524287, 1048575, 2097151, 4194303, 8388607, 16777215, 33554431, 16777215, 83886079, 268435455, 536870911, 1073741823, 16777215, 2164260863, 8589934591, 17179869183, 34359738367] 33 [[(4, none)], [(21, some 0)], [(1, none)], [(23, some 2)], [(22, some 1), (24, some 3)], [(25, some 4)], [(26, some 5)], [(4, none), (27, some 6)], [(28, some 7), (27, some 6)], [(29, some 8), (27, some 6)], [(30, some 9), (27, some 6)], [(27, some 6), (31, some 10)], [(32, some 11)], [(4, none), (33, some 12)], [(34, some 13), (33, some 12)], [(35, some 14), (33, some 12)], [(4, none), (33, some 12)], [(37, some 16), (33, some 12)], [(36, some 15), (38, some 17), (33, some 12)], [(33, some 12), (39, some 18)], [(40, some 19)], [(3, none), (41, some 20)], [(42, some 21), (41, some 20)], [(43, some 22), (41, some 20)], [(1, none), (44, some 23)], [(45, some 24), (44, some 23)], [(3, none), (44, some 23)], [(47, some 26), (44, some 23)], [(46, some 25), (48, some 27), (44, some 23)], [(49, some 28), (44, some 23)], [(50, some 29), (44, some 23)], [(4, none), (44, some 23)], [(52, some 31), (44, some 23)]] [(32, 53), (31, 52), (30, 51), (29, 50), (28, 49), (27, 48), (26, 47), (25, 46), (24, 45), (23, 44), (22, 43), (21, 42), (20, 41), (19, 40), (18, 39), (17, 38), (16, 37), (15, 36), (14, 35), (13, 34), (12, 33), (11, 32), (10, 31), (9, 30), (8, 29), (7, 28), (6, 27), (5, 26), (4, 25), (3, 24), (2, 23), (1, 22), (0, 21)] hh mixed Dt dI rfl (by repeat (first | exact bX | refine bE ?_ | refine bV ?_)) ?_
          refine dX ?_;refine fT 0 ?_;refine dX ?_;refine fT 1 ?_;refine dC (fun _ hj => hmay _) ?_;refine wk ?_;refine ky ?_;first | refine dS ?_ | refine dU ?_ | refine dG (dX ?_)
          first | refine dS ?_ | refine dU ?_ | refine dG (fX 0 [_,_,_] ?_)
          refine bR (i := 9) rfl (fun ρ1 w1 hj hR => (show ρ1 27 = Value.bool _ from hR.2.1)) (fun ρ1 w1 hj hR => aW aq.out (ay (show ρ1 29 = Value.agg (List.toArray _) from hR.1) a0)) (fun w1 hj => hsg _) ?_;first | refine dS ?_ | refine dU ?_ | refine dG (pR ?_)
          first | refine rh ?_ | refine rQ ?_
          refine ky ?_;first | refine dS ?_ | refine dU ?_ | refine dG (dX ?_)
          first | refine dS ?_ | refine dU ?_ | refine dG (fX 0 [_,_,_] ?_)
          refine bR (i := 15) rfl (fun ρ1 w1 hj hR => (show ρ1 33 = Value.bool _ from hR.2.1)) (fun ρ1 w1 hj hR => aW aq.out (ay (show ρ1 35 = Value.agg (List.toArray _) from hR.1) a0)) (fun w1 hj => hfo _ (hT.hp hj.hp)) ?_;first | refine dS ?_ | refine dU ?_ | refine dG (dX ?_)
          first | refine dS ?_ | refine dU ?_ | refine dG (fX 0 [_,_,_] ?_)
          first | refine fQ (i := 18) rfl (fun ρ1 w1 hj hR => (show ρ1 33 = Value.bool _ from hR.2.2.1)) Dr ?_ | refine eU (i := 18) rfl (fun ρ1 w1 hj hR => (show ρ1 33 = undef from hR.2.2.1)) ?_ | refine ee (i := 18) rfl (fun ρ1 w1 hj hR => (show ρ1 33 = Value.bool _ from hR.2.2.1)) (fun ρ1 w1 hj hR => j7 (show ρ1 36 = Value.agg (List.toArray _) from hR.1) (show ρ1 38 = Value.agg (List.toArray _) from hR.2.1) (by first | assumption | rfl)) ?_ | refine ee (i := 18) rfl (fun ρ1 w1 hj hR => (show ρ1 33 = Value.bool _ from hR.2.2.1)) (fun ρ1 w1 hj hR => j8 (show ρ1 36 = Value.agg (List.toArray _) from hR.1) (show ρ1 38 = Value.agg (List.toArray _) from hR.2.1) (by assumption)) ?_
          first | refine rh ?_ | refine rQ ?_
          refine ky ?_;first | refine dS ?_ | refine dU ?_ | refine dG (fW ?_)
          first | refine dS ?_ | refine dU ?_ | refine dG (wg ?_)
          first | refine dS ?_ | refine dU ?_ | refine dG (ky ?_)
          first | refine dS ?_ | refine dU ?_ | refine dG (dX ?_)
          first | refine dS ?_ | refine dU ?_ | refine dG (fT 1 ?_)
          first | refine dS ?_ | refine dU ?_ | refine dG (fW ?_)
          first | refine dS ?_ | refine dU ?_ | refine dG (nD ?_)
          first | refine dS ?_ | refine dU ?_ | refine dG (mf (q) ?_)
          first | refine dS ?_ | refine dU ?_ | refine dG (sX ?_)
          first | refine dS ?_ | refine dU ?_ | refine dG (kP (fun _ hj => ((hr.ext hj.hp.below).recAt TR.len hp).cell (i := 0) rfl) ?_)
          first | refine dS ?_ | refine dU ?_ | refine dG (dX ?_)
          first | refine dS ?_ | refine dU ?_ | refine dG (fT 0 ?_)
          refine bq ?_;intro f W hJ hV _;have hb_8 := hJ.bl;obtain ⟨v53, v52, v51, v50, v49, v48, v47, v46, v45, v44, v43, v42, v41, v40, v39, v38, v37, v36, v35, v34, v33, v32, v31, v30, v29, v28, v27, v26, v25, v24, v23, v22, v21, _⟩ := hV;replace hh := hJ.hp;refine a6 (bk (ae v53 (ae v52 (ae v51 (ae v50 (ae v49 (ae v48 (ae v47 (ae v46 (ae v45 (ae v44 (ae v43 (ae v42 (ae v41 (ae v40 (ae v39 (ae v38 (ae v37 (ae v36 (ae v35 (ae v34 (ae v33 (ae v32 (ae v31 (ae v30 (ae v29 (ae v28 (ae v27 (ae v26 (ae v25 (ae v24 (ae v23 (ae v22 (ae v21 a5)))))))))))))))))))))))))))))))))) ?_;dsimp only [cJ];clear hJ;first | refine gS ?_ | (refine gT ?_; refine gZ rfl rfl Dr ?_) | refine gV ?_
          first | refine gS ?_ | (refine gT ?_; (first | refine cW ?_ | refine cX ?_)) | refine gV ?_
          first | refine cW ?_ | refine cX ?_
          refine aa ?_;rw [hge];refine cF (ak (aX (ai (ar ?_))));refine bO (mI (aE (ai ?_)));replace hh := hh.sub (List.Sublist.cons _ (List.Sublist.cons_cons _ List.Sublist.slnil));refine ⟨⟨i + 1, Dq, rfl, hall2, ?_, hh⟩, by show n - (i + 1) < n - i; omega, ?_⟩
          ·rw [hq, aT hp] at hris;rw [aT hx, hq, aT hp, List.append_assoc];show mw (ts.take q ++ [p, x]) = true;rw [qy, hris, hlp]
           rfl
          ·exact Du
       ·rw [hbad (rB hx (by unfold kv rj; rw [hm, decide_eq_false hz, Bool.eq_false_iff.2 (fun h => hnf ((nO x.c).1 h))]; rfl))];refine sr ?_;refine a3 (aa (ah (cT (ak (ai (ah (ao (sr (mI ?_)))))))));refine aZ (k := i) aF.out aC.size rfl rfl Dq Dq Dr ?_;refine bZ (vs := [_, _, _, _]) aC.out rfl ((hr.ext hh.below).recAt TR.len hx) rfl Dr ?_;refine cj hh ?_;intro b4 w4 hh;refine aI ?_;refine bD hh 0 [_,_,_,_] ?_;intro ws hh;replace hh : Hp _ (.blk _ _ [_, _, _, _] _ :: _) _ := hh;refine aa (ah ?_)
        refine cY [] [] [0, 1, 0, 4, 15, 31, 63, 127, 255, 511, 1023, 2047, 4095, 8191, 16383, 32767, 8191, 73727, 262143, 524287, 1048575, 2097151, 4194303, 8388607, 16777215, 33554431, 16777215, 83886079, 268435455, 536870911, 1073741823, 16777215, 2164260863, 8589934591, 17179869183, 34359738367] 33 [[(4, none)], [(21, some 0)], [(1, none)], [(23, some 2)], [(22, some 1), (24, some 3)], [(25, some 4)], [(26, some 5)], [(4, none), (27, some 6)], [(28, some 7), (27, some 6)], [(29, some 8), (27, some 6)], [(30, some 9), (27, some 6)], [(27, some 6), (31, some 10)], [(32, some 11)], [(4, none), (33, some 12)], [(34, some 13), (33, some 12)], [(35, some 14), (33, some 12)], [(4, none), (33, some 12)], [(37, some 16), (33, some 12)], [(36, some 15), (38, some 17), (33, some 12)], [(33, some 12), (39, some 18)], [(40, some 19)], [(3, none), (41, some 20)], [(42, some 21), (41, some 20)], [(43, some 22), (41, some 20)], [(1, none), (44, some 23)], [(45, some 24), (44, some 23)], [(3, none), (44, some 23)], [(47, some 26), (44, some 23)], [(46, some 25), (48, some 27), (44, some 23)], [(49, some 28), (44, some 23)], [(50, some 29), (44, some 23)], [(4, none), (44, some 23)], [(52, some 31), (44, some 23)]] [(32, 53), (31, 52), (30, 51), (29, 50), (28, 49), (27, 48), (26, 47), (25, 46), (24, 45), (23, 44), (22, 43), (21, 42), (20, 41), (19, 40), (18, 39), (17, 38), (16, 37), (15, 36), (14, 35), (13, 34), (12, 33), (11, 32), (10, 31), (9, 30), (8, 29), (7, 28), (6, 27), (5, 26), (4, 25), (3, 24), (2, 23), (1, 22), (0, 21)] hh mixed Dt dI rfl (by repeat (first | exact bX | refine bE ?_ | refine bV ?_)) ?_
        refine dX ?_;refine fT 0 ?_;refine dX ?_;refine fT 1 ?_;refine dC (fun _ hj => hmay _) ?_;refine wk ?_;refine ky ?_;first | refine dS ?_ | refine dU ?_ | refine dG (dX ?_)
        first | refine dS ?_ | refine dU ?_ | refine dG (fX 0 [_,_,_] ?_)
        refine bR (i := 9) rfl (fun ρ1 w1 hj hR => (show ρ1 27 = Value.bool _ from hR.2.1)) (fun ρ1 w1 hj hR => aW aq.out (ay (show ρ1 29 = Value.agg (List.toArray _) from hR.1) a0)) (fun w1 hj => hsg _) ?_;first | refine dS ?_ | refine dU ?_ | refine dG (pR ?_)
        first | refine rh ?_ | refine rQ ?_
        refine ky ?_;first | refine dS ?_ | refine dU ?_ | refine dG (dX ?_)
        first | refine dS ?_ | refine dU ?_ | refine dG (fX 0 [_,_,_] ?_)
        refine bR (i := 15) rfl (fun ρ1 w1 hj hR => (show ρ1 33 = Value.bool _ from hR.2.1)) (fun ρ1 w1 hj hR => aW aq.out (ay (show ρ1 35 = Value.agg (List.toArray _) from hR.1) a0)) (fun w1 hj => hfo _ (hT.hp hj.hp)) ?_;first | refine dS ?_ | refine dU ?_ | refine dG (dX ?_)
        first | refine dS ?_ | refine dU ?_ | refine dG (fX 0 [_,_,_] ?_)
        first | refine fQ (i := 18) rfl (fun ρ1 w1 hj hR => (show ρ1 33 = Value.bool _ from hR.2.2.1)) Dr ?_ | refine eU (i := 18) rfl (fun ρ1 w1 hj hR => (show ρ1 33 = undef from hR.2.2.1)) ?_ | refine ee (i := 18) rfl (fun ρ1 w1 hj hR => (show ρ1 33 = Value.bool _ from hR.2.2.1)) (fun ρ1 w1 hj hR => j7 (show ρ1 36 = Value.agg (List.toArray _) from hR.1) (show ρ1 38 = Value.agg (List.toArray _) from hR.2.1) (by first | assumption | rfl)) ?_ | refine ee (i := 18) rfl (fun ρ1 w1 hj hR => (show ρ1 33 = Value.bool _ from hR.2.2.1)) (fun ρ1 w1 hj hR => j8 (show ρ1 36 = Value.agg (List.toArray _) from hR.1) (show ρ1 38 = Value.agg (List.toArray _) from hR.2.1) (by assumption)) ?_
        first | refine rh ?_ | refine rQ ?_
        refine ky ?_;first | refine dS ?_ | refine dU ?_ | refine dG (fW ?_)
        first | refine dS ?_ | refine dU ?_ | refine dG (wg ?_)
        first | refine dS ?_ | refine dU ?_ | refine dG (ky ?_)
        first | refine dS ?_ | refine dU ?_ | refine dG (dX ?_)
        first | refine dS ?_ | refine dU ?_ | refine dG (fT 1 ?_)
        first | refine dS ?_ | refine dU ?_ | refine dG (fW ?_)
        first | refine dS ?_ | refine dU ?_ | refine dG (nD ?_)
        first | refine fQ (i := 28) rfl (fun ρ1 w1 hj hR => (show ρ1 44 = Value.bool _ from hR.2.2.1)) Dr ?_ | refine eU (i := 28) rfl (fun ρ1 w1 hj hR => (show ρ1 44 = undef from hR.2.2.1)) ?_ | refine ee (i := 28) rfl (fun ρ1 w1 hj hR => (show ρ1 44 = Value.bool _ from hR.2.2.1)) (fun ρ1 w1 hj hR => eg aF.out aC.size (show ρ1 46 = Value.slice _ _ _ from hR.1) (show ρ1 48 = Value.int _ _ from hR.2.1) rfl Dq) ?_
        first | refine dS ?_ | refine dU ?_ | refine dG (sX ?_)
        first | refine dS ?_ | refine dU ?_ | refine dG (kP (fun _ hj => hT) ?_)
        first | refine dS ?_ | refine dU ?_ | refine dG (dX ?_)
        first | refine dS ?_ | refine dU ?_ | refine dG (fT 0 ?_)
        refine bq ?_;intro f W hJ hV _;have hb_8 := hJ.bl;obtain ⟨v53, v52, v51, v50, v49, v48, v47, v46, v45, v44, v43, v42, v41, v40, v39, v38, v37, v36, v35, v34, v33, v32, v31, v30, v29, v28, v27, v26, v25, v24, v23, v22, v21, _⟩ := hV;replace hh := hJ.hp;refine a6 (bk (ae v53 (ae v52 (ae v51 (ae v50 (ae v49 (ae v48 (ae v47 (ae v46 (ae v45 (ae v44 (ae v43 (ae v42 (ae v41 (ae v40 (ae v39 (ae v38 (ae v37 (ae v36 (ae v35 (ae v34 (ae v33 (ae v32 (ae v31 (ae v30 (ae v29 (ae v28 (ae v27 (ae v26 (ae v25 (ae v24 (ae v23 (ae v22 (ae v21 a5)))))))))))))))))))))))))))))))))) ?_;dsimp only [cJ];clear hJ;first | refine gS ?_ | (refine gT ?_; refine gZ rfl rfl Dr ?_) | refine gV ?_
        first | refine gS ?_ | (refine gT ?_; (first | refine cW ?_ | refine cX ?_)) | refine gV ?_
        first | refine cW ?_ | refine cX ?_
        refine aa (cT (sr (aI (aa (al (bT (aH (aH (bT (aH ?_))))))))));refine cA ?_;exact ⟨rfl, hh.below⟩
    ·rw [List.take_of_length_le Dq] at hall hris;rw [show gJ v ts = 0 by unfold gJ okB; rw [if_neg (by rw [hf]; decide), if_neg Dq, hall, hris]; rfl];refine sr ?_;refine a3 (aa (ah (cF (aV (aA (aA (a8 (ai (sr (aI (aa (al ?_))))))))))));refine cA ?_;exact ⟨rfl, hh.below⟩
end Go.Proofs.YteeckcbbnegmcaaGreatDoor
/- The walks through poly.Make. -/
namespace Go.Proofs.YteeckcbbnegmcaaGreatDoor
open Go.RowKit
def dY (v : Int) (t : TR) : Bool := dq t.m.data.toList && decide ((t.m.size : Int) = v)
theorem sj (z : TR) (v : Int) (b : Nat) (w : World) (hp : w.cell? ⟨b, 0, none⟩ = some (.int .i64 v)) (hz : z.m.size ≤ 100000) : Calls Tryz.prog 158 #[.agg #[.string z.m, .bool z.c.neg, .string z.c.bM, .int .i64 z.c.e], .pointer (some ⟨b, 0, none⟩)] w fun r w' => r = .returned (.bool (!dY v z)) ∧ Below w.heap.size w w' := by
 have hh := Hp.start w;have hmay := fun w1 => iJ z.m v w1 Dq;unfold dY;refine aj (N := 9) (l := [.agg #[.string z.m, .bool z.c.neg, .string z.c.bM, .int .i64 z.c.e], .pointer (some ⟨b, 0, none⟩)]) Tryz.func158 rfl rfl (by simp) ?_;refine sr ?_;refine dp hh [_,_,_,_] ?_;intro b2 w2 hh;refine aB (aa (sr (bG ?_)));refine bI hh 0 ?_;refine bp aC.out rfl (dD hh.below hp) Dr ?_;refine bB hh (hmay _) rfl ?_;intro w7 hh
 cases dq z.m.data.toList && decide ((z.m.size : Int) = v) with
 | false =>
  refine gd ?_;refine aB (aa (al ?_));refine cA ?_;exact ⟨rfl, hh.below⟩
 | true =>
  refine gd ?_;refine aB (aa (al ?_));refine cA ?_;exact ⟨rfl, hh.below⟩
theorem pM (A : Option Addr) (n c : Nat) (l : List TR) (v : Int) (b : Nat) (w : World) (hS : Sl w A n 4 (aQ TR.cells l)) (hn : n ≤ 1000000) (hp : w.cell? ⟨b, 0, none⟩ = some (.int .i64 v)) (hz : ∀ t ∈ l, t.m.size ≤ 100000) :
  Calls Tryz.prog 157 #[.slice A n c, .func (.func 158) #[] #[.pointer (some ⟨b, 0, none⟩)]] w fun r w' => r = .returned (.bool (l.any fun t => !dY v t)) ∧ Below w.heap.size w w' :=
 uS A n c l 158 [.pointer (some ⟨b, 0, none⟩)] (fun t => !dY v t) w hS hn fun z w1 hz2 hb => sj z v b w1 (dD hb hp) (hz z hz2)
def jm (v : Int) (l : List TR) : Int := if gl v = false ∨ (l.any fun t => !dY v t) = true then 1 else if 65536 < l.length then 3 else fL l
theorem jy (v : Int) (A : Option Addr) (n c : Nat) (l : List TR) (k : Nat) (w : World) (hT : gK w) (hS : Sl w A n 4 (aQ TR.cells l)) (hn : n ≤ 1000000) (hk : k ≤ 2999980) (ho : gx k l) (hz : ∀ t ∈ l, t.m.size ≤ 100000) :
  Calls Tryz.prog 72 #[.int .i64 v, .slice A n c] w fun r w' => ∃ g : PX, dg (jm v l) v (aJ l) g ∧ r = .returned (.tuple #[.agg #[.int .i64 g.v, .slice g.A g.n g.c], .int .i64 (jm v l)]) ∧ Hp w [g.row] w' := by
 have hh := Hp.start w;have hln := hS.cI TR.len Dr;have hfw := fun w1 => mE v w1;have han := fun b w1 hb hp => pM A n c l v b w1 (hS.ext hb) hn hp hz
 cases hf : gl v with
 | false =>
  rw [hf] at hfw;rw [show jm v l = 1 by unfold jm; rw [if_pos (.inl hf)]];refine aj (N := 25) (l := [.int .i64 v, .slice A n c]) Tryz.func72 rfl rfl (by simp) ?_;refine sr ?_;refine dp hh [_] ?_;intro b2 w2 hh;refine cj hh ?_;intro b4 w4 hh;refine aI (aa (ah (sr ?_)));refine bI hh 1 ?_;refine bB hh (hfw _) rfl ?_;intro w7 hh;refine gd ?_;refine mB ?_;first | refine gS ?_ | (refine gT ?_; refine mL ?_) | refine gV ?_
  first | refine gS ?_ | (refine gT ?_; refine eV rfl (ay (jA rfl) a0) Dr ?_) | refine gV ?_
  refine cb Dr rfl rfl Dr ?_;first | refine cW ?_ | refine cX ?_
  refine aa (cT (sr ?_));refine eX [_,_] ?_;refine bD hh 0 [_,_] ?_;intro ws hh;replace hh : Hp _ (.blk _ _ [_, _] _ :: _) _ := hh;refine aI (aa (al (aH ?_)));refine j0 (aN rfl (aO (vs := [_, _]) aC.out (hh.aw (i := 0) (n := 2) rfl rfl) rfl) (cf (cO rfl) a7)) ?_;exact ⟨PX.nil, dg.err Dr, rfl, (hh.sub (List.nil_sublist _)).ju⟩
 | true =>
  rw [hf] at hfw
  cases ha : l.any fun t => !dY v t with
  | true =>
   rw [ha] at han;rw [show jm v l = 1 by unfold jm; rw [if_pos (.inr ha)]];refine aj (N := 25) (l := [.int .i64 v, .slice A n c]) Tryz.func72 rfl rfl (by simp) ?_;refine sr ?_;refine dp hh [_] ?_;intro b2 w2 hh;refine cj hh ?_;intro b4 w4 hh;refine aI (aa (ah (sr ?_)));refine bI hh 1 ?_;refine bB hh (hfw _) rfl ?_;intro w7 hh;refine gd ?_;refine mB ?_;first | refine gS ?_ | (refine gT ?_; refine mL ?_) | refine gV ?_
   first | refine gS ?_ | (refine gT ?_; refine eV rfl (ay (jA rfl) a0) Dr ?_) | refine gV ?_
   refine br rfl rfl ?_;refine bB hh (han _ _ hh.below (hh.dK (i := 1) (o := 0) rfl rfl)) rfl ?_;intro w12 hh;first | refine cW ?_ | refine cX ?_
   refine aa (cT (sr ?_));refine eX [_,_] ?_;refine bD hh 0 [_,_] ?_;intro ws hh;replace hh : Hp _ (.blk _ _ [_, _] _ :: _) _ := hh;refine aI (aa (al (aH ?_)));refine j0 (aN rfl (aO (vs := [_, _]) aC.out (hh.aw (i := 0) (n := 2) rfl rfl) rfl) (cf (cO rfl) a7)) ?_;exact ⟨PX.nil, dg.err Dr, rfl, (hh.sub (List.nil_sublist _)).ju⟩
  | false =>
   rw [ha] at han;have e1 : jm v l = if 65536 < l.length then 3 else fL l := by unfold jm; rw [if_neg (by rw [hf, ha]; decide)]
   by_cases h6 : 65536 < n
   ·rw [e1, if_pos Dq];refine aj (N := 25) (l := [.int .i64 v, .slice A n c]) Tryz.func72 rfl rfl (by simp) ?_;refine sr ?_;refine dp hh [_] ?_;intro b2 w2 hh;refine cj hh ?_;intro b4 w4 hh;refine aI (aa (ah (sr ?_)));refine bI hh 1 ?_;refine bB hh (hfw _) rfl ?_;intro w7 hh;refine gd ?_;refine mB ?_;first | refine gS ?_ | (refine gT ?_; refine mL ?_) | refine gV ?_
    first | refine gS ?_ | (refine gT ?_; refine eV rfl (ay (jA rfl) a0) Dr ?_) | refine gV ?_
    refine br rfl rfl ?_;refine bB hh (han _ _ hh.below (hh.dK (i := 1) (o := 0) rfl rfl)) rfl ?_;intro w12 hh;first | refine cW ?_ | refine cX ?_
    refine aa (cF (ak (ai (ah (sr (mL (a4 ?_)))))));refine ct (aa (cT (sr ?_)));refine eX [_,_] ?_;refine bD hh 0 [_,_] ?_;intro ws hh;replace hh : Hp _ (.blk _ _ [_, _] _ :: _) _ := hh;refine aI (aa (al (aH ?_)));refine j0 (aN rfl (aO (vs := [_, _]) aC.out (hh.aw (i := 0) (n := 2) rfl rfl) rfl) (cf (cO rfl) a7)) ?_;exact ⟨PX.nil, dg.err Dr, rfl, (hh.sub (List.nil_sublist _)).ju⟩
   ·rw [e1, if_neg Dq];refine aj (N := 25) (l := [.int .i64 v, .slice A n c]) Tryz.func72 rfl rfl (by simp) ?_;refine sr ?_;refine dp hh [_] ?_;intro b2 w2 hh;refine cj hh ?_;intro b4 w4 hh;refine aI (aa (ah (sr ?_)));refine bI hh 1 ?_;refine bB hh (hfw _) rfl ?_;intro w7 hh;refine gd ?_;refine mB ?_;first | refine gS ?_ | (refine gT ?_; refine mL ?_) | refine gV ?_
    first | refine gS ?_ | (refine gT ?_; refine eV rfl (ay (jA rfl) a0) Dr ?_) | refine gV ?_
    refine br rfl rfl ?_;refine bB hh (han _ _ hh.below (hh.dK (i := 1) (o := 0) rfl rfl)) rfl ?_;intro w12 hh;first | refine cW ?_ | refine cX ?_
    refine aa (cF (ak (ai (ah (sr (mL (a4 ?_)))))));refine ct (aa (cF (ak (ai (ah ?_)))));refine qq [] [0, 0, 2, 7, 15, 15, 63, 127] 3 [[(2, none)], [(1, none)], [(20, some 1)]] [(2, 21), (1, 20), (0, 19)] [([], 4, [(2, 21), (1, 20), (0, 19)])] hh mixed Dt Dt Dr ?_;refine fT 1 ?_;refine jv ?_;refine bj (i := 2) (xk hh.sz 96 n 4 (aQ TR.cells l)) (xk.ext) ?_ ?_
    ·intro ρ1 w1 hj hR;exact bJ rfl (aW aq.out (ay (show ρ1 20 = Value.slice _ _ _ from hR.1) a0)) (lC A n c l w1 (hS.ext hj.hp.below) hn) (fun _ _ ⟨A, c, hq, ho, hb⟩ => ⟨_, hq, hb, A, c, rfl, oO ho hj.bl.size⟩)
    refine bq ?_;intro p_ hp_;simp only [List.mem_cons, List.not_mem_nil, or_false] at hp_
    rcases hp_ with rfl
    intro f W hJ hV;have hb_5 := hJ.bl;obtain ⟨v21, v20, v19, _⟩ := hV;simp only [iC];have e19 : f 0 = _ := v19;rw [e19];have e20 : f 1 = _ := v20;rw [e20];obtain ⟨A21, c21, e21, o21⟩ : xk _ _ _ _ _ (f 2) W := v21;rw [e21];replace hh := JJ.BC hh hJ.hp o21;clear o21;clear e19 e20 e21 hJ;refine aK (jH v A21 n c21 l k _ hT hh hln Dq Dq ho) aq.out rfl Dr ?_; rintro e_ w22 ⟨g, og, rfl, hh⟩; refine ⟨_, rfl, ?_⟩;refine cH ?_;refine cN (i := 4) (by repeat (first | exact bX | refine bE ?_ | refine bV ?_ | refine np_scope ?_)) rfl Dt Dt Dt (fun _ => dP (show _ = Value.tuple (List.toArray _) from rfl) rfl) Dr ?_;refine cN (i := 5) (by repeat (first | exact bX | refine bE ?_ | refine bV ?_ | refine np_scope ?_)) rfl Dt Dt Dt (fun _ => dP (show _ = Value.tuple (List.toArray _) from rfl) rfl) Dr ?_;refine dT 6 Dr Dt Dr Dt Dt ?_;refine bD hh 1 [_,_] ?_;intro ws hh;replace hh : Hp _ (_ :: .blk _ _ [_, _] _ :: _) _ := hh;refine aI (aa (al ?_));refine j0 (aN rfl (aO (vs := [_, _]) aC.out (hh.aw (i := 1) (n := 2) rfl rfl) rfl) (cf (cO rfl) a7)) ?_;exact ⟨g, og, rfl, hh.sub (List.Sublist.cons_cons _ (List.nil_sublist _))⟩
end Go.Proofs.YteeckcbbnegmcaaGreatDoor
/- The walk through poly.like. -/
namespace Go.Proofs.YteeckcbbnegmcaaGreatDoor
open Go.RowKit
def PX.cells (g : PX) : List Value := [.int .i64 g.v, .slice g.A g.n g.c]
theorem PX.len (g : PX) : (PX.cells g).length = 2 := rfl
structure PX.ja (g : PX) (k : Nat) : Prop where
 n : g.n ≤ 1000000
 cap : g.n ≤ g.c
 ok : gx k g.ts
 sz : ∀ t ∈ g.ts, t.m.size ≤ 100000
def PX.e (g : PX) : Int := gJ g.v g.ts
theorem l0 (g : PX) (k : Nat) (w : World) (hT : gK w) (h : g.at_ w) (hl : g.ja k) :
  Calls Tryz.prog 142 #[.agg #[.int .i64 g.v, .slice g.A g.n g.c]] w fun r w' => r = .returned (.int .i64 g.e) ∧ Below w.heap.size w w' :=
 rM g.v g.A g.n g.c g.ts w hT h hl.n fun t ht => ⟨(hl.ok t ht).1, hl.sz t ht⟩
def wz (ps : List PX) : Bool := ps.any fun g => decide (g.v ≠ (ps.map PX.v).headD 0)
def fA (ps : List PX) : Int := match ps.find? (fun g => decide (g.e ≠ 0)) with | some g => g.e | none => if ps.length = 0 ∨ wz ps = true then 1 else 0
theorem uh (L : Option Addr) (n c : Nat) (ps : List PX) (f : PX) (p : Addr) (w : World) (hL : Sl w L n 2 (aQ PX.cells ps)) (hp : w.cell? p = some (.slice L n c)) (hn : 0 < n) :
  Calls Tryz.prog 160 #[.agg #[.int .i64 f.v, .slice f.A f.n f.c], .pointer (some p)] w fun r w' => r = .returned (.bool (decide (f.v ≠ (ps.map PX.v).headD 0))) ∧ Below w.heap.size w w' := by
 have hh := Hp.start w;have hln := hL.cI PX.len Dr;obtain ⟨g, ps, rfl⟩ : ∃ g l, ps = g :: l := by
  cases ps with
  | nil => exact absurd hln (by show ¬ 0 = n; omega)
  | cons g l => exact ⟨g, l, rfl⟩
 obtain ⟨ad, rfl, hr⟩ := hL.at_ hn;have hd : (((g :: ps).map PX.v).headD 0) = g.v := rfl;rw [hd];have h0 : (g :: ps)[0]? = some g := rfl;by_cases hg : f.v = g.v
 ·refine aj (N := 11) (l := [.agg #[.int .i64 f.v, .slice f.A f.n f.c], .pointer (some p)]) Tryz.func160 rfl rfl (by simp) ?_;refine sr ?_;refine dp hh [_,_] ?_;intro b2 w2 hh;refine aB (aa (ah ?_));refine bg 6 [[(2, none)], [(4, some 0)], [(1, none)], [(6, some 2)], [(7, some 3)], [(8, some 4)]] [(5, 9), (4, 8), (3, 7), (2, 6), (1, 5), (0, 4)] hh mixed Dt ?_;refine dX ?_;refine fT 0 ?_;refine kP (fun _ hj => (hj.hp.below.cell (lR hp)).trans hp) ?_;refine bo (i := 3) (fun ρ1 w1 hj hR => fD aF.out aC.size (show ρ1 6 = Value.slice _ _ _ from hR.1) rfl Dq Dq) ?_;refine sX ?_;refine kP (fun _ hj => dD hj.hp.below (((hr.recAt PX.len h0)) 0 _ rfl)) ?_;refine bq ?_;intro f W hJ hV;have hb_1 := hJ.bl;obtain ⟨v9, v8, v7, v6, v5, v4, _⟩ := hV;replace hh := hJ.hp;refine a6 (bk (ae v9 (ae v8 (ae v7 (ae v6 (ae v5 (ae v4 a5))))))) ?_;dsimp only [cJ];clear hJ;refine cz (aB (aa (al ?_)));refine cA ?_;exact ⟨by rw [decide_eq_false Dq], hh.below⟩
 ·refine aj (N := 11) (l := [.agg #[.int .i64 f.v, .slice f.A f.n f.c], .pointer (some p)]) Tryz.func160 rfl rfl (by simp) ?_;refine sr ?_;refine dp hh [_,_] ?_;intro b2 w2 hh;refine aB (aa (ah ?_));refine bg 6 [[(2, none)], [(4, some 0)], [(1, none)], [(6, some 2)], [(7, some 3)], [(8, some 4)]] [(5, 9), (4, 8), (3, 7), (2, 6), (1, 5), (0, 4)] hh mixed Dt ?_;refine dX ?_;refine fT 0 ?_;refine kP (fun _ hj => (hj.hp.below.cell (lR hp)).trans hp) ?_;refine bo (i := 3) (fun ρ1 w1 hj hR => fD aF.out aC.size (show ρ1 6 = Value.slice _ _ _ from hR.1) rfl Dq Dq) ?_;refine sX ?_;refine kP (fun _ hj => dD hj.hp.below (((hr.recAt PX.len h0)) 0 _ rfl)) ?_;refine bq ?_;intro f W hJ hV;have hb_1 := hJ.bl;obtain ⟨v9, v8, v7, v6, v5, v4, _⟩ := hV;replace hh := hJ.hp;refine a6 (bk (ae v9 (ae v8 (ae v7 (ae v6 (ae v5 (ae v4 a5))))))) ?_;dsimp only [cJ];clear hJ;refine cz (aB (aa (al ?_)));refine cA ?_;exact ⟨by rw [decide_eq_true hg], hh.below⟩
theorem uK (A : Option Addr) (n c : Nat) (l : List PX) (g : FuncId) (cap : List Value) (p : PX → Bool) (w : World) (hS : Sl w A n 2 (aQ PX.cells l)) (hn : n ≤ 1000000) [aq Tryz.prog g]
  (hg : ∀ (z : PX) (w1 : World), z ∈ l → Below w.heap.size w w1 → Calls Tryz.prog g (.agg #[.int .i64 z.v, .slice z.A z.n z.c] :: cap).toArray w1 fun r w' => r = .returned (.bool (p z)) ∧ Below w1.heap.size w1 w') :
  Calls Tryz.prog 204 #[.slice A n c, .func (.func g) #[] cap.toArray] w fun r w' => ∃ v, r = .returned (.int .i64 v) ∧ (0 ≤ v ↔ l.any p = true) ∧ Below w.heap.size w w' := by
 have hh := Hp.start w;have hln := hS.cI PX.len Dr;refine aj (N := 19) (l := [.slice A n c, .func (.func g) #[] cap.toArray]) Tryz.func204 rfl rfl (by simp) ?_;refine sr (aI (aa (ah (sr (mL (a4 (mI (aa (ao ?_)))))))));refine bF [4, 5, 8, 9, 10, 11, 12, 13, 14, 15, 16, 17, 18] 8
  (fun v w' => ∃ i : Nat, i ≤ n ∧ v = .int .i64 i ∧ (l.take i).any p = false ∧ Hp w [] w')
  (fun v _ => n - (intOf v).toNat) ?_ ?_
 ·exact ⟨0, Nat.zero_le _, rfl, rfl, hh⟩
 ·clear hh;rintro ρ' v w' ⟨i, hi, rfl, hall, hh⟩;by_cases hlt : i < n
  ·obtain ⟨z, hz⟩ := aG (l := l) (k := i) Dq;obtain ⟨ad, rfl, hr⟩ := hS.at_ Dq;have hc := fun w1 => hg z w1 (List.mem_of_getElem? hz)
   cases gz : p z with
   | true =>
    rw [gz] at hc;refine sr ?_;refine a3 (aa (ah (cT (ak (ai (ah (ao (sr (mI (aI (aa (sr ?_))))))))))));refine fy (by first | exact gQ rfl | exact ev_nilf rfl) Dr ?_;refine mL (mI ?_);refine aZ (k := i) aF.out aC.size rfl rfl Dq Dq Dr ?_;refine bZ (vs := [_, _]) aC.out rfl ((hr.ext hh.below).recAt PX.len hz) rfl Dr ?_;refine fp (hc _ hh.below) aq.out rfl rfl Dr ?_;rintro e_ w16 ⟨rfl, hb_⟩;refine ⟨_, rfl, ?_⟩;replace hh := hh.ext hb_;refine aa (cT (sr (mI (aI (aa (al (bT (aH (aH (bT (aH ?_)))))))))));refine cA ?_;exact ⟨_, rfl, ⟨fun _ => List.any_eq_true.2 ⟨z, List.mem_of_getElem? hz, gz⟩, fun _ => by omega⟩, hh.below⟩
   | false =>
    rw [gz] at hc;refine sr ?_;refine a3 (aa (ah (cT (ak (ai (ah (ao (sr (mI (aI (aa (sr ?_))))))))))));refine fy (by first | exact gQ rfl | exact ev_nilf rfl) Dr ?_;refine mL (mI ?_);refine aZ (k := i) aF.out aC.size rfl rfl Dq Dq Dr ?_;refine bZ (vs := [_, _]) aC.out rfl ((hr.ext hh.below).recAt PX.len hz) rfl Dr ?_;refine fp (hc _ hh.below) aq.out rfl rfl Dr ?_;rintro e_ w16 ⟨rfl, hb_⟩;refine ⟨_, rfl, ?_⟩;replace hh := hh.ext hb_;refine aa (cF (ak (aX (ai (ar ?_)))));refine bO (mI (aE (ai ?_)));refine ⟨⟨i + 1, Dq, rfl, by rw [aT hz, List.any_append, hall, List.any_cons, List.any_nil, gz]; rfl, hh⟩, by show n - (i + 1) < n - i; omega, ?_⟩;exact Du
  ·rw [List.take_of_length_le Dq] at hall;refine sr ?_;refine a3 (aa (ah (cF (aV (aA (aA (a8 (ai (sr (aI (aa (al ?_))))))))))));refine cA ?_;exact ⟨_, rfl, ⟨fun h => absurd h Dr, fun h => by rw [hall] at h; cases h⟩, hh.below⟩
theorem oS (A : Option Addr) (n c : Nat) (l : List PX) (g : FuncId) (cap : List Value) (p : PX → Bool) (w : World) (hS : Sl w A n 2 (aQ PX.cells l)) (hn : n ≤ 1000000) [aq Tryz.prog g]
  (hg : ∀ (z : PX) (w1 : World), z ∈ l → Below w.heap.size w w1 → Calls Tryz.prog g (.agg #[.int .i64 z.v, .slice z.A z.n z.c] :: cap).toArray w1 fun r w' => r = .returned (.bool (p z)) ∧ Below w1.heap.size w1 w') :
  Calls Tryz.prog 154 #[.slice A n c, .func (.func g) #[] cap.toArray] w fun r w' => r = .returned (.bool (l.any p)) ∧ Below w.heap.size w w' := by
 have hh := Hp.start w;refine aj (N := 9) (l := [.slice A n c, .func (.func g) #[] cap.toArray]) Tryz.func154 rfl rfl (by simp) ?_;refine sr (aB (aa (sr (mL ?_))));refine fy (by first | exact gQ rfl | exact ev_nilf rfl) Dr ?_;refine aK (uK A n c l g cap p _ (hS.ext hh.below) hn hg) aq.out rfl Dr ?_;rintro e_ w7 ⟨v_, rfl, hv_, hb_⟩;refine ⟨_, rfl, ?_⟩;replace hh := hh.ext hb_
 cases ga : l.any p with
 | true =>
  have h0 := hv_.2 ga;refine dE (aB (aa (al ?_)));refine cA ?_;exact ⟨rfl, hh.below⟩
 | false =>
  have h0 : ¬ 0 ≤ v_ := fun h => by rw [hv_.1 h] at ga; cases ga
  refine dE (aB (aa (al ?_)));refine cA ?_;exact ⟨rfl, hh.below⟩
theorem nh (L : Option Addr) (n c : Nat) (ps : List PX) (k : Nat) (w : World) (hT : gK w) (hL : Sl w L n 2 (aQ PX.cells ps)) (hn : n ≤ 1000000) (hf : ∀ g ∈ ps, g.at_ w) (hl : ∀ g ∈ ps, g.ja k) :
  Calls Tryz.prog 74 #[.slice L n c] w fun r w' => r = .returned (.int .i64 (fA ps)) ∧ Below w.heap.size w w' := by
 have hh := Hp.start w;have hln := hL.cI PX.len Dr;refine aj (N := 26) (l := [.slice L n c]) Tryz.func74 rfl rfl (by simp) ?_;refine sr ?_;refine dp hh [_] ?_;intro b1 w1 hh;refine aI (aa (ah (sr ?_)));refine bI hh 0 ?_;refine a4 (mI (aa (ao ?_)));refine bF [2, 4, 5, 8, 9, 10, 11, 12, 13, 14, 15, 16, 17] 8
  (fun v w' => ∃ i : Nat, i ≤ n ∧ v = .int .i64 i ∧ (ps.take i).any (fun g => decide (g.e ≠ 0)) = false ∧ Hp w [.blk b1 104 [.slice L n c] (0, 0)] w')
  (fun v _ => n - (intOf v).toNat) ?_ ?_
 ·exact ⟨0, Nat.zero_le _, rfl, rfl, hh⟩
 ·clear hh;rintro ρ' v w' ⟨i, hi, rfl, hall, hh⟩;by_cases hlt : i < n
  ·obtain ⟨g, hx⟩ := aG (l := ps) (k := i) Dq;have hmem := List.mem_of_getElem? hx;have hc := fun w1 hT1 hb => l0 g k w1 hT1 ((hf g hmem).ext hb) (hl g hmem);obtain ⟨ad, rfl, hr⟩ := hL.at_ Dq;by_cases he : g.e = 0
   ·refine sr ?_;refine a3 (aa (ah (cT (ak (ai (ah (ao (sr ?_))))))));refine aZ (k := i) aF.out aC.size rfl rfl Dq Dq Dr ?_;refine bZ (vs := [_, _]) aC.out rfl ((hr.ext hh.below).recAt PX.len hx) rfl Dr ?_;refine cj hh ?_;intro b4 w4 hh;refine bD hh 0 [_,_] ?_;intro ws hh;replace hh : Hp _ (.blk _ _ [_, _] _ :: _) _ := hh;refine aa (sr ?_);refine cU hh 0 [_,_] ?_;refine bB hh (hc _ (hT.hp hh) hh.below) rfl ?_;intro w13 hh;refine aI (aa (sr (mI ?_)));refine cz (aa (cF (ak (aX (ai (ar ?_))))));refine bO (mI (aE (ai ?_)));replace hh := hh.sub (List.Sublist.cons _ (List.Sublist.cons_cons _ List.Sublist.slnil));refine ⟨⟨i + 1, Dq, rfl, by rw [aT hx, List.any_append, hall, List.any_cons, List.any_nil, decide_eq_false Dq]; rfl, hh⟩, by show n - (i + 1) < n - i; omega, ?_⟩;exact Du
   ·refine sr ?_;refine a3 (aa (ah (cT (ak (ai (ah (ao (sr ?_))))))));refine aZ (k := i) aF.out aC.size rfl rfl Dq Dq Dr ?_;refine bZ (vs := [_, _]) aC.out rfl ((hr.ext hh.below).recAt PX.len hx) rfl Dr ?_;refine cj hh ?_;intro b4 w4 hh;refine bD hh 0 [_,_] ?_;intro ws hh;replace hh : Hp _ (.blk _ _ [_, _] _ :: _) _ := hh;refine aa (sr ?_);refine cU hh 0 [_,_] ?_;refine bB hh (hc _ (hT.hp hh) hh.below) rfl ?_;intro w13 hh;refine aI (aa (sr (mI ?_)));refine cz (aa (cT (sr (mI (aI (aa (al (bT (aH (aH (bT (aH ?_))))))))))));refine cA ?_;refine ⟨?_, hh.below⟩;unfold fA;rw [qQ hall hx (decide_eq_true he)]
  ·rw [List.take_of_length_le Dq] at hall;have hlk : fA ps = if ps.length = 0 ∨ wz ps = true then 1 else 0 := by unfold fA; rw [gj hall]
   rw [hlk];by_cases h0 : n = 0
   ·refine sr ?_;refine a3 (aa (ah (cF (aV (aA (aA (a8 (ai (ah (sr ?_))))))))));refine bI hh 0 ?_;refine a4 ?_;refine cu (mB ?_);first | refine gS ?_ | (refine gT ?_; refine bI hh 0 ?_) | refine gV ?_
    first | refine gS ?_ | (refine gT ?_; refine eV rfl (ay (jA rfl) a0) Dr ?_) | refine gV ?_
    refine cb Dr rfl rfl Dr ?_;first | refine cW ?_ | refine cX ?_
    refine aa (cT (sr (aI (aa (al (aH ?_))))));refine cA ?_;exact ⟨by rw [if_pos (.inl Dq)], hh.below⟩
   ·have hcell : w'.cell? ⟨b1, 0, none⟩ = some (.slice L n c) := hh.dK (i := 0) rfl rfl;have ho := fun w1 hb => oS L n c ps 160 [.pointer (some ⟨b1, 0, none⟩)] (fun g => decide (g.v ≠ (ps.map PX.v).headD 0)) w1 (hL.ext (hh.below.trans (hb.mono hh.below.size))) hn (fun z w2 hz hb2 => uh L n c ps z ⟨b1, 0, none⟩ w2 ((hL.ext (hh.below.trans (hb.mono hh.below.size))).ext hb2) (dD hb2 (dD hb hcell)) Dq)
    cases hod : wz ps with
    | true =>
     have hod2 : ps.any (fun g => decide (g.v ≠ (ps.map PX.v).headD 0)) = true := hod;rw [hod2] at ho;refine sr ?_;refine a3 (aa (ah (cF (aV (aA (aA (a8 (ai (ah (sr ?_))))))))));refine bI hh 0 ?_;refine a4 ?_;refine cu (mB ?_);first | refine gS ?_ | (refine gT ?_; refine bI hh 0 ?_) | refine gV ?_
     first | refine gS ?_ | (refine gT ?_; refine eV rfl (ay (jA rfl) a0) Dr ?_) | refine gV ?_
     refine br rfl rfl ?_;refine bB hh (ho _ (Below.refl _ _)) rfl ?_;intro w24 hh;first | refine cW ?_ | refine cX ?_
     refine aa (cT (sr (aI (aa (al (aH ?_))))));refine cA ?_;exact ⟨by rw [if_pos (.inr rfl)], hh.below⟩
    | false =>
     have hod2 : ps.any (fun g => decide (g.v ≠ (ps.map PX.v).headD 0)) = false := hod;rw [hod2] at ho;refine sr ?_;refine a3 (aa (ah (cF (aV (aA (aA (a8 (ai (ah (sr ?_))))))))));refine bI hh 0 ?_;refine a4 ?_;refine cu (mB ?_);first | refine gS ?_ | (refine gT ?_; refine bI hh 0 ?_) | refine gV ?_
     first | refine gS ?_ | (refine gT ?_; refine eV rfl (ay (jA rfl) a0) Dr ?_) | refine gV ?_
     refine br rfl rfl ?_;refine bB hh (ho _ (Below.refl _ _)) rfl ?_;intro w24 hh;first | refine cW ?_ | refine cX ?_
     refine aa (cF (ak (ai (sr (aI (aa (al ?_)))))));refine cA ?_;refine ⟨?_, hh.below⟩;rw [if_neg];rintro (h | h)
     ·omega
     ·cases h
end Go.Proofs.YteeckcbbnegmcaaGreatDoor
/- Arguments opened: terms, polynomials. -/
namespace Go.Proofs.YteeckcbbnegmcaaGreatDoor
open Go.ChangeShapes Go.WideShapes Go.ChangeAt Go.RowKit Go.ChangeMaps
set_option maxRecDepth 100000 in
theorem tU {H : Type} {enc : TypeId × Value → H} {W : World} {base fuel : Nat} {sp : Nat → Bool} {held : Bool} {cs : List Value} {x : DataW H × List MemPlace} (h : DataW.trod enc Tryz.prog W base sp held fuel 96 cs = some x) :
  ∃ t : TR, cs = t.cells ∧ True := by
 have c0 : Tryz.prog.cellsOf 96 = 4 := by kernel_rfl
 have c1 : Tryz.prog.cellsOf 9 = 1 := by kernel_rfl
 have c2 : Tryz.prog.cellsOf 65 = 3 := by kernel_rfl
 obtain ⟨y0, y1, n, _, hl, h0, h1⟩ := trod_struct2 Tryz.underlying96 h;obtain ⟨s, e0, _, _⟩ := DataW.trod_string Tryz.underlying9 h0;obtain ⟨a, e1, _⟩ := wm h1;rw [c0] at hl
 match cs, hl with
 | [x0, x1, x2, x3], _ =>
  simp only [c1, c2] at e0 e1;unfold NR.cells at e1;simp at e0 e1;obtain ⟨e1, e2, e3⟩ := e1;subst e0 e1 e2 e3;exact ⟨⟨s, a⟩, rfl, trivial⟩
set_option maxRecDepth 100000 in
theorem uk {H : Type} {enc : TypeId × Value → H} {W : World} {base fuel : Nat} {sp : Nat → Bool} {held : Bool} {cs : List Value} {x : DataW H × List MemPlace} (h : DataW.trod enc Tryz.prog W base sp held fuel 24 cs = some x) :
  ∃ g : PX, cs = g.cells ∧ (g.at_ W ∧ g.n ≤ g.c) := by
 have c0 : Tryz.prog.cellsOf 24 = 2 := by kernel_rfl
 have c1 : Tryz.prog.cellsOf 3 = 1 := by kernel_rfl
 have c2 : Tryz.prog.cellsOf 22 = 1 := by kernel_rfl
 obtain ⟨y0, y1, n, _, hl, h0, h1⟩ := trod_struct2 Tryz.underlying24 h;obtain ⟨z, e0, _, _⟩ := DataW.trod_int Tryz.underlying3 h0;obtain ⟨B, m, b, k, e1, s1, _⟩ := tH TR.len Dr Tryz.underlying22 Dt (fun _ _ _ h => tU h) h1;rw [e1] at h1;have hroom := wI Tryz.underlying22 h1;rw [c0] at hl
 match cs, hl with
 | [x0, x1], _ =>
  simp only [c1, c2] at e0 e1;simp at e0 e1;subst e0 e1;exact ⟨⟨z, B, m, b, k⟩, rfl, s1, hroom⟩
set_option maxRecDepth 100000 in
theorem qo {H : Type} {enc : TypeId × Value → H} {W : World} {r : Reach} {base b0 : Nat} {sp : Nat → Bool} {held : Bool} {v : Value} {d : DataW H} {ps : List MemPlace}
  (hval : Value.okWide Tryz.prog W r b0 24 v) (hd : DataW.Trod enc Tryz.prog W base sp held 24 v d ps) : ∃ g : PX, v = .agg #[.int .i64 g.v, .slice g.A g.n g.c] ∧ g.at_ W ∧ g.n ≤ g.c := by
 obtain ⟨cs, rfl, _⟩ := okWide_struct Tryz.underlying24 hval;obtain ⟨fuel, hf⟩ := hd;obtain ⟨f, h1, h2⟩ := uk hf;refine ⟨f, ?_, h2⟩;have h3 : cs.toList = f.cells := h1;rw [← Array.toList_inj.1 (show cs.toList = (#[.int .i64 f.v, .slice f.A f.n f.c] : Array Value).toList from h3)]
end Go.Proofs.YteeckcbbnegmcaaGreatDoor
/- Plain: products of rows of terms. No program in sight. -/
namespace Go.Proofs.YteeckcbbnegmcaaGreatDoor
open Go.RowKit
def mulM (a b : ByteArray) : ByteArray := str (mulL a.data.toList b.data.toList).1
def iD (a b : ByteArray) : Int := (mulL a.data.toList b.data.toList).2
def pC (x y : TR) : TR := ⟨mulM x.m y.m, nR (x.c.d * y.c.d)⟩
def cd (p q : List TR) : List TR := p.flatMap fun x => q.map (pC x)
def nn (p q : List TR) : List Int := p.flatMap fun x => q.map fun y => iD x.m y.m
def eT (p q : List TR) : Int := if 65536 < p.length * q.length then 3 else match (nn p q).find? fun e => decide (e ≠ 0) with | some e => e | none => if 4096 < (aJ (cd p q)).length then 3 else 0
theorem si {α β : Type} {f : α → List β} {k : Nat} : ∀ {l : List α}, (∀ x ∈ l, (f x).length = k) → (l.flatMap f).length = l.length * k
 | [], _ => by simp
 | x :: l, h => by
  rw [List.flatMap_cons, List.length_append, h x List.mem_cons_self, si fun y hy => h y (List.mem_cons_of_mem _ hy), List.length_cons, Nat.succ_mul, Nat.add_comm]
theorem iX (p q : List TR) : (cd p q).length = p.length * q.length := si fun x _ => List.length_map _
theorem mR {α β γ : Type} {f : α → β → γ} {p : List α} {q : List β} {i : Nat} {x : α} (hx : p[i]? = some x) :
  ((p.take (i + 1)).flatMap fun x => q.map (f x)) = ((p.take i).flatMap fun x => q.map (f x)) ++ (q.take q.length).map (f x) := by
 rw [aT hx, List.flatMap_append, List.take_of_length_le (Nat.le_refl _)];simp
theorem tV {α β γ : Type} {f : α → β → γ} {p : List α} {q : List β} {i j : Nat} {x : α} {y : β} (hx : p[i]? = some x) (hy : q[j]? = some y) :
  ∃ R, (p.flatMap fun x => q.map (f x)) = (((p.take i).flatMap fun x => q.map (f x)) ++ (q.take j).map (f x)) ++ f x y :: R := by
 refine ⟨(q.drop (j + 1)).map (f x) ++ (p.drop (i + 1)).flatMap fun x => q.map (f x), ?_⟩;have e1 : p = p.take i ++ x :: p.drop (i + 1) := by rw [← kd hx, List.take_append_drop]
 have e2 : q = q.take j ++ y :: q.drop (j + 1) := by rw [← kd hy, List.take_append_drop]
 have e3 : q.map (f x) = (q.take j).map (f x) ++ f x y :: (q.drop (j + 1)).map (f x) := by
  rw [← List.map_cons, ← List.map_append, ← e2]
 calc (p.flatMap fun x => q.map (f x)) = (p.take i ++ x :: p.drop (i + 1)).flatMap fun x => q.map (f x) := by rw [← e1]
  _ = _ := by rw [List.flatMap_append, List.flatMap_cons, e3]; simp
theorem l7 {k j : Nat} {p q : List TR} (hp : gx k p) (hq : gx j q) (h : k + j ≤ 1000000) : gx (k + j) (cd p q) := fun t ht => by
 obtain ⟨x, hx, ht⟩ := List.mem_flatMap.1 ht;obtain ⟨y, hy, rfl⟩ := List.mem_map.1 ht;have hs := (hp x hx).2.mul (hq y hy).2;exact ⟨hs.ok Dq, by show Sz _ (nR _).d; rw [dR]; exact hs⟩
theorem wZ (a b : ByteArray) : (mulM a b).size ≤ b.size := by
 unfold mulM;rw [eh];unfold mulL;split
 ·rename_i l hl;have := (qd hl).2.2;have h4 : l.length ≤ b.data.toList.length := by rw [this.2, List.length_zipWith, cM, cM]; omega
  have h5 : (y6 l).length ≤ l.length := by unfold y6; split <;> simp
  rw [ca];exact Nat.le_trans h5 h4
 ·exact Nat.zero_le _
end Go.Proofs.YteeckcbbnegmcaaGreatDoor
/- Plain laws of sums and products of rows of terms; what is in the one form. No program in sight. -/
namespace Go.Proofs.YteeckcbbnegmcaaGreatDoor
open Go.RowKit
theorem yc (f g : ByteArray → Dyadic) (l : List TR) : wS (fun m => f m + g m) l = wS f l + wS g l := by
 induction l with
 | nil => exact (Dyadic.zero_add _).symm
 | cons t l ih => rw [wS, wS, wS, ih]; grind
theorem BX (c : Dyadic) (f : ByteArray → Dyadic) (l : List TR) : wS (fun m => c * f m) l = c * wS f l := by
 induction l with
 | nil => exact (Dyadic.mul_zero _).symm
 | cons t l ih => rw [wS, wS, ih]; grind
theorem BP {f g : ByteArray → Dyadic} (h : ∀ m, f m = g m) (l : List TR) : wS f l = wS g l := by rw [show f = g from funext h]
theorem yK (f : ByteArray → Dyadic) (x : TR) (q : List TR) : wS f (q.map (pC x)) = x.c.d * wS (fun b => f (mulM x.m b)) q := by
 induction q with
 | nil => exact (Dyadic.mul_zero _).symm
 | cons t q ih =>
  rw [List.map_cons, wS, ih, wS];show (nR _).d * f (mulM x.m t.m) + _ = _;rw [dR];grind
theorem lS (f : ByteArray → Dyadic) (q : List TR) : ∀ p : List TR, wS f (cd p q) = wS (fun a => wS (fun b => f (mulM a b)) q) p
 | [] => rfl
 | t :: p => by
  show wS f (q.map (pC t) ++ cd p q) = _;rw [gY, yK, lS f q p, wS]
theorem qG (a b : List UInt8) : mulL a b = mulL b a := by
 have h : fJ (· + ·) a b = fJ (· + ·) b a := by
  unfold fJ;have hz : List.zipWith (fun x y : Int => x + y) (ints a) (ints b) = List.zipWith (fun x y => x + y) (ints b) (ints a) := by
   rw [List.zipWith_comm];congr 1;funext x y;exact Int.add_comm _ _
  have hc : (dq a && (dq b && decide ((b.length : Int) = a.length))) = (dq b && (dq a && decide ((a.length : Int) = b.length))) := by
   rw [show decide ((b.length : Int) = a.length) = decide ((a.length : Int) = b.length) from decide_eq_decide.2 eq_comm]
   cases dq a <;> cases dq b <;> rfl
  rw [hc, hz]
 unfold mulL;rw [h]
theorem qx (a b : ByteArray) : mulM a b = mulM b a := by unfold mulM; rw [qG]
theorem wV (a b : ByteArray) : iD a b = iD b a := by unfold iD; rw [qG]
def CP (c : Dyadic) (t : TR) : TR := ⟨t.m, nR (t.c.d * c)⟩
theorem dk {v : Int} {ts : List TR} (h : gJ v ts = 0) : gl v = true ∧ ts.length ≤ 4096 ∧ (∀ t ∈ ts, dY v t = true) ∧ Canon ts := by
 unfold gJ at h
 cases hf : gl v with
 | false => rw [hf, if_pos rfl] at h; omega
 | true =>
  rw [if_neg (by rw [hf]; decide)] at h;by_cases h4 : 4096 < ts.length
  ·rw [if_pos h4] at h; omega
  ·rw [if_neg h4] at h;by_cases ho : okB v ts = true
   ·unfold okB at ho;rw [Bool.and_eq_true] at ho;have hg : ∀ t ∈ ts, kv v t = true := List.all_eq_true.1 ho.1;refine ⟨rfl, Dq, fun t ht => ?_, lj.1 ho.2, fun t ht => ?_, fun t ht => ?_⟩
    ·exact (Bool.and_eq_true_iff.1 (hg t ht)).1
    ·exact tI (Bool.and_eq_true_iff.1 (Bool.and_eq_true_iff.1 (hg t ht)).2).1
    ·exact ((nO _).1 (Bool.and_eq_true_iff.1 (Bool.and_eq_true_iff.1 (hg t ht)).2).2).symm
   ·rw [if_neg ho] at h; omega
theorem q6 {v : Int} {ts : List TR} (hf : gl v = true) (h4 : ts.length ≤ 4096) (hm : ∀ t ∈ ts, dY v t = true) (hc : Canon ts) : gJ v ts = 0 := by
 unfold gJ;rw [if_neg (by rw [hf]; decide), if_neg Dq, if_pos];unfold okB;rw [Bool.and_eq_true];refine ⟨List.all_eq_true.2 fun t ht => ?_, lj.2 hc.po⟩;show (dY v t && (rj t && Cx t.c)) = true;rw [hm t ht, (nO _).2 (hc.nf t ht).symm];unfold rj;rw [decide_eq_false (hc.nz t ht)]
 rfl
theorem Bt {v : Int} {s t : TR} (h : s.m = t.m) (hs : dY v s = true) : dY v t = true := by unfold dY at hs ⊢; rwa [← h]
theorem uV {v : Int} {l : List TR} (h : ∀ t ∈ l, dY v t = true) : ∀ t ∈ aJ l, dY v t = true := fun t ht => by
 obtain ⟨s, hs, e⟩ := hZ t ht;exact Bt e (h s hs)
theorem fK {v : Int} {l : List TR} (hf : gl v = true) (h4 : (aJ l).length ≤ 4096) (hm : ∀ t ∈ l, dY v t = true) : gJ v (aJ l) = 0 := q6 hf h4 (uV hm) (eC l)
theorem yh {v : Int} {x y : TR} (hx : dY v x = true) (h : iD x.m y.m = 0) : dY v (pC x y) = true := by
 unfold dY at hx ⊢;rw [Bool.and_eq_true, decide_eq_true_eq] at hx;obtain ⟨_, _, h3, h4, h5⟩ := kf h;rw [Bool.and_eq_true, decide_eq_true_eq];have h6 := congrArg List.length h5;rw [cM, List.length_zipWith, cM, cM, h3, Nat.min_self] at h6;refine ⟨?_, ?_⟩
 ·show dq (mulM x.m y.m).data.toList = true;unfold mulM;rw [bC];exact h4
 ·show ((mulM x.m y.m).size : Int) = v;unfold mulM;rw [eh, h6, ← ca];exact hx.2
theorem qa {v : Int} {p q : List TR} (hp : ∀ t ∈ p, dY v t = true) (h : ∀ e ∈ nn p q, e = 0) : ∀ t ∈ cd p q, dY v t = true := fun t ht => by
 obtain ⟨x, hx, ht⟩ := List.mem_flatMap.1 ht;obtain ⟨y, hy, rfl⟩ := List.mem_map.1 ht;exact yh (hp x hx) (h _ (List.mem_flatMap.2 ⟨x, hx, List.mem_map.2 ⟨y, hy, rfl⟩⟩))
theorem kW {p q : List TR} (h : eT p q = 0) : p.length * q.length ≤ 65536 ∧ (∀ e ∈ nn p q, e = 0) ∧ (aJ (cd p q)).length ≤ 4096 := by
 unfold eT at h;by_cases h6 : 65536 < p.length * q.length
 ·rw [if_pos h6] at h; omega
 ·rw [if_neg h6] at h;split at h
  ·rename_i e he;have := List.find?_some he;rw [decide_eq_true_eq] at this;exact absurd h this
  ·rename_i he;refine ⟨Dq, fun e hm => ?_, ?_⟩
   ·have := List.find?_eq_none.1 he e hm;simpa using this
   ·by_cases h4 : 4096 < (aJ (cd p q)).length
    ·rw [if_pos h4] at h; omega
    ·omega
end Go.Proofs.YteeckcbbnegmcaaGreatDoor
/- The walk through poly.Add. -/
namespace Go.Proofs.YteeckcbbnegmcaaGreatDoor
open Go.RowKit
def gL (ps : List PX) : Int := (ps.map PX.v).headD 0
def qm (ps : List PX) : List TR := ps.flatMap PX.ts
def xa (ps : List PX) : Int := if fA ps = 0 then fL (qm ps) else fA ps
theorem rp {ps : List PX} (h : fA ps = 0) : ps ≠ [] ∧ (∀ g ∈ ps, g.e = 0) ∧ ∀ g ∈ ps, g.v = gL ps := by
 unfold fA at h;split at h
 ·rename_i f hf;have := List.find?_some hf;simp at this;exact absurd h this
 ·rename_i hf;split at h
  ·cases h
  rename_i hno;refine ⟨fun e => hno (.inl (by rw [e]; rfl)), fun f hm => ?_, fun f hm => ?_⟩
  ·have := List.find?_eq_none.1 hf f hm;simpa using this
  ·apply Classical.byContradiction;intro hne;exact hno (.inr (List.any_eq_true.2 ⟨f, hm, decide_eq_true hne⟩))
theorem rO {α β : Type} {f : α → List β} {B : Nat} : ∀ {l : List α}, (∀ x ∈ l, (f x).length ≤ B) → (l.flatMap f).length ≤ l.length * B
 | [], _ => by simp
 | x :: l, h => by
  rw [List.flatMap_cons, List.length_append, List.length_cons, Nat.succ_mul];have h1 := h x List.mem_cons_self;have h2 := rO fun y hy => h y (List.mem_cons_of_mem _ hy);omega
theorem wW {α β : Type} {f : α → List β} {l : List α} {i : Nat} {x : α} (h : l[i]? = some x) : (l.take (i + 1)).flatMap f = (l.take i).flatMap f ++ f x := by
 rw [aT h, List.flatMap_append];simp
theorem tP {l k : List TR} (h : aJ l = aJ k) : fL l = fL k := by unfold fL; rw [h]
theorem sZ {ps : List PX} {g : PX} (h : ps[0]? = some g) : gL ps = g.v := by
 rcases ps with _ | ⟨f, l⟩
 ·cases h
 ·have : f = g := by simpa using h
  rw [← this]; rfl
theorem jc (L : Option Addr) (n c : Nat) (ps : List PX) (k : Nat) (w : World) (hT : gK w) (hL : Sl w L n 2 (aQ PX.cells ps)) (hn : n ≤ 100) (hf : ∀ g ∈ ps, g.at_ w) (hl : ∀ g ∈ ps, g.ja k) (hk : k ≤ 2999000) :
  Calls Tryz.prog 16 #[.slice L n c] w fun r w' => ∃ g : PX, dg (xa ps) (gL ps) (aJ (qm ps)) g ∧ r = .returned (.tuple #[.agg #[.int .i64 g.v, .slice g.A g.n g.c], .int .i64 (xa ps)]) ∧ Hp w [g.row] w' := by
 have hh := Hp.start w;have hln := hL.cI PX.len Dr;have hlk := fun w1 hT1 hb => nh L n c ps k w1 hT1 (hL.ext hb) Dq (fun g hg => (hf g hg).ext hb) hl;unfold xa;by_cases h0 : fA ps = 0
 ·rw [if_pos h0];rw [h0] at hlk;obtain ⟨hne, hev, hvv⟩ := rp h0;have hpos := List.length_pos_iff.2 hne;obtain ⟨g0, h00⟩ := aG (l := ps) (k := 0) hpos;rw [sZ h00];have hfl : (qm ps).length ≤ ps.length * 4096 := rO fun g hg => (dk (hev g hg)).2.1;obtain ⟨ad, rfl, hr⟩ := hL.at_ Dq;refine aj (N := 33) (l := [.slice (some ad) n c]) Tryz.func16 rfl rfl (by simp) ?_;refine sr ?_;refine cj hh ?_;intro b2 w2 hh;refine aI (aa (ah (sr (mL ?_))));refine bB hh (hlk _ (hT.hp hh) hh.below) rfl ?_;intro w9 hh;refine aI (aa (sr (mI ?_)));refine cz (aa (cF (ak (ai (sr (aL (aa (ah (sr (mL (a4 (mI (aa (ao ?_))))))))))))));replace hh := hh.eN 96 4;refine de [5, 7, 16, 17, 18, 19, 20, 21, 22, 23, 24] 5 16
   (fun a x w' => ∃ (i : Nat) (M : List TR) (A' : Option Addr) (c' : Nat), i ≤ n ∧ x = .int .i64 i ∧ a = .slice A' M.length c' ∧ MD (k + i) ((ps.take i).flatMap PX.ts) M ∧ Hp w [.row A' M.length c' 96 4 (aQ TR.cells M), .blk b2 24 [.int .i64 0, .slice none 0 0] (0, 0)] w')
   (fun _ x _ => n - (intOf x).toNat) ?_ ?_
  ·exact ⟨0, [], none, 0, Nat.zero_le _, rfl, rfl, MD.self List.Pairwise.nil (fun t ht => nomatch ht), hh⟩
  ·clear hh;rintro ρ' a_ x_ w' ⟨i, M, A', c', hi, rfl, rfl, hmd, hh⟩;have hfi : ((ps.take i).flatMap PX.ts).length ≤ i * 4096 := by
    have := rO (f := PX.ts) (B := 4096) (l := ps.take i) fun g hg => (dk (hev g (List.mem_of_mem_take hg))).2.1;rwa [List.length_take, Nat.min_eq_left Dq] at this
   have hML := hmd.len;by_cases hlt : i < n
   ·obtain ⟨g, hx⟩ := aG (l := ps) (k := i) Dq;have hmem := List.mem_of_getElem? hx;have hgl := hl g hmem;have hge := dk (hev g hmem);have hgc := hgl.cap;have hgn := hgl.n;refine sr ?_;refine a3 (aa (ah (cT (ak (ai (ah (ao (sr ?_))))))));refine aZ (k := i) aF.out aC.size rfl rfl Dq Dq Dr ?_;refine bZ (vs := [_, _]) aC.out rfl ((hr.ext hh.below).recAt PX.len hx) rfl Dr ?_;refine cj hh ?_;intro b7 w7 hh;refine bD hh 0 [_,_] ?_;intro ws hh;replace hh : Hp _ (.blk _ _ [_, _] _ :: _) _ := hh;refine aa (ar (mL (bG ?_)));refine bI hh 0 ?_;refine aK (lI A' M.length c' M g.A g.n g.c g.ts (k + i) _ (hT.hp hh) (hh.aD (i := 1) rfl) ((hf g hmem).ext hh.below) (hh.gC (i := 1) rfl) hgc Dq hgn Dq hmd.po hge.2.2.2.po hmd.ok (hgl.ok.mono Dq)) aq.out rfl Dr ?_;rintro e_ w23 ⟨L2, A2, c2, hm2, rfl, h3⟩;refine ⟨_, rfl, ?_⟩;replace hh := hh.join h3;simp only [List.cons_append, List.nil_append] at hh;refine aL (aE (aX (ai (ar ?_))));refine bO (mI (aE (ai ?_)));replace hh := hh.sub (List.Sublist.cons_cons _ (List.Sublist.cons _ (List.Sublist.cons _ (List.Sublist.cons_cons _ List.Sublist.slnil))));refine ⟨⟨i + 1, L2, A2, c2, Dq, rfl, rfl, ?_, hh⟩, by show n - (i + 1) < n - i; omega, ?_⟩
    ·rw [wW hx];exact hmd.xx (MD.self hge.2.2.2.po (hgl.ok.mono Dq : gx (k + i) g.ts)) hm2 Dq
    ·exact Du
   ·obtain rfl : i = n := Dq;rw [List.take_of_length_le Dq] at hmd hfi hML;have hgM : aJ M = aJ (qm ps) := gR hmd.co;have hgE := tP hgM;refine sr ?_;refine a3 (aa (ah (cF (aV (aA (aA (a8 (ai (sr (mL ?_))))))))));refine aZ (k := 0) aF.out aC.size rfl rfl Dq Dq Dr ?_;refine bS dJ.out rfl Dr ?_;refine bp aC.out rfl (dD hh.below ((hr.recAt PX.len h00) 0 _ rfl)) Dr ?_;refine mL ?_;refine aK (jH _ A' M.length c' M (k + i) _ hT hh rfl Dq Dq hmd.ok) aq.out rfl Dr ?_;rintro e_ w30 ⟨g, og, rfl, hh⟩;refine ⟨_, rfl, ?_⟩;refine da ?_;refine da ?_;refine bD hh 1 [_,_] ?_;intro ws hh;replace hh : Hp _ (_ :: .blk _ _ [_, _] _ :: _) _ := hh;refine aI (aa (al ?_));refine j0 (aN rfl (aO (vs := [_, _]) aC.out (hh.aw (i := 1) (n := 2) rfl rfl) rfl) (cf (cO rfl) a7)) ?_;rw [← hgE, ← hgM];exact ⟨g, og, rfl, hh.sub (List.Sublist.cons_cons _ (List.nil_sublist _))⟩
 ·rw [if_neg h0];generalize fA ps = e at *;refine aj (N := 33) (l := [.slice L n c]) Tryz.func16 rfl rfl (by simp) ?_;refine sr ?_;refine cj hh ?_;intro b2 w2 hh;refine aI (aa (ah (sr (mL ?_))));refine bB hh (hlk _ (hT.hp hh) hh.below) rfl ?_;intro w9 hh;refine aI (aa (sr (mI ?_)));refine cz (aa (cT (sr ?_)));refine eX [_,_] (mI ?_);refine bD hh 0 [_,_] ?_;intro ws hh;replace hh : Hp _ (.blk _ _ [_, _] _ :: _) _ := hh;refine aI (aa (al (aH ?_)));refine j0 (aN rfl (aO (vs := [_, _]) aC.out (hh.aw (i := 0) (n := 2) rfl rfl) rfl) (cf (cO rfl) a7)) ?_;exact ⟨PX.nil, dg.err h0, rfl, (hh.sub (List.nil_sublist _)).ju⟩
end Go.Proofs.YteeckcbbnegmcaaGreatDoor
/- The walk through poly.times. -/
namespace Go.Proofs.YteeckcbbnegmcaaGreatDoor
open Go.RowKit
theorem yG {p q : List TR} (h : 65536 < p.length * q.length) : eT p q = 3 := by unfold eT; rw [if_pos h]
theorem zf {p q : List TR} {e : Int} (h6 : ¬ 65536 < p.length * q.length) {a b : List Int} (h : nn p q = a ++ e :: b) (ha : ∀ x ∈ a, x = 0) (he : e ≠ 0) : eT p q = e := by
 unfold eT;rw [if_neg h6, h, List.find?_append, gj (List.any_eq_false.2 fun x hx => by simp [ha x hx]), List.find?_cons_of_pos (p := fun e : Int => decide (e ≠ 0)) (by simpa using he)]
 rfl
theorem tr {p q : List TR} (h6 : ¬ 65536 < p.length * q.length) (h : ∀ x ∈ nn p q, x = 0) : eT p q = fL (cd p q) := by
 unfold eT fL;rw [if_neg h6, gj (List.any_eq_false.2 fun x hx => by simp [h x hx])]
theorem rr (p q : PX) (k k2 : Nat) (w : World) (hT : gK w) (hp : p.at_ w) (hq : q.at_ w) (lp : p.ja k) (lq : q.ja k2) (hk : k + k2 ≤ 900000) :
  Calls Tryz.prog 80 #[.agg #[.int .i64 p.v, .slice p.A p.n p.c], .agg #[.int .i64 q.v, .slice q.A q.n q.c]] w fun r w' => ∃ g : PX, dg (eT p.ts q.ts) p.v (aJ (cd p.ts q.ts)) g ∧ r = .returned (.tuple #[.agg #[.int .i64 g.v, .slice g.A g.n g.c], .int .i64 (eT p.ts q.ts)]) ∧ Hp w [g.row] w' := by
 have hh := Hp.start w;obtain ⟨pv, pA, pn, pc, ps⟩ := p;obtain ⟨qv, qA, qn, qc, qs⟩ := q;have hpl : ps.length = pn := hp.ln;have hql : qs.length = qn := hq.ln;have hpn : pn ≤ 1000000 := lp.n;have hqn : qn ≤ 1000000 := lq.n;have okp : gx k ps := lp.ok;have okq : gx k2 qs := lq.ok;have szp : ∀ t ∈ ps, t.m.size ≤ 100000 := lp.sz;have szq : ∀ t ∈ qs, t.m.size ≤ 100000 := lq.sz;replace hp : Sl w pA pn 4 (aQ TR.cells ps) := hp;replace hq : Sl w qA qn 4 (aQ TR.cells qs) := hq;clear lp lq;show Calls _ _ _ _ fun r w' => ∃ g : PX, dg (eT ps qs) pv (aJ (cd ps qs)) g ∧ r = .returned (.tuple #[.agg #[.int .i64 g.v, .slice g.A g.n g.c], .int .i64 (eT ps qs)]) ∧ Hp w [g.row] w';have hmm : pn * qn ≤ 1000000 * 1000000 := Nat.mul_le_mul hpn hqn;obtain ⟨m, hm⟩ : ∃ m, m = pn * qn := ⟨_, rfl⟩;have hmi : (pn : Int) * (qn : Int) = (m : Int) := by rw [hm]; exact (Int.natCast_mul _ _).symm
 by_cases h6 : 65536 < m
 ·rw [yG (by rw [hpl, hql, ← hm]; exact h6)];refine aj (N := 67) (l := [.agg #[.int .i64 pv, .slice pA pn pc], .agg #[.int .i64 qv, .slice qA qn qc]]) Tryz.func80 rfl rfl (by simp) ?_;refine sr ?_;refine dp hh [_,_] ?_;intro b2 w2 hh;refine dp hh [_,_] ?_;intro b3 w3 hh;refine cj hh ?_;intro b4 w4 hh;refine aI (aa (ah (sr (bG ?_))));refine bI hh 2 ?_;refine a4 (bG ?_);refine bI hh 1 ?_;refine a4 ?_;refine mulC ?_;refine ct (aa (cT (sr ?_)));refine eX [_,_] ?_;refine bD hh 0 [_,_] ?_;intro ws hh;replace hh : Hp _ (.blk _ _ [_, _] _ :: _) _ := hh;refine aI (aa (al (aH ?_)));refine j0 (aN rfl (aO (vs := [_, _]) aC.out (hh.aw (i := 0) (n := 2) rfl rfl) rfl) (cf (cO rfl) a7)) ?_;exact ⟨PX.nil, dg.err Dr, rfl, (hh.sub (List.nil_sublist _)).ju⟩
 ·have hbig : ¬ 65536 < ps.length * qs.length := by rw [hpl, hql, ← hm]; exact h6
  refine aj (N := 67) (l := [.agg #[.int .i64 pv, .slice pA pn pc], .agg #[.int .i64 qv, .slice qA qn qc]]) Tryz.func80 rfl rfl (by simp) ?_;refine sr ?_;refine dp hh [_,_] ?_;intro b2 w2 hh;refine dp hh [_,_] ?_;intro b3 w3 hh;refine cj hh ?_;intro b4 w4 hh;refine aI (aa (ah (sr (bG ?_))));refine bI hh 2 ?_;refine a4 (bG ?_);refine bI hh 1 ?_;refine a4 ?_;refine mulC ?_;refine ct (aa (cF (ak (ai (sr (aL (aa (ah (sr (bG ?_))))))))));refine bI hh 2 ?_;refine a4 (mI (aa (ao ?_)));replace hh := hh.eN 96 4;have hall : ∀ i, ((ps.take i).flatMap fun x => qs.map (pC x)).length ≤ 65536 := fun i => by
   have h1 : (cd ps qs).length = ((ps.take i).flatMap fun x => qs.map (pC x)).length + ((ps.drop i).flatMap fun x => qs.map (pC x)).length := by
    unfold cd;rw [← List.length_append, ← List.flatMap_append, List.take_append_drop]
   rw [iX] at h1;omega
  refine de [5, 6, 8, 10, 11, 12, 25, 26, 27, 28, 29, 30, 31, 32, 33, 34, 35, 36, 37, 38, 39, 40, 41, 42, 43, 44, 45, 46, 47, 48, 49, 50, 51, 52, 53, 54, 55, 56, 57, 58, 59, 60] 6 25
   (fun a x w' => ∃ (i : Nat) (M : List TR) (A' : Option Addr) (c' : Nat), i ≤ pn ∧ x = .int .i64 i ∧ a = .slice A' M.length c' ∧ M = ((ps.take i).flatMap fun x => qs.map (pC x)) ∧ (∀ e ∈ ((ps.take i).flatMap fun x => qs.map fun y => iD x.m y.m), e = 0) ∧ Hp w [.row A' M.length c' 96 4 (aQ TR.cells M), .blk b4 24 [.int .i64 0, .slice none 0 0] (0, 0), .blk b3 24 [.int .i64 qv, .slice qA qn qc] (0, 0), .blk b2 24 [.int .i64 pv, .slice pA pn pc] (0, 0)] w')
   (fun _ x _ => pn - (intOf x).toNat) ?_ ?_
  ·exact ⟨0, [], none, 0, Nat.zero_le _, rfl, rfl, rfl, fun e he => (nomatch he), hh⟩
  ·clear hh;rintro ρ' a_ x_ w' ⟨i, M, A', c', hi, rfl, rfl, hM, hz, hh⟩;have hMl := hall i;rw [← hM] at hMl;by_cases hlt : i < pn
   ·obtain ⟨x, hx⟩ := aG (l := ps) (k := i) Dq;obtain ⟨ad, rfl, hr⟩ := hp.at_ Dq;have hxm := List.mem_of_getElem? hx;have hxo := okp x hxm;have hxs := szp x hxm;refine sr ?_;refine a3 (aa (ah (cT (ak (ai (ah (ao (sr ?_))))))));refine aZ (k := i) aF.out aC.size rfl rfl Dq Dq Dr ?_;refine bZ (vs := [_, _, _, _]) aC.out rfl ((hr.ext hh.below).recAt TR.len hx) rfl Dr ?_;refine cj hh ?_;intro b8 w8 hh;refine bD hh 0 [_,_,_,_] ?_;intro ws hh;replace hh : Hp _ (.blk _ _ [_, _, _, _] _ :: _) _ := hh;refine aa (sr (bG ?_));refine bI hh 3 ?_;refine a4 (mI (aa (ao ?_)));replace hh := hh.perm (List.perm_middle (l₁ := [_]));simp only [List.cons_append, List.nil_append] at hh;refine de [5, 6, 10, 11, 12, 32, 33, 34, 35, 36, 37, 38, 39, 40, 41, 42, 43, 44, 45, 46, 47, 48, 49, 50, 51, 52, 53, 54, 55, 56, 57, 58, 59] 6 32
     (fun a z w' => ∃ (j : Nat) (N : List TR) (A' : Option Addr) (c' : Nat), j ≤ qn ∧ z = .int .i64 j ∧ a = .slice A' N.length c' ∧ N = M ++ (qs.take j).map (pC x) ∧ (∀ e ∈ (qs.take j).map (fun y => iD x.m y.m), e = 0) ∧ Hp w [.row A' N.length c' 96 4 (aQ TR.cells N), .blk b8 96 [.string x.m, .bool x.c.neg, .string x.c.bM, .int .i64 x.c.e] (0, 0), .blk b4 24 [.int .i64 0, .slice none 0 0] (0, 0), .blk b3 24 [.int .i64 qv, .slice qA qn qc] (0, 0), .blk b2 24 [.int .i64 pv, .slice (some ad) pn pc] (0, 0)] w')
     (fun _ z _ => qn - (intOf z).toNat) ?_ ?_
    ·refine ⟨0, M, A', c', Nat.zero_le _, rfl, rfl, by simp, fun e he => (nomatch he), hh⟩
    ·clear hh;rintro ρ2 a2 x2 w2 ⟨j, N, A2, c2, hj, rfl, rfl, hN, hz2, hh⟩;by_cases hjn : j < qn
     ·obtain ⟨y, hy⟩ := aG (l := qs) (k := j) Dq;obtain ⟨ad2, rfl, hr2⟩ := hq.at_ Dq;have hym := List.mem_of_getElem? hy;have hyo := okq y hym;have hys := szq y hym;have hmul : ∀ w1, Calls Tryz.prog 165 #[.string x.m, .string y.m] w1 fun r w' => r = .returned (.tuple #[.string (mulM x.m y.m), .int .i64 (iD x.m y.m)]) ∧ Below w1.heap.size w1 w' := fun w1 => xb x.m y.m w1 hxs hys;have hdm := fun A cc w1 hT1 hS1 => gh A 2 cc [x.c, y.c] w1 hT1 hS1 (by simpa using ⟨hxo.1, hyo.1⟩) (k + k2) (by simpa using ⟨hxo.2.mono Dq, hyo.2.mono Dq⟩) Dq Dr;rw [show gM ([x.c, y.c].map NR.d) = x.c.d * y.c.d by show 1 * x.c.d * y.c.d = _; rw [Dyadic.one_mul]] at hdm;obtain ⟨R, hR⟩ := tV (f := fun x y => iD x.m y.m) hx hy;have hzz : ∀ e ∈ ((ps.take i).flatMap fun x => qs.map fun y => iD x.m y.m) ++ (qs.take j).map (fun y => iD x.m y.m), e = 0 := fun e he => by
       rcases List.mem_append.1 he with he | he
       ·exact hz e he
       ·exact hz2 e he
      have hNl : N.length < 65536 := by
       have h1 := hall (i + 1);rw [mR hx, List.length_append, ← hM] at h1;rw [hN, List.length_append];simp at h1 ⊢;omega
      by_cases he : iD x.m y.m = 0
      ·refine sr ?_;refine a3 (aa (ah (cT (ak (ai (ah (ao (sr ?_))))))));refine aZ (k := j) aF.out aC.size rfl rfl Dq Dq Dr ?_;refine bZ (vs := [_, _, _, _]) aC.out rfl ((hr2.ext hh.below).recAt TR.len hy) rfl Dr ?_;refine cj hh ?_;intro b10 w10 hh;refine bD hh 0 [_,_,_,_] ?_;intro ws hh;replace hh : Hp _ (.blk _ _ [_, _, _, _] _ :: _) _ := hh;refine aa (sr (bG ?_));refine bI hh 2 ?_;refine bG ?_;refine bI hh 0 ?_;refine bB hh (hmul _) rfl ?_;intro w41 hh;refine mT ?_;refine da ?_;refine da ?_;refine aS (aI (aa (ah (sr (mI ?_)))));refine cz (aa (cF (ak (ai (ar (mL (mS (bG ?_))))))));refine cU hh 2 [_,_,_] (bG ?_);refine cU hh 0 [_,_,_] ?_;refine bf hh (cs := [_, _, _, _, _, _]) aF.out aC.out (aY (cK rfl) (aY (cK rfl) bQ)) rfl rfl Dr Dr Dr rfl Dr ?_;intro b54 w54 hh;refine bB hh (hdm _ _ _ (hT.hp hh) (hh.aD (i := 0) rfl)) rfl ?_;intro w55 hh;refine eX [_,_,_,_] ?_;refine bf hh (cs := [_, _, _, _]) aF.out aC.out (aY (cK rfl) bQ) rfl rfl Dr Dr Dr rfl Dr ?_;intro b57 w57 hh;refine ck hh (i := 3) rfl rfl rfl (hh.aD (i := 0) rfl) aF.out aC.out rfl Dr (by first | rfl | exact cw _ | exact bU _ | exact oneCells_i64s _ | exact bL NR.one _) Dq Dq Dr ?_;intro A58 c58 w58 hh
       simp only [List.set_cons_zero, List.set_cons_succ] at hh;replace hh := hh.sub (List.sublist_cons_self _ _);refine aL (aE (aX (ai (ar ?_))));refine bO (mI (aE (ai ?_)));have e1 : aQ TR.cells N ++ [.string (mulM x.m y.m), .bool (nR (x.c.d * y.c.d)).neg, .string (nR (x.c.d * y.c.d)).bM, .int .i64 (nR (x.c.d * y.c.d)).e] = aQ TR.cells (N ++ [pC x y]) := by rw [cn, iU]; rfl
       replace hh := show Hp w (_ :: _ :: .row A58 (N.length + 1) c58 96 4 (aQ TR.cells N ++ [.string (mulM x.m y.m), .bool (nR (x.c.d * y.c.d)).neg, .string (nR (x.c.d * y.c.d)).bM, .int .i64 (nR (x.c.d * y.c.d)).e]) :: _) w58 from hh;rw [e1] at hh;replace hh := hh.sub (List.Sublist.cons _ (List.Sublist.cons _ (List.Sublist.cons_cons _ (List.Sublist.cons_cons _ (List.Sublist.cons_cons _ (List.Sublist.cons_cons _ (List.Sublist.cons_cons _ List.Sublist.slnil)))))));refine ⟨⟨j + 1, N ++ [pC x y], _, _, Dq, rfl, by rw [List.length_append]; rfl, by rw [hN, aT hy, List.map_append, List.append_assoc]; rfl, fun e h => ?_, ?_⟩, by show qn - (j + 1) < qn - j; omega, ?_⟩
       ·rw [aT hy, List.map_append, List.mem_append] at h
        rcases h with h | h
        ·exact hz2 e h
        ·rw [List.mem_singleton.1 h]; exact he
       ·rw [List.length_append]; exact hh
       ·exact Du
      ·rw [zf hbig hR hzz he];generalize iD x.m y.m = e at *;refine sr ?_;refine a3 (aa (ah (cT (ak (ai (ah (ao (sr ?_))))))));refine aZ (k := j) aF.out aC.size rfl rfl Dq Dq Dr ?_;refine bZ (vs := [_, _, _, _]) aC.out rfl ((hr2.ext hh.below).recAt TR.len hy) rfl Dr ?_;refine cj hh ?_;intro b10 w10 hh;refine bD hh 0 [_,_,_,_] ?_;intro ws hh;replace hh : Hp _ (.blk _ _ [_, _, _, _] _ :: _) _ := hh;refine aa (sr (bG ?_));refine bI hh 2 ?_;refine bG ?_;refine bI hh 0 ?_;refine bB hh (hmul _) rfl ?_;intro w41 hh;refine mT ?_;refine da ?_;refine da ?_;refine aS (aI (aa (ah (sr (mI ?_)))));refine cz (aa (cT (sr ?_)));refine eX [_,_] (mI ?_);refine bD hh 3 [_,_] ?_;intro ws hh;replace hh : Hp _ (_ :: _ :: _ :: .blk _ _ [_, _] _ :: _) _ := hh;refine aI (aa (al (aH (bT (aH (aH (bT (bT (aH (aH (bT (aH ?_))))))))))));refine j0 (aN rfl (aO (vs := [_, _]) aC.out (hh.aw (i := 3) (n := 2) rfl rfl) rfl) (cf (cO rfl) a7)) ?_;exact ⟨PX.nil, dg.err he, rfl, (hh.sub (List.nil_sublist _)).ju⟩
     ·obtain rfl : j = qn := Dq;rw [List.take_of_length_le Dq] at hz2 hN;refine sr ?_;refine a3 (aa (ah (cF (aV (aA (aA (a8 (aX (ai (ar ?_))))))))));refine bO (mI (aE (ai ?_)));replace hh := hh.sub (List.Sublist.cons_cons _ (List.Sublist.cons _ (List.Sublist.cons_cons _ (List.Sublist.cons_cons _ (List.Sublist.cons_cons _ List.Sublist.slnil)))));refine ⟨⟨i + 1, N, A2, c2, Dq, rfl, rfl, by rw [mR hx, ← hM, List.take_of_length_le Dq]; exact hN, fun e h => ?_, hh⟩, by show pn - (i + 1) < pn - i; omega, ?_⟩
      ·rw [mR (f := fun (x y : TR) => iD x.m y.m) hx, List.mem_append, List.take_length] at h
       rcases h with h | h
       ·exact hz e h
       ·exact hz2 e h
      ·exact Du
   ·obtain rfl : i = pn := Dq;rw [List.take_of_length_le Dq] at hz hM;have hMp : M = cd ps qs := hM;rw [tr hbig hz, ← hMp];have hpo := l7 okp okq Dq;rw [← hMp] at hpo;refine sr ?_;refine a3 (aa (ah (cF (aV (aA (aA (a8 (ai (sr (bG ?_))))))))));refine bI hh 3 ?_;refine mL ?_;refine aK (jH pv A' M.length c' M (k + k2) _ hT hh rfl Dq Dq hpo) aq.out rfl Dr ?_;rintro e_ w64 ⟨g, og, rfl, hh⟩;refine ⟨_, rfl, ?_⟩;refine da ?_;refine da ?_;refine bD hh 1 [_,_] ?_;intro ws hh;replace hh : Hp _ (_ :: .blk _ _ [_, _] _ :: _) _ := hh;refine aI (aa (al ?_));refine j0 (aN rfl (aO (vs := [_, _]) aC.out (hh.aw (i := 1) (n := 2) rfl rfl) rfl) (cf (cO rfl) a7)) ?_;exact ⟨g, og, rfl, hh.sub (List.Sublist.cons_cons _ (List.nil_sublist _))⟩
end Go.Proofs.YteeckcbbnegmcaaGreatDoor
/- The walk through poly.Mul. -/
namespace Go.Proofs.YteeckcbbnegmcaaGreatDoor
open Go.RowKit
def ij (base : Nat) (E v : Int) (ts : List TR) : VP := fun x W => ∃ (g : PX) (w1 : World), x = .agg #[.int .i64 g.v, .slice g.A g.n g.c] ∧ dg E v ts g ∧ base ≤ w1.heap.size ∧ Hp w1 [g.row] W
theorem ij.ext {base : Nat} {E v : Int} {ts : List TR} (x : Value) (w w' : World) (h : ij base E v ts x w) (hb : Below w.heap.size w w') : ij base E v ts x w' := let ⟨g, w1, h1, h2, h3, h4⟩ := h; ⟨g, w1, h1, h2, h3, h4.ext hb⟩
def hO (base : Nat) (E v : Int) (ts : List TR) : VP := fun x W => ∃ (g : PX) (w1 : World), x = .tuple #[.agg #[.int .i64 g.v, .slice g.A g.n g.c], .int .i64 E] ∧ dg E v ts g ∧ base ≤ w1.heap.size ∧ Hp w1 [g.row] W
theorem hO.ext {base : Nat} {E v : Int} {ts : List TR} (x : Value) (w w' : World) (h : hO base E v ts x w) (hb : Below w.heap.size w w') : hO base E v ts x w' := let ⟨g, w1, h1, h2, h3, h4⟩ := h; ⟨g, w1, h1, h2, h3, h4.ext hb⟩
def sK (base : Nat) (v : Int) (ts : List TR) : VP := fun x W => ∃ (g : PX) (w1 : World), x = .slice g.A g.n g.c ∧ dg 0 v ts g ∧ base ≤ w1.heap.size ∧ Hp w1 [g.row] W
theorem sK.ext {base : Nat} {v : Int} {ts : List TR} (x : Value) (w w' : World) (h : sK base v ts x w) (hb : Below w.heap.size w w') : sK base v ts x w' := let ⟨g, w1, h1, h2, h3, h4⟩ := h; ⟨g, w1, h1, h2, h3, h4.ext hb⟩
theorem PX.ne {g : PX} {w1 W : World} {b : Nat} {t : TypeId} {cs : Array Value} {fz : Nat × Nat} (h : Hp w1 [g.row] W) (h3 : W.heap[b]? = some (.cells cs t fz)) (h1 : 96 ≠ t) : ∀ x ∈ [g.row], x.id ≠ some b := fun x hx => by
 have hx2 := h.own x hx;obtain rfl := List.mem_singleton.1 hx;exact BM hx2 h3 h1
def gF (a : List TR × Int) (g : PX) : List TR × Int := if a.2 = 0 then (aJ (cd a.1 g.ts), eT a.1 g.ts) else a
def zO (ps : List PX) : List TR × Int := match ps with | [] => ([], 0) | g :: l => l.foldl gF (g.ts, 0)
def lZ (ps : List PX) : Int := if fA ps = 0 then (zO ps).2 else fA ps
theorem sL {a : List TR × Int} (h : a.2 ≠ 0) : ∀ l : List PX, l.foldl gF a = a
 | [] => rfl
 | g :: l => by
  rw [List.foldl_cons, show gF a g = a by unfold gF; rw [if_neg h]];exact sL h l
theorem wR {l : List PX} {a : List TR × Int} {i : Nat} {g : PX} (hx : l[i]? = some g) (h0 : ((l.take i).foldl gF a).2 = 0) (h : eT ((l.take i).foldl gF a).1 g.ts ≠ 0) : (l.foldl gF a).2 = eT ((l.take i).foldl gF a).1 g.ts := by
 have e : l = l.take i ++ g :: l.drop (i + 1) := by rw [← kd hx, List.take_append_drop]
 have e2 : l.foldl gF a = (l.drop (i + 1)).foldl gF (gF ((l.take i).foldl gF a) g) := by
  conv => lhs; rw [e]
  rw [List.foldl_append, List.foldl_cons]
 rw [e2];have e3 : gF ((l.take i).foldl gF a) g = (aJ (cd ((l.take i).foldl gF a).1 g.ts), eT ((l.take i).foldl gF a).1 g.ts) := if_pos h0;rw [e3, sL h]
theorem wG {l : List PX} {a : List TR × Int} {i : Nat} {g : PX} (hx : l[i]? = some g) (h0 : ((l.take i).foldl gF a).2 = 0) : (l.take (i + 1)).foldl gF a = (aJ (cd ((l.take i).foldl gF a).1 g.ts), eT ((l.take i).foldl gF a).1 g.ts) := by
 rw [aT hx, List.foldl_append, List.foldl_cons, List.foldl_nil];exact if_pos h0
theorem vF {p q : List TR} {k j : Nat} (hp : gx k p) (hq : gx j q) (sq : ∀ t ∈ q, t.m.size ≤ 100000) (h : eT p q = 0) (hk : k + j ≤ 900000) : gx (k + j + 65536) (aJ (cd p q)) ∧ ∀ t ∈ aJ (cd p q), t.m.size ≤ 100000 := by
 obtain ⟨h6, _, h4⟩ := kW h;have ho := l7 hp hq Dq;have hz := jZ fun t ht => (ho t ht).2;rw [iX] at hz;refine ⟨fun t ht => ?_, fun t ht => ?_⟩
 ·have : Sz (k + j + 65536) t.c.d := (hz t ht).mono Dq;refine ⟨?_, this⟩;rw [(eC _).nf t ht];exact this.ok Dq
 ·obtain ⟨s, hs, e⟩ := hZ t ht;obtain ⟨x, hx, hs⟩ := List.mem_flatMap.1 hs;obtain ⟨y, hy, rfl⟩ := List.mem_map.1 hs;rw [← e];exact Nat.le_trans (wZ _ _) (sq y hy)
theorem ns (L : Option Addr) (n c : Nat) (ps : List PX) (k s : Nat) (w : World) (hT : gK w) (hL : Sl w L n 2 (aQ PX.cells ps)) (hcn : n ≤ c) (hn : n ≤ 8) (hf : ∀ g ∈ ps, g.at_ w) (hl : ∀ g ∈ ps, g.ja k) (hs : k + 65536 ≤ s) (hk : k + k + (n - 2) * s ≤ 900000) :
  Calls Tryz.prog 17 #[.slice L n c] w fun r w' => ∃ g : PX, dg (lZ ps) (gL ps) (zO ps).1 g ∧ r = .returned (.tuple #[.agg #[.int .i64 g.v, .slice g.A g.n g.c], .int .i64 (lZ ps)]) ∧ Hp w [g.row] w' := by
 have hh := Hp.start w;have hln := hL.cI PX.len Dr;have hlk := fun w1 hT1 hb => nh L n c ps k w1 hT1 (hL.ext hb) Dq (fun g hg => (hf g hg).ext hb) hl;unfold lZ;by_cases h0 : fA ps = 0
 ·rw [if_pos h0];rw [h0] at hlk;obtain ⟨hne, hev, hvv⟩ := rp h0;obtain ⟨g0, pt, rfl⟩ := List.exists_cons_of_ne_nil hne;rw [sZ (g := g0) rfl];have hnp : pt.length + 1 = n := hln;obtain ⟨ad, rfl, hr⟩ := hL.at_ Dq;have hm0 : g0 ∈ g0 :: pt := List.mem_cons_self;have hg0 := hl g0 hm0;have h00 : (g0 :: pt)[0]? = some g0 := rfl;show Calls _ _ _ _ fun r w' => ∃ g : PX, dg (pt.foldl gF (g0.ts, 0)).2 g0.v (pt.foldl gF (g0.ts, 0)).1 g ∧ r = .returned (.tuple #[.agg #[.int .i64 g.v, .slice g.A g.n g.c], .int .i64 (pt.foldl gF (g0.ts, 0)).2]) ∧ Hp w [g.row] w';refine aj (N := 46) (l := [.slice (some ad) n c]) Tryz.func17 rfl rfl (by simp) ?_;refine sr ?_;refine cj hh ?_;intro b2 w2 hh;refine aI (aa (ah (sr (mL ?_))));refine bB hh (hlk _ (hT.hp hh) hh.below) rfl ?_;intro w11 hh;refine aI (aa (sr (mI ?_)));refine cz (aa (cF (ak (ai (ah ?_)))));refine bg 11 [[(0, none)], [(16, some 0)], [(17, some 1)], [(18, some 2)], [(0, none)], [(20, some 4)], [(21, some 5)], [(22, some 6)], [(23, some 7)], [(19, some 3), (24, some 8)], []] [(10, 5), (9, 25), (8, 24), (7, 23), (6, 22), (5, 21), (4, 20), (3, 19), (2, 18), (1, 17), (0, 16)] hh mixed Dt ?_;refine jv ?_;refine mf (0) ?_;refine sX ?_
  refine kP (fun _ hj => dD hj.hp.below ((hr.recAt PX.len h00) 0 _ rfl)) ?_;refine jv ?_;refine mf (0) ?_;refine sX ?_;refine kP (fun _ hj => dD hj.hp.below ((hr.recAt PX.len h00) 1 _ rfl)) ?_;refine bj (i := 8) (sK w11.heap.size g0.v g0.ts) (sK.ext) ?_ ?_
  ·intro ρ1 w1 hj hR;exact bJ rfl (aW aq.out (ay (show ρ1 23 = Value.slice _ _ _ from hR.1) a0)) (lC g0.A g0.n g0.c g0.ts w1 ((hf g0 hm0).ext hj.hp.below) hg0.n) (fun _ _ ⟨A, c, hq, ho, hb⟩ => ⟨_, hq, hb, ⟨g0.v, A, g0.n, c, g0.ts⟩, w1, rfl, ⟨rfl, rfl⟩, hj.bl.size, (Hp.start w1).a9 (x := .row _ _ _ _ _ _) hb ho⟩)
  refine bj (i := 9) (ij w11.heap.size 0 g0.v g0.ts) (ij.ext) ?_ ?_
  ·intro ρ1 w1 hj hR;exact let ⟨g, u, e, o, q, h⟩ := hR.2.1; bW rfl (rq (cs := [_, _]) aC.out iY.out (aY (show ρ1 19 = Value.int _ _ from hR.1) (aY e bQ)) rfl) ⟨Below.refl _ _, g, u, by rw [show g.v = g0.v from o.v], o, q, h⟩
  refine bj (i := 10) (cL _ 24 _) cL.ext (fun ρ1 w1 hj hR => fV aC.out hj.bl (fun v w2 h hb => ⟨hb, h⟩)) ?_;refine bq ?_;intro f W hJ hV;have hb_4 := hJ.bl;obtain ⟨v5, v25, v24, v23, v22, v21, v20, v19, v18, v17, v16, _⟩ := hV;obtain ⟨g24, u24, e24, -⟩ := v24;obtain ⟨g25, u25, e25, o25, q25, h25⟩ := v25;obtain ⟨b5, e5, hl5, hc5⟩ : cL _ _ _ (f 10) W := v5;replace hh := hJ.mc hh hl5 hc5 q25 h25 (PX.ne h25 hc5 Dr);refine a6 (bk (ae e5 (ae e25 (ae e24 (ae v23 (ae v22 (ae v21 (ae v20 (ae v19 (ae v18 (ae v17 (ae v16 a5)))))))))))) ?_;dsimp only [cJ];clear e24 e25 e5 hJ;simp only [List.cons_append, List.nil_append] at hh;obtain ⟨gv, gA, gn, gc, gts⟩ := g25;obtain rfl : g0.v = gv := o25.v.symm;obtain rfl : g0.ts = gts := o25.ts.symm;replace hh := show Hp w (_ :: .row gA gn gc 96 4 (aQ TR.cells g0.ts) :: _) W from hh;have hgn : g0.ts.length = gn := (hh.aD (i := 1) rfl).cI TR.len Dr;have hgc : gn ≤ gc := hh.gC (i := 1) rfl;refine bD hh 0 [_,_] ?_;intro ws hh;replace hh : Hp _ (.blk _ _ [_, _] _ :: _) _ := hh;refine aa (ah (sr (mL ?_)));refine aU rfl rfl Dr (iZ aF.out aC.size rfl rfl (l := 1) rfl Dq Dq) ?_;refine a4 (mI (aa (ao ?_)));replace hh := hh.perm (List.perm_middle (l₁ := [_]))
  simp only [List.cons_append, List.nil_append] at hh;refine bF [3, 7, 8, 9, 29, 30, 31, 32, 33, 34, 35, 36, 37, 38, 39, 40, 41, 42, 43, 44] 29
   (fun v w' => ∃ (i : Nat) (g : PX), i ≤ n - 1 ∧ v = .int .i64 i ∧ ((pt.take i).foldl gF (g0.ts, 0)).2 = 0 ∧ g.v = g0.v ∧ g.ts = ((pt.take i).foldl gF (g0.ts, 0)).1 ∧ g.ja (k + i * s) ∧ Hp w [.row g.A g.n g.c 96 4 (aQ TR.cells g.ts), .blk b5 24 [.int .i64 g.v, .slice g.A g.n g.c] (0, 0), .blk b2 24 [.int .i64 0, .slice none 0 0] (0, 0)] w')
   (fun v _ => n - 1 - (intOf v).toNat) ?_ ?_
  ·exact ⟨0, ⟨g0.v, gA, gn, gc, g0.ts⟩, Nat.zero_le _, rfl, rfl, rfl, rfl, ⟨by show gn ≤ 1000000; have := hg0.n; have h9 := (hf g0 hm0).ln; omega, hgc, hg0.ok.mono (by rw [Nat.zero_mul]; omega), hg0.sz⟩, hh⟩
  ·clear hh;rintro ρ' v w' ⟨i, g, hi, rfl, hz, hgv, hts, hgl, hh⟩;by_cases hlt : i < n - 1
   ·obtain ⟨f, hx⟩ := aG (l := pt) (k := i) Dq;have hmem : f ∈ g0 :: pt := List.mem_cons_of_mem _ (List.mem_of_getElem? hx);have his : i * s ≤ (n - 2) * s := Nat.mul_le_mul_right _ Dq;have his1 := Nat.succ_mul i s;have hbk : Sl w (if c = 1 then some ad else (some ad : Option Addr).map (·.add (1 * 2))) (n - 1) 2 (aQ PX.cells pt) := hL.back Dq hcn;obtain ⟨ab, hAb, sb⟩ := hbk.at_ Dq;have hev : Value.slice (if c = 1 then some ad else (some ad : Option Addr).map (·.add (1 * 2))) (n - 1) (c - 1) = .slice (some ab) (n - 1) (c - 1) := by rw [hAb]
    have hfl := hl f hmem;have hnx := wG (a := (g0.ts, 0)) hx hz;have hsp := wR (a := (g0.ts, 0)) hx hz;rw [← hts] at hnx hsp;refine sr ?_;refine a3 (aa (ah (cT (ak (ai (ah (ao (sr ?_))))))));refine aZ (k := i) aF.out aC.size hev rfl Dq Dq Dr ?_;refine bZ (vs := [_, _]) aC.out rfl (show Rd _ _ [.int .i64 f.v, .slice f.A f.n f.c] from (sb.ext hh.below).recAt PX.len hx) rfl Dr ?_;refine cj hh ?_;intro b7 w7 hh;refine bD hh 0 [_,_] ?_;intro ws hh;replace hh : Hp _ (.blk _ _ [_, _] _ :: _) _ := hh;refine aa (sr ?_);refine cU hh 2 [_,_] ?_;refine cU hh 0 [_,_] ?_;refine aK (rr g f (k + i * s) k _ (hT.hp hh) (hh.aD (i := 1) rfl) ((hf f hmem).ext hh.below) hgl hfl Dq) aq.out rfl Dr ?_;rintro e_ w36 ⟨h, oh, rfl, h3⟩;refine ⟨_, rfl, ?_⟩;replace hh := hh.join h3;simp only [List.cons_append, List.nil_append] at hh;by_cases he : eT g.ts f.ts = 0
    ·obtain ⟨hv, hA, hn2, hc2, hts2⟩ := h;rw [he] at oh;obtain rfl : g.v = hv := oh.v.symm;obtain rfl : aJ (cd g.ts f.ts) = hts2 := oh.ts.symm;replace hh := show Hp w (.row hA hn2 hc2 96 4 (aQ TR.cells (aJ (cd g.ts f.ts))) :: _) w36 from hh;have hhn : (aJ (cd g.ts f.ts)).length = hn2 := (hh.aD (i := 0) rfl).cI TR.len Dr;have hhc : hn2 ≤ hc2 := hh.gC (i := 0) rfl;have h4 := (kW he).2.2;have htl := vF hgl.ok hfl.ok hfl.sz he Dq;refine mT ?_;refine da ?_;refine da ?_;refine cj hh ?_;intro b8 w8 hh;refine bD hh 0 [_,_] ?_;intro ws hh;replace hh : Hp _ (.blk _ _ [_, _] _ :: _) _ := hh;refine aI (aa (ah (sr (mI ?_))));refine cz (aa (cF (ak (ai (ar ?_)))));refine cU hh 0 [_,_] ?_;refine bD hh 4 [_,_] ?_;intro ws hh;replace hh : Hp _ (_ :: _ :: _ :: _ :: .blk _ _ [_, _] _ :: _) _ := hh;refine aE (aX (ai (ar ?_)));refine bO (mI (aE (ai ?_)));replace hh := hh.sub (List.Sublist.cons _ (List.Sublist.cons_cons _ (List.Sublist.cons _ (List.Sublist.cons _ (List.Sublist.cons_cons _ (List.Sublist.cons_cons _ List.Sublist.slnil))))))
     refine ⟨⟨i + 1, ⟨g.v, hA, hn2, hc2, aJ (cd g.ts f.ts)⟩, Dq, rfl, by rw [hnx]; exact he, hgv, by rw [hnx], ⟨by show hn2 ≤ 1000000; omega, hhc, htl.1.mono (by rw [Nat.succ_mul]; omega), htl.2⟩, hh⟩, by show n - 1 - (i + 1) < n - 1 - i; omega, ?_⟩;exact Du
    ·rw [hsp he];refine mT ?_;refine da ?_;refine da ?_;refine cj hh ?_;intro b8 w8 hh;refine bD hh 0 [_,_] ?_;intro ws hh;replace hh : Hp _ (.blk _ _ [_, _] _ :: _) _ := hh;refine aI (aa (ah (sr (mI ?_))));refine cz (aa (cT (sr ?_)));refine eX [_,_] (mI ?_);refine bD hh 5 [_,_] ?_;intro ws hh;replace hh : Hp _ (_ :: _ :: _ :: _ :: _ :: .blk _ _ [_, _] _ :: _) _ := hh;refine aI (aa (al (aH (bT (aH (aH (bT (aH ?_))))))));refine j0 (aN rfl (aO (vs := [_, _]) aC.out (hh.aw (i := 5) (n := 2) rfl rfl) rfl) (cf (cO rfl) a7)) ?_;exact ⟨PX.nil, dg.err he, rfl, (hh.sub (List.nil_sublist _)).ju⟩
   ·obtain rfl : i = n - 1 := Dq;rw [List.take_of_length_le Dq] at hz hts;refine sr ?_;refine a3 (aa (ah (cF (aV (aA (aA (a8 (ai (sr ?_)))))))));refine cU hh 1 [_,_] ?_;refine bD hh 2 [_,_] ?_;intro ws hh;replace hh : Hp _ (_ :: _ :: .blk _ _ [_, _] _ :: _) _ := hh;refine aI (aa (al ?_));refine j0 (aN rfl (aO (vs := [_, _]) aC.out (hh.aw (i := 2) (n := 2) rfl rfl) rfl) (cf (cO rfl) a7)) ?_;rw [hz];exact ⟨g, ⟨hgv, hts⟩, rfl, hh.sub (List.Sublist.cons_cons _ (List.nil_sublist _))⟩
 ·rw [if_neg h0];generalize fA ps = e at *;refine aj (N := 46) (l := [.slice L n c]) Tryz.func17 rfl rfl (by simp) ?_;refine sr ?_;refine cj hh ?_;intro b2 w2 hh;refine aI (aa (ah (sr (mL ?_))));refine bB hh (hlk _ (hT.hp hh) hh.below) rfl ?_;intro w11 hh;refine aI (aa (sr (mI ?_)));refine cz (aa (cT (sr ?_)));refine eX [_,_] (mI ?_);refine bD hh 0 [_,_] ?_;intro ws hh;replace hh : Hp _ (.blk _ _ [_, _] _ :: _) _ := hh;refine aI (aa (al (aH ?_)));refine j0 (aN rfl (aO (vs := [_, _]) aC.out (hh.aw (i := 0) (n := 2) rfl rfl) rfl) (cf (cO rfl) a7)) ?_;exact ⟨PX.nil, dg.err h0, rfl, (hh.sub (List.nil_sublist _)).ju⟩
theorem kI (L : Option Addr) (n c : Nat) (ps : List PX) (k : Nat) (w : World) (hT : gK w) (hL : Sl w L n 2 (aQ PX.cells ps)) (hcn : n ≤ c) (hn : n ≤ 8) (hf : ∀ g ∈ ps, g.at_ w) (hl : ∀ g ∈ ps, g.ja k) (hk : k ≤ 2000) :
  Calls Tryz.prog 17 #[.slice L n c] w fun r w' => ∃ g : PX, dg (lZ ps) (gL ps) (zO ps).1 g ∧ r = .returned (.tuple #[.agg #[.int .i64 g.v, .slice g.A g.n g.c], .int .i64 (lZ ps)]) ∧ Hp w [g.row] w' :=
 ns L n c ps k 67536 w hT hL hcn hn hf hl Dq (by have := Nat.mul_le_mul_right 67536 (show n - 2 ≤ 6 by omega); omega)
end Go.Proofs.YteeckcbbnegmcaaGreatDoor
/- The walks through the document's answer's products of powers. -/
namespace Go.Proofs.YteeckcbbnegmcaaGreatDoor
open Go.RowKit
end Go.Proofs.YteeckcbbnegmcaaGreatDoor
/- The walk through ogeeref08.Check. -/
namespace Go.Proofs.YteeckcbbnegmcaaGreatDoor
open Go.RowKit
end Go.Proofs.YteeckcbbnegmcaaGreatDoor
/- The walks through ogeeref08.put and Gather. -/
namespace Go.Proofs.YteeckcbbnegmcaaGreatDoor
open Go.RowKit
end Go.Proofs.YteeckcbbnegmcaaGreatDoor
/- The walks through ogeeref08.Like and Times. -/
namespace Go.Proofs.YteeckcbbnegmcaaGreatDoor
open Go.RowKit
end Go.Proofs.YteeckcbbnegmcaaGreatDoor
/- The walks through poly.Const and poly.Var. -/
namespace Go.Proofs.YteeckcbbnegmcaaGreatDoor
open Go.RowKit
def gg (v : Int) : ByteArray := ⟨(List.replicate v.toNat 0).toArray⟩
theorem kL {v : Int} (h : 0 ≤ v) : ((gg v).size : Int) = v := by
 have : (gg v).size = v.toNat := by unfold gg; show (List.replicate v.toNat (0 : UInt8)).toArray.size = _; rw [List.size_toArray, List.length_replicate]
 omega
theorem p8 (v : Int) : dq (gg v).data.toList = true := by
 unfold dq gg;rw [List.all_eq_true];intro c hc;have : (⟨(List.replicate v.toNat (0 : UInt8)).toArray⟩ : ByteArray).data.toList = List.replicate v.toNat 0 := rfl;rw [this] at hc;rw [(List.mem_replicate.1 hc).2];decide
theorem xr {l : List TR} (h : l.length ≤ 4096) : fL l = 0 := by
 unfold fL;have := eR l;rw [if_neg Dq]
theorem yC {v : Int} {t : TR} (hf : gl v = true) (h : dY v t = true) : jm v [t] = 0 := by
 unfold jm;rw [if_neg (by rw [hf]; simp [h]), if_neg (by simp), xr (by simp)]
def uw (v : Int) : Int := if gl v = false then 1 else 0
theorem lN (v : Int) (c : NR) (k : Nat) (w : World) (hT : gK w) (hc : c.ok ∧ Sz k c.d) (hk : k ≤ 2999980) :
  Calls Tryz.prog 45 #[.int .i64 v, .agg #[.bool c.neg, .string c.bM, .int .i64 c.e]] w fun r w' => ∃ g : PX, dg (uw v) v (aJ [⟨gg v, c⟩]) g ∧ r = .returned (.tuple #[.agg #[.int .i64 g.v, .slice g.A g.n g.c], .int .i64 (uw v)]) ∧ Hp w [g.row] w' := by
 have hh := Hp.start w;have hfw := fun w1 => mE v w1
 cases hf : gl v with
 | false =>
  rw [hf] at hfw;rw [show uw v = 1 by unfold uw; rw [if_pos hf]];refine aj (N := 20) (l := [.int .i64 v, .agg #[.bool c.neg, .string c.bM, .int .i64 c.e]]) Tryz.func45 rfl rfl (by simp) ?_;refine sr ?_;refine dp hh [_,_,_] ?_;intro b3 w3 hh;refine cj hh ?_;intro b4 w4 hh;refine aI (aa (ah (sr (mI ?_))));refine bB hh (hfw _) rfl ?_;intro w7 hh;refine gd ?_;refine aa (cT (sr ?_));refine eX [_,_] ?_;refine bD hh 0 [_,_] ?_;intro ws hh;replace hh : Hp _ (.blk _ _ [_, _] _ :: _) _ := hh;refine aI (aa (al (aH ?_)));refine j0 (aN rfl (aO (vs := [_, _]) aC.out (hh.aw (i := 0) (n := 2) rfl rfl) rfl) (cf (cO rfl) a7)) ?_;exact ⟨PX.nil, dg.err Dr, rfl, (hh.sub (List.nil_sublist _)).ju⟩
 | true =>
  rw [hf] at hfw;obtain ⟨h0, h12⟩ := gE.1 hf;have hm : jm v [⟨gg v, c⟩] = 0 := yC hf (by unfold dY; rw [p8, decide_eq_true (kL h0)]; rfl);have hmk := fun A cc w1 hT1 hS1 => jy v A 1 cc [⟨gg v, c⟩] k w1 hT1 hS1 Dr Dq (fun t ht => by rw [List.mem_singleton.1 ht]; exact hc) (fun t ht => by rw [List.mem_singleton.1 ht]; have := kL h0; show (gg v).size ≤ _; omega);rw [hm] at hmk;rw [show uw v = 0 by unfold uw; rw [if_neg (by rw [hf]; decide)]];refine aj (N := 20) (l := [.int .i64 v, .agg #[.bool c.neg, .string c.bM, .int .i64 c.e]]) Tryz.func45 rfl rfl (by simp) ?_;refine sr ?_;refine dp hh [_,_,_] ?_;intro b3 w3 hh;refine cj hh ?_;intro b4 w4 hh;refine aI (aa (ah (sr (mI ?_))));refine bB hh (hfw _) rfl ?_;intro w7 hh;refine gd ?_;refine aa (cF (ak (ai (ah ?_))));refine qq [] [0, 0, 2, 6, 0, 30, 62, 127, 255, 255, 1023, 2047] 7 [[(0, none)], [(0, none)], [(11, some 1)], [(12, some 2)], [(3, none)], [(13, some 3), (14, some 4)], [(15, some 5)]] [(6, 16), (5, 15), (4, 14), (3, 13), (2, 12), (1, 11), (0, 10)] [([], 4, [(6, 16), (5, 15), (4, 14), (3, 13), (2, 12), (1, 11), (0, 10)])] hh mixed Dt Dt Dr ?_;refine fW ?_;refine fW ?_
  refine bj (i := 2) (fe v.toNat 1 (jj (List.replicate v.toNat 0))) (fe.ext) ?_ ?_
  ·intro ρ1 w1 hj hR;exact uy v.toNat ▸ Ao (n := v.toNat) (show ρ1 11 = Value.int _ _ from hR.1) (show ρ1 11 = Value.int _ _ from hR.1) Dq Dq aF.out aC.out rfl Dq Dq (fun _ _ h1 h2 => ⟨h2, h1⟩)
  refine bj (i := 3) (Is (.string (gg v))) (Is.ext) ?_ ?_
  ·intro ρ1 w1 hj hR;obtain ⟨g12, e12, o12⟩ := hR.1;exact let ⟨g, e, o⟩ := hR.1; bW rfl (jE (l := List.replicate v.toNat 0) aF.out aF.out aF.out e o) ⟨Below.refl _ _, rfl⟩
  refine fX 1 [_,_,_] ?_;refine dB [_,_,_,_] ?_;refine tF [_,_,_,_] ?_;refine bq ?_;intro p_ hp_;simp only [List.mem_cons, List.not_mem_nil, or_false] at hp_
  rcases hp_ with rfl
  intro f W hJ hV;have hb_3 := hJ.bl;obtain ⟨v16, v15, v14, v13, v12, v11, v10, _⟩ := hV;simp only [iC];have e10 : f 0 = _ := v10;rw [e10];have e11 : f 1 = _ := v11;rw [e11];obtain ⟨g12, e12, o12⟩ : fe v.toNat 1 (jj (List.replicate v.toNat 0)) (f 2) W := v12;rw [e12];have e13 : f 3 = _ := v13;rw [e13];have e14 : f 4 = _ := v14;rw [e14];have e15 : f 5 = _ := v15;rw [e15];obtain ⟨A16, c16, e16, f16⟩ : Rows _ _ _ (f 6) W := v16;rw [e16];replace hh := hJ.hp;clear e10 e11 e12 e13 e14 e15 e16 hJ;refine aK (hmk _ _ _ (hT.hp hh) f16) aq.out rfl Dr ?_; rintro e_ w17 ⟨g, og, rfl, h3⟩; refine ⟨_, rfl, ?_⟩; replace hh := hh.join h3;refine cH ?_;simp only [List.cons_append, List.nil_append] at hh;refine cN (i := 8) (by repeat (first | exact bX | refine bE ?_ | refine bV ?_ | refine np_scope ?_)) rfl Dt Dt Dt (fun _ => dP (show _ = Value.tuple (List.toArray _) from rfl) rfl) Dr ?_;refine cN (i := 9) (by repeat (first | exact bX | refine bE ?_ | refine bV ?_ | refine np_scope ?_)) rfl Dt Dt Dt (fun _ => dP (show _ = Value.tuple (List.toArray _) from rfl) rfl) Dr ?_;refine dT 10 Dr Dt Dr Dt Dt ?_;refine bD hh 1 [_,_] ?_;intro ws hh;replace hh : Hp _ (_ :: .blk _ _ [_, _] _ :: _) _ := hh
  refine aI (aa (al ?_));refine j0 (aN rfl (aO (vs := [_, _]) aC.out (hh.aw (i := 1) (n := 2) rfl rfl) rfl) (cf (cO rfl) a7)) ?_;exact ⟨g, og, rfl, hh.sub (List.Sublist.cons_cons _ (List.nil_sublist _))⟩
def Dk (v : Int) (x : Nat) : ByteArray := ⟨((List.replicate v.toNat (0 : UInt8)).set x 1).toArray⟩
def C8 (v x : Int) : Int := if gl v = false ∨ x < 0 ∨ v ≤ x then 1 else 0
end Go.Proofs.YteeckcbbnegmcaaGreatDoor
/- The walks through ogeeref08.Make, Const, Var. -/
namespace Go.Proofs.YteeckcbbnegmcaaGreatDoor
open Go.RowKit
end Go.Proofs.YteeckcbbnegmcaaGreatDoor
/- The walk through poly.Pow. -/
namespace Go.Proofs.YteeckcbbnegmcaaGreatDoor
open Go.RowKit
def CI (p : PX) (n : Nat) : List TR × Int := (List.replicate n p).foldl gF (aJ [⟨gg p.v, nR ((1 : Int) : Dyadic)⟩], 0)
def CZ (p : PX) (n : Int) : Int := if p.e = 0 then (if n < 0 ∨ 127 < n then 1 else (CI p n.toNat).2) else p.e
end Go.Proofs.YteeckcbbnegmcaaGreatDoor
/- The walks through ogeeref08.Mul and Pow. -/
namespace Go.Proofs.YteeckcbbnegmcaaGreatDoor
open Go.RowKit
def CV (ps : List PX) (R : List HE) (g : PX) : Prop := (g ∈ ps ∧ R = []) ∨ R = [g.row]
end Go.Proofs.YteeckcbbnegmcaaGreatDoor
/- The walk through poly.Degs. -/
namespace Go.Proofs.YteeckcbbnegmcaaGreatDoor
open Go.RowKit
def Cr (s : ByteArray) (i : Nat) : Int := match s.data.toList[i]? with | some c => c.toNat | none => 0
def C2 (l : List TR) (i : Nat) : Int := l.foldl (fun m t => max m (Cr t.m i)) 0
def CA (m : Nat) (l : List TR) : List Int := (List.range m).map (C2 l)
def Dp (v : Int) (ts : List TR) : List Int := if gJ v ts = 0 then CA v.toNat ts else []
end Go.Proofs.YteeckcbbnegmcaaGreatDoor
/- The walks through ogeeref08.Degs and Own. -/
namespace Go.Proofs.YteeckcbbnegmcaaGreatDoor
open Go.RowKit
end Go.Proofs.YteeckcbbnegmcaaGreatDoor
/- The walks through ogeeref08.Terms and Same. -/
namespace Go.Proofs.YteeckcbbnegmcaaGreatDoor
open Go.RowKit
theorem zg (n : Nat) (m m' : ByteArray) (s s' : Bool) (a a' : ByteArray) (e e' : Int) (w : World) : (Op.equalIn (n + 4) 96 (.agg #[.string m, .bool s, .string a, .int .i64 e]) (.agg #[.string m', .bool s', .string a', .int .i64 e'])).run Tryz.prog w = .ok (m == m' && ((s == s' && a == a') && e == e')) w := by
 have h1 := fun (u : ByteArray) (x : Bool) (y : ByteArray) (z : Int) => vy (P := Tryz.prog) (cs := #[.string u, .bool x, .string y, .int .i64 z]) (off := 0) (aC.out (P := Tryz.prog) (t := 9)) rfl;have h2 := fun (u : ByteArray) (x : Bool) (y : ByteArray) (z : Int) => AU (P := Tryz.prog) (cs := #[.string u, .bool x, .string y, .int .i64 z]) (vs := #[.bool x, .string y, .int .i64 z]) (off := 1) (aC.out (P := Tryz.prog) (t := 65)) rfl;rw [Op.equalIn];simp [run_underlying Tryz.underlying96, h1, h2, Cu, ui]
 cases h : m == m' <;> cases h' : ((s == s' && a == a') && e == e') <;> simp_all
theorem ti {x y : TR} : (x.m == y.m && ((x.c.neg == y.c.neg && x.c.bM == y.c.bM) && x.c.e == y.c.e)) = true ↔ x = y := by
 obtain ⟨m, s, a, e⟩ := x;obtain ⟨m', s', a', e'⟩ := y;rw [Bool.and_eq_true, lz, xH, TR.mk.injEq]
section
variable {ρ : Rf} {w : World} {d : Option Nat} {ty u : TypeId} {pos : String} {af : Array Edge} {g : Option (Nat × Bool)} {x y : Operand} {s t : TR}
theorem Bb {r : Bool} (hx : ev ρ x = .agg s.cells.toArray) (hy : ev ρ y = .agg t.cells.toArray) (hr : (s.m == t.m && ((s.c.neg == t.c.neg && s.c.bM == t.c.bM) && s.c.e == t.c.e)) = r) :
  (execOp (ev ρ) ⟨d, .binOp .neq 96 x y u, ty, pos, af, g⟩).run Tryz.prog w = .ok (.value (.bool !r)) w := by
 have h1 : (Op.equal 96 (.agg s.cells.toArray) (.agg t.cells.toArray)).run Tryz.prog w = .ok r w := by rw [← hr]; exact zg 9996 s.m t.m s.c.neg t.c.neg s.c.bM t.c.bM s.c.e t.c.e w
 simp only [execOp, hx, hy];simp [eqGuard, binOp, h1]
theorem AE (hx : ev ρ x = .agg s.cells.toArray) (hy : ev ρ y = .agg t.cells.toArray) (h : s = t) :
  (execOp (ev ρ) ⟨d, .binOp .neq 96 x y u, ty, pos, af, g⟩).run Tryz.prog w = .ok (.value (.bool false)) w := Bb hx hy (ti.2 h)
theorem AA (hx : ev ρ x = .agg s.cells.toArray) (hy : ev ρ y = .agg t.cells.toArray) (h : ¬ s = t) :
  (execOp (ev ρ) ⟨d, .binOp .neq 96 x y u, ty, pos, af, g⟩).run Tryz.prog w = .ok (.value (.bool true)) w := Bb hx hy (r := false) (Bool.eq_false_iff.2 fun h1 => h (ti.1 h1))
end
theorem An {α : Type} {a b : List α} {i : Nat} (ha : a.length ≤ i) (hb : b.length ≤ i) (h : a.take i = b.take i) : a = b := by
 rwa [List.take_of_length_le ha, List.take_of_length_le hb] at h
theorem qW (A : Option Addr) (n c : Nat) (a : List TR) (B : Option Addr) (m d : Nat) (b : List TR) (w : World) (hS : Sl w A n 4 (aQ TR.cells a)) (hS2 : Sl w B m 4 (aQ TR.cells b)) (hn : n ≤ 1000000) (hm : m ≤ 1000000) :
  Calls Tryz.prog 73 #[.slice A n c, .slice B m d] w fun r w' => ∃ v, r = .returned (.bool v) ∧ (v = true ↔ a = b) ∧ Below w.heap.size w w' := by
 have hh := Hp.start w;have hla := hS.cI TR.len Dr;have hlb := hS2.cI TR.len Dr;by_cases hnm : n = m
 ·subst hnm;refine aj (N := 26) (l := [.slice A n c, .slice B n d]) Tryz.func73 rfl rfl (by simp) ?_;refine sr (aB (aa (ah (sr (mL (a4 (mL (a4 ?_))))))));refine cz (aa (cF (ak (ai (ah (sr (aI (aa (ao ?_)))))))));refine bF [4, 5, 11, 12, 13, 14, 15, 16, 17, 18, 19, 20, 21, 22, 23, 24, 25] 5
   (fun v w' => ∃ i : Nat, i ≤ n ∧ v = .int .i64 i ∧ a.take i = b.take i ∧ Hp w [] w')
   (fun v _ => n - (intOf v).toNat) ?_ ?_
  ·exact ⟨0, Nat.zero_le _, rfl, rfl, hh⟩
  ·clear hh;rintro ρ' v w' ⟨i, hi, rfl, he, hh⟩;by_cases hlt : i < n
   ·obtain ⟨s, hs⟩ := aG (l := a) (k := i) Dq;obtain ⟨t, ht⟩ := aG (l := b) (k := i) Dq;obtain ⟨ad, rfl, hr⟩ := hS.at_ Dq;obtain ⟨ad2, rfl, hr2⟩ := hS2.at_ Dq;by_cases hst : s = t
    ·refine ah (sr (mI (mL (a4 ?_))));refine a3 (aa (cT (ak (ai (ah (ao (ah ?_)))))));refine bg 8 [[(0, none)], [(5, none)], [(17, some 0), (18, some 1)], [(19, some 2)], [(1, none)], [(5, none)], [(21, some 4), (22, some 5)], [(23, some 6)]] [(7, 24), (6, 23), (5, 22), (4, 21), (3, 20), (2, 19), (1, 18), (0, 17)] hh mixed Dt ?_;refine jv ?_;refine fW ?_;refine mf (i) ?_;refine wx [_,_,_,_] (fun _ hj => (hr.ext hj.hp.below).recAt TR.len hs) ?_;refine jv ?_;refine fW ?_;refine mf (i) ?_;refine wx [_,_,_,_] (fun _ hj => (hr2.ext hj.hp.below).recAt TR.len ht) ?_;refine bq ?_;intro f W hJ hV;have hb_6 := hJ.bl;obtain ⟨v24, v23, v22, v21, v20, v19, v18, v17, _⟩ := hV;replace hh := hJ.hp;refine a6 (bk (ae v24 (ae v23 (ae v22 (ae v21 (ae v20 (ae v19 (ae v18 (ae v17 a5))))))))) ?_;dsimp only [cJ];clear hJ;refine aU rfl rfl Dr (AE (s := s) (t := t) rfl rfl hst) ?_;skip;refine aa (cF (ak (aX (ai (ar (mI ?_))))));refine bO (aI (aE (ai ?_)));refine ⟨⟨i + 1, Dq, rfl, by rw [aT hs, aT ht, he, hst], hh⟩, by show n - (i + 1) < n - i; omega, ?_⟩;exact Du
    ·refine ah (sr (mI (mL (a4 ?_))));refine a3 (aa (cT (ak (ai (ah (ao (ah ?_)))))));refine bg 8 [[(0, none)], [(5, none)], [(17, some 0), (18, some 1)], [(19, some 2)], [(1, none)], [(5, none)], [(21, some 4), (22, some 5)], [(23, some 6)]] [(7, 24), (6, 23), (5, 22), (4, 21), (3, 20), (2, 19), (1, 18), (0, 17)] hh mixed Dt ?_;refine jv ?_;refine fW ?_;refine mf (i) ?_;refine wx [_,_,_,_] (fun _ hj => (hr.ext hj.hp.below).recAt TR.len hs) ?_;refine jv ?_;refine fW ?_;refine mf (i) ?_;refine wx [_,_,_,_] (fun _ hj => (hr2.ext hj.hp.below).recAt TR.len ht) ?_;refine bq ?_;intro f W hJ hV;have hb_6 := hJ.bl;obtain ⟨v24, v23, v22, v21, v20, v19, v18, v17, _⟩ := hV;replace hh := hJ.hp;refine a6 (bk (ae v24 (ae v23 (ae v22 (ae v21 (ae v20 (ae v19 (ae v18 (ae v17 a5))))))))) ?_;dsimp only [cJ];clear hJ;refine aU rfl rfl Dr (AA (s := s) (t := t) rfl rfl hst) ?_;skip;refine aa (cT (sr (aB (aa (al (bT (aH (aH (bT (aH ?_))))))))));refine cA ?_;refine ⟨_, rfl, ⟨fun h => (nomatch h), fun h => absurd ?_ hst⟩, hh.below⟩;rw [h, ht] at hs;exact (Option.some.inj hs).symm
   ·refine ah (sr (mI (mL (a4 ?_))));refine a3 (aa (cF (aV (aA (aA (a8 (ai (sr (aB (aa (al ?_)))))))))));refine cA ?_;exact ⟨_, rfl, ⟨fun _ => An Dq Dq he, fun _ => rfl⟩, hh.below⟩
 ·refine aj (N := 26) (l := [.slice A n c, .slice B m d]) Tryz.func73 rfl rfl (by simp) ?_;refine sr (aB (aa (ah (sr (mL (a4 (mL (a4 ?_))))))));refine cz (aa (cT (sr (aB (aa (al (aH ?_)))))));refine cA ?_;exact ⟨_, rfl, ⟨fun h => (nomatch h), fun h => absurd (by rw [← hla, ← hlb, h]) hnm⟩, hh.below⟩
theorem mY (p q : PX) (w : World) (hp : p.at_ w) (hq : q.at_ w) (hn : p.n ≤ 1000000) (hm : q.n ≤ 1000000) :
  Calls Tryz.prog 15 #[.agg #[.int .i64 p.v, .slice p.A p.n p.c], .agg #[.int .i64 q.v, .slice q.A q.n q.c]] w fun r w' => ∃ v, r = .returned (.bool v) ∧ (v = true ↔ p.v = q.v ∧ p.ts = q.ts) ∧ Below w.heap.size w w' := by
 have hh := Hp.start w;have ht := fun w1 hb => qW p.A p.n p.c p.ts q.A q.n q.c q.ts w1 (hp.ext hb) (hq.ext hb) hn hm;by_cases hv : p.v = q.v
 ·refine aj (N := 17) (l := [.agg #[.int .i64 p.v, .slice p.A p.n p.c], .agg #[.int .i64 q.v, .slice q.A q.n q.c]]) Tryz.func15 rfl rfl (by simp) ?_;refine sr ?_;refine dp hh [_,_] ?_;intro b2 w2 hh;refine dp hh [_,_] ?_;intro b3 w3 hh;refine aB (aa (sr (bG ?_)));refine bI hh 1 ?_;refine bG ?_;refine bI hh 0 ?_;refine cu (mB ?_);first | refine gS ?_ | (refine gT ?_; refine bG ?_) | refine gV ?_
  first | refine gS ?_ | (refine gT ?_; refine bI hh 1 ?_) | refine gV ?_
  first | refine gS ?_ | (refine gT ?_; refine bG ?_) | refine gV ?_
  first | refine gS ?_ | (refine gT ?_; refine bI hh 0 ?_) | refine gV ?_
  refine br rfl rfl ?_;refine aK (ht _ hh.below) aq.out rfl Dr ?_;rintro e_ w15 ⟨v_, rfl, hv_, hb_⟩;refine ⟨_, rfl, ?_⟩;replace hh := hh.ext hb_;first | refine cW ?_ | refine cX ?_
  refine aB (aa (al ?_));refine cA ?_;exact ⟨v_, rfl, hv_.trans ⟨fun h => ⟨hv, h⟩, fun h => h.2⟩, hh.below⟩
 ·refine aj (N := 17) (l := [.agg #[.int .i64 p.v, .slice p.A p.n p.c], .agg #[.int .i64 q.v, .slice q.A q.n q.c]]) Tryz.func15 rfl rfl (by simp) ?_;refine sr ?_;refine dp hh [_,_] ?_;intro b2 w2 hh;refine dp hh [_,_] ?_;intro b3 w3 hh;refine aB (aa (sr (bG ?_)));refine bI hh 1 ?_;refine bG ?_;refine bI hh 0 ?_;refine cu (mB ?_);first | refine gS ?_ | (refine gT ?_; refine bG ?_) | refine gV ?_
  first | refine gS ?_ | (refine gT ?_; refine bI hh 1 ?_) | refine gV ?_
  first | refine gS ?_ | (refine gT ?_; refine bG ?_) | refine gV ?_
  first | refine gS ?_ | (refine gT ?_; refine bI hh 0 ?_) | refine gV ?_
  refine cb Dr rfl rfl Dr ?_;first | refine cW ?_ | refine cX ?_
  refine aB (aa (al ?_));refine cA ?_;exact ⟨_, rfl, ⟨fun h => (nomatch h), fun h => absurd h.1 hv⟩, hh.below⟩
end Go.Proofs.YteeckcbbnegmcaaGreatDoor
/- The walks through ogeelaw08's own helpers. -/
namespace Go.Proofs.YteeckcbbnegmcaaGreatDoor
open Go.RowKit
def C4 (a : NR) : Bool := decide ((24 : Int) < a.bM.size ∨ a.e < -300 ∨ 300 < a.e)
structure Dl (ts : List TR) : Prop where
 n : ts.length ≤ 12
 ok : gx 492 ts
 sz : ∀ t ∈ ts, t.m.size ≤ 50
end Go.Proofs.YteeckcbbnegmcaaGreatDoor
/- Plain: what polynomials come to hangs on their variables and terms alone; how long it is. -/
namespace Go.Proofs.YteeckcbbnegmcaaGreatDoor
open Go.RowKit
def PX.norm (g : PX) : PX := ⟨g.v, none, 0, 0, g.ts⟩
structure Di (ps os : List PX) (R : List HE) : Prop where
 eq : ∀ (j : Nat) (g o : PX), ps[j]? = some g → os[j]? = some o → o.v = g.v ∧ o.ts = g.ts ∧ o.n = g.n
 my : ∀ o ∈ os, o.row ∈ R ∧ o.n ≤ o.c
end Go.Proofs.YteeckcbbnegmcaaGreatDoor
/- The walk through poly.Scale. -/
namespace Go.Proofs.YteeckcbbnegmcaaGreatDoor
open Go.RowKit
def C6 (p : PX) (c : Dyadic) : Int := if p.e = 0 then fL (p.ts.map (CP c)) else p.e
end Go.Proofs.YteeckcbbnegmcaaGreatDoor
/- Plain: polynomials with whole numbers, given byte by byte; what they come to can be reckoned. No program in sight. -/
namespace Go.Proofs.YteeckcbbnegmcaaGreatDoor
open Go.RowKit
abbrev ZT := List (List UInt8 × Int)
def zT (L : ZT) : List TR := L.map fun x => ⟨str x.1, nR ((x.2 : Int) : Dyadic)⟩
def zS (L : ZT) (b : List UInt8) : Int := match L with | [] => 0 | x :: L => (if x.1 = b then x.2 else 0) + zS L b
theorem Au (a b : Int) : ((a + b : Int) : Dyadic) = (a : Dyadic) + (b : Dyadic) := (rm a b 0).symm
theorem za {a : Int} (h : (a : Dyadic) = 0) : a = 0 := jx (p := 0) h
def zC : ZT → Bool
 | [] => true
 | [x] => !decide (x.2 = 0)
 | x :: y :: L => !decide (x.2 = 0) && (Op.bytesLess x.1 y.1 && zC (y :: L))
theorem pj : ∀ {L : ZT}, zC L = true → Canon (zT L) := fun {L} h => by
 have h1 : ∀ {L : ZT}, zC L = true → mw (zT L) = true ∧ ∀ x ∈ L, x.2 ≠ 0 := fun {L} => by
  induction L with
  | nil => exact fun _ => ⟨rfl, fun x hx => nomatch hx⟩
  | cons x L ih =>
   intro h
   cases L with
   | nil => exact ⟨rfl, fun y hy => by rw [List.mem_singleton.1 hy]; simpa [zC] using h⟩
   | cons y L =>
    simp only [zC, Bool.and_eq_true, Bool.not_eq_true', decide_eq_false_iff_not] at h;obtain ⟨i1, i2⟩ := ih h.2.2;refine ⟨?_, fun z hz => ?_⟩
    ·show (gf (str x.1) (str y.1) && mw (zT (y :: L))) = true;rw [i1, show gf (str x.1) (str y.1) = true by unfold gf; rw [bC, bC]; exact h.2.1]
     rfl
    ·rcases List.mem_cons.1 hz with rfl | hz
     ·exact h.1
     ·exact i2 z hz
 obtain ⟨i1, i2⟩ := h1 h;refine ⟨lj.1 i1, fun t ht => ?_, fun t ht => ?_⟩
 ·obtain ⟨x, hx, rfl⟩ := List.mem_map.1 ht;show (nR _).d ≠ 0;rw [dR];exact fun e => i2 x hx (za e)
 ·obtain ⟨x, hx, rfl⟩ := List.mem_map.1 ht;show nR _ = nR (nR _).d;rw [dR]
def zE (L K : ZT) : Bool := (L ++ K).all fun x => decide (zS L x.1 = zS K x.1)
def zP (P Q : ZT) : ZT := P.flatMap fun x => Q.map fun y => ((mulL x.1 y.1).1, x.2 * y.2)
def Dn (P Q : ZT) : List Int := P.flatMap fun x => Q.map fun y => (mulL x.1 y.1).2
theorem xW (L : ZT) : (zT L).length = L.length := List.length_map _
def zM (v : Int) (L : ZT) : Bool := L.all fun x => dq x.1 && decide ((x.1.length : Int) = v)
theorem Be {v : Int} {L : ZT} (h : zM v L = true) : ∀ t ∈ zT L, dY v t = true := fun t ht => by
 obtain ⟨x, hx, rfl⟩ := List.mem_map.1 ht;have := List.all_eq_true.1 h x hx;unfold dY;show (dq (str x.1).data.toList && decide (((str x.1).size : Int) = v)) = true;rw [bC, eh];exact this
theorem ra {v : Int} {L : ZT} (hf : gl v = true) (h : (zC L && zM v L) = true) (hn : L.length ≤ 4096) : gJ v (zT L) = 0 := by
 rw [Bool.and_eq_true] at h;exact q6 hf (by rw [xW]; exact hn) (Be h.2) (pj h.1)
def zB (L : ZT) : Bool := L.all fun x => decide (x.2.natAbs < 256) && decide (x.1.length ≤ 50)
theorem AR {L : ZT} (h : zB L = true) : gx 24 (zT L) ∧ ∀ t ∈ zT L, t.m.size ≤ 50 := by
 refine ⟨fun t ht => ?_, fun t ht => ?_⟩
 ·obtain ⟨x, hx, rfl⟩ := List.mem_map.1 ht;have := Bool.and_eq_true_iff.1 (List.all_eq_true.1 h x hx);have z : Sz 24 ((x.2 : Int) : Dyadic) := At (m := x.2) (e := 0) (of_decide_eq_true this.1) Dr Dr;exact ⟨z.ok Dr, by show Sz 24 (nR _).d; rw [dR]; exact z⟩
 ·obtain ⟨x, hx, rfl⟩ := List.mem_map.1 ht;have := Bool.and_eq_true_iff.1 (List.all_eq_true.1 h x hx);show (str x.1).size ≤ 50;rw [eh];exact of_decide_eq_true this.2
theorem mm {v : Int} {A : Option Addr} {n c : Nat} {L : ZT} (h : zB L = true) (hn : n ≤ 1000000) (hc : n ≤ c) : (⟨v, A, n, c, zT L⟩ : PX).ja 24 := ⟨hn, hc, (AR h).1, fun t ht => Nat.le_trans ((AR h).2 t ht) Dr⟩
end Go.Proofs.YteeckcbbnegmcaaGreatDoor
/- The walks through ogeelaw08.whole and two; the chapter's examples one by one. -/
namespace Go.Proofs.YteeckcbbnegmcaaGreatDoor
open Go.RowKit
def C7 (n : Int) : ZT := [([0, 1], n), ([1, 0], 1)]
theorem dg.zT {v : Int} {K : ZT} {g : PX} {w : World} (o : dg 0 v (zT K) g) (h : g.at_ w) : ∃ A c, g = ⟨v, A, K.length, c, zT K⟩ := by
 obtain ⟨gv, gA, gn, gc, gts⟩ := g;obtain rfl : v = gv := o.v.symm;obtain rfl : Go.Proofs.YteeckcbbnegmcaaGreatDoor.zT K = gts := o.ts.symm;have : (Go.Proofs.YteeckcbbnegmcaaGreatDoor.zT K).length = gn := h.ln;rw [xW] at this;exact ⟨gA, gc, by rw [this]⟩
theorem lB {g h : PX} (h1 : g.e = 0) (h2 : h.e = 0) (h3 : h.v = g.v) : fA [g, h] = 0 := by
 have e : [g, h].find? (fun g => decide (g.e ≠ 0)) = none := gj (List.any_eq_false.2 fun x hx => by
  rcases List.mem_cons.1 hx with rfl | hx
  ·simp [h1]
  ·rw [List.mem_singleton.1 hx]; simp [h2])
 unfold fA;rw [e];show (if 2 = 0 ∨ wz [g, h] = true then (1 : Int) else 0) = 0;rw [if_neg];rintro (h0 | h0)
 ·cases h0
 ·obtain ⟨x, hx, hx2⟩ := List.any_eq_true.1 h0;have hx3 : x.v ≠ g.v := of_decide_eq_true hx2
  rcases List.mem_cons.1 hx with rfl | hx
  ·exact hx3 rfl
  ·rw [List.mem_singleton.1 hx] at hx3;exact hx3 h3
end Go.Proofs.YteeckcbbnegmcaaGreatDoor
/- The walk through ogeelaw08.awake. -/
namespace Go.Proofs.YteeckcbbnegmcaaGreatDoor
open Go.RowKit
end Go.Proofs.YteeckcbbnegmcaaGreatDoor
/- The walk through the law PolyMakes. -/
namespace Go.Proofs.YteeckcbbnegmcaaGreatDoor
open Go.RowKit
def CJ (ds : List Int) : VP := fun v W => ∃ g : Option Addr × Nat, v = .slice g.1 ds.length g.2 ∧ Sl W g.1 ds.length 1 (jw ds)
theorem dg.len {E v : Int} {ts : List TR} {g : PX} {w : World} (o : dg E v ts g) (h : g.at_ w) : g.n ≤ ts.length := by
 have hl := h.ln;have hts := o.ts;by_cases hE : E = 0
 ·rw [if_pos hE] at hts;rw [hts] at hl;omega
 ·rw [if_neg hE] at hts;rw [hts] at hl;have h0 : g.n = 0 := hl.symm;omega
theorem jK {g h : PX} (w : World) (hg : g.at_ w) (hh : h.at_ w) (e : g.v = h.v ∧ g.ts = h.ts) (hn : g.n ≤ 1000000) (hm : h.n ≤ 1000000) :
  Calls Tryz.prog 15 #[.agg #[.int .i64 g.v, .slice g.A g.n g.c], .agg #[.int .i64 h.v, .slice h.A h.n h.c]] w fun r w' => r = .returned (.bool true) ∧ Below w.heap.size w w' :=
 (mY g h w hg hh hn hm).mono fun r w' ⟨v, hr, hv, hb⟩ => ⟨by rw [hr, hv.2 e], hb⟩
end Go.Proofs.YteeckcbbnegmcaaGreatDoor
/- Plain: what is answered without an error may be; with one it is zero. -/
namespace Go.Proofs.YteeckcbbnegmcaaGreatDoor
open Go.RowKit
structure Dc (E : Int) (g : PX) : Prop where
 bad : E ≠ 0 → g.v = 0 ∧ g.ts = []
 ok : E = 0 → g.e = 0 ∧ gx 100000 g.ts ∧ ∀ t ∈ g.ts, t.m.size ≤ 100000
theorem u1 {l : List TR} (h : fL l = 0) : (aJ l).length ≤ 4096 := by
 unfold fL at h;by_cases h4 : 4096 < (aJ l).length
 ·rw [if_pos h4] at h; omega
 ·omega
theorem Ar {v : Int} {l : List TR} (h : jm v l = 0) : gl v = true ∧ (∀ t ∈ l, dY v t = true) ∧ (aJ l).length ≤ 4096 := by
 unfold jm at h;by_cases h1 : gl v = false ∨ (l.any fun t => !dY v t) = true
 ·rw [if_pos h1] at h; omega
 ·rw [if_neg h1] at h;by_cases h2 : 65536 < l.length
  ·rw [if_pos h2] at h; omega
  ·rw [if_neg h2] at h;refine ⟨by cases hf : gl v with | true => rfl | false => exact absurd (.inl hf) h1, fun t ht => ?_, u1 h⟩
   cases hm : dY v t with
   | true => rfl
   | false => exact absurd (.inr (List.any_eq_true.2 ⟨t, ht, by rw [hm]; rfl⟩)) h1
theorem jf {k j : Nat} {l : List TR} (h : gx k l) (hk : k + l.length ≤ j) (hj : j ≤ 3999990) : gx j (aJ l) := fun t ht => by
 have h3 : Sz j t.c.d := (jZ (fun t ht => (h t ht).2) t ht).mono hk;exact ⟨by rw [(eC l).nf t ht]; exact h3.ok hj, h3⟩
theorem kR {l : List TR} (h : ∀ t ∈ l, t.m.size ≤ 100000) : ∀ t ∈ aJ l, t.m.size ≤ 100000 := fun t ht => by
 obtain ⟨s, hs, e⟩ := hZ t ht;rw [← e];exact h s hs
end Go.Proofs.YteeckcbbnegmcaaGreatDoor
/- Plain: orders do not matter; the walk through ogeelaw08.same. -/
namespace Go.Proofs.YteeckcbbnegmcaaGreatDoor
open Go.RowKit
theorem pE {l : List TR} (h : l.length ≤ 4096) : fL l = 0 := by
 unfold fL;have := eR l;rw [if_neg Dq]
theorem dg.v0 {v : Int} {ts : List TR} {g : PX} (o : dg 0 v ts g) : g.v = v := o.v
theorem dg.t0 {v : Int} {ts : List TR} {g : PX} (o : dg 0 v ts g) : g.ts = ts := o.ts
theorem yN (p q : PX) : qm [p, q] = p.ts ++ q.ts := by show p.ts ++ (q.ts ++ []) = _; rw [List.append_nil]
end Go.Proofs.YteeckcbbnegmcaaGreatDoor
/- What comes of putting polynomials into one, by the rule of Horner: plain, no program in sight. -/
namespace Go.Proofs.YteeckcbbnegmcaaGreatDoor
open Go.RowKit
def nG (j : Nat) (t : TR) : Nat := match t.m.data.toList[j]? with | some e => e.toNat | none => 0
theorem Bl {j : Nat} {t : TR} {e : UInt8} (h : t.m.data.toList[j]? = some e) : nG j t = e.toNat := by unfold nG; rw [h]
def cP (p : List TR) (j n : Nat) : List TR := p.filter fun t => decide (nG j t = n)
def g8 (q : List TR) (sub : List TR → Int × List TR) (p : List TR) (j n : Nat) (a : Int × List TR) : Int × List TR :=
 if a.1 ≠ 0 then a else if a.2.length = 0 ∧ (cP p j n).length = 0 then a else
 if eT a.2 q ≠ 0 then (eT a.2 q, []) else if (sub (cP p j n)).1 ≠ 0 then ((sub (cP p j n)).1, []) else
 if fL (aJ (cd a.2 q) ++ (sub (cP p j n)).2) ≠ 0 then (fL (aJ (cd a.2 q) ++ (sub (cP p j n)).2), []) else (0, aJ (aJ (cd a.2 q) ++ (sub (cP p j n)).2))
def dH (q : List TR) (sub : List TR → Int × List TR) (p : List TR) (j : Nat) : Nat → Int × List TR
 | 0 => (0, [])
 | i + 1 => g8 q sub p j (127 - i) (dH q sub p j i)
theorem uE (q : List TR) (sub : List TR → Int × List TR) (p : List TR) (j i : Nat) : dH q sub p j (i + 1) = g8 q sub p j (127 - i) (dH q sub p j i) := rfl
def iH (v : Int) : List (List TR) → Nat → List TR → Int × List TR
 | [], _, p => (0, aJ [⟨gg v, (p.map TR.c).headD (nR 0)⟩])
 | q :: qs, j, p => dH q (iH v qs (j + 1)) p j 128
theorem qj {q : List TR} {sub : List TR → Int × List TR} {p : List TR} {j i k : Nat} (h : (dH q sub p j i).1 ≠ 0) (hk : i ≤ k) : dH q sub p j k = dH q sub p j i := by
 induction k with
 | zero =>
  obtain rfl : i = 0 := Dq
  rfl
 | succ k ih =>
  by_cases e : i = k + 1
  ·rw [e]
  ·have := ih Dq;show g8 q sub p j (127 - k) (dH q sub p j k) = _;rw [this];unfold g8;rw [if_pos h]
theorem sW {p q : List TR} {k j : Nat} (hp : gx k p) (hq : gx j q) (sq : ∀ t ∈ q, t.m.size ≤ 100000) (h : eT p q = 0) (hk : k + j ≤ 900000) : gx (k + j + p.length * q.length) (aJ (cd p q)) ∧ ∀ t ∈ aJ (cd p q), t.m.size ≤ 100000 := by
 obtain ⟨h6, _, h4⟩ := kW h;have ho := l7 hp hq Dq;have hz := jZ fun t ht => (ho t ht).2;rw [iX] at hz;refine ⟨fun t ht => ?_, (vF hp hq sq h hk).2⟩;have : Sz (k + j + p.length * q.length) t.c.d := hz t ht;refine ⟨?_, this⟩;rw [(eC _).nf t ht];exact this.ok Dq
structure kn (v : Int) (k : Nat) (l : List TR) : Prop where
 e : gJ v l = 0
 ok : gx k l
 sz : ∀ t ∈ l, t.m.size ≤ 100000
theorem kn.mono {v : Int} {k j : Nat} {l : List TR} (h : kn v k l) (hk : k ≤ j) : kn v j l := ⟨h.e, h.ok.mono hk, h.sz⟩
theorem kn.nil {v : Int} {k : Nat} (hv : gl v = true) : kn v k [] := ⟨q6 hv (Nat.zero_le _) (fun _ h => nomatch h) ⟨.nil, (fun _ h => nomatch h), (fun _ h => nomatch h)⟩, (fun _ h => nomatch h), (fun _ h => nomatch h)⟩
theorem kn.len {v : Int} {k : Nat} {l : List TR} (h : kn v k l) : l.length ≤ 4096 := (dk h.e).2.1
theorem vh {v : Int} {p q : List TR} {k j T : Nat} (hp : kn v k p) (hq : kn v j q) (hT : q.length ≤ T) (h : eT p q = 0) (hk : k + j ≤ 900000) : kn v (k + j + 4096 * T) (aJ (cd p q)) := by
 obtain ⟨h6, h5, h4⟩ := kW h;obtain ⟨f1, f2, f3, f4⟩ := dk hp.e;have := sW hp.ok hq.ok hq.sz h hk;have hm : p.length * q.length ≤ 4096 * T := Nat.mul_le_mul hp.len hT;exact ⟨fK f1 h4 (qa f3 h5), this.1.mono Dq, this.2⟩
theorem vV {v : Int} {a b : List TR} {k : Nat} (ha : kn v k a) (hb : kn v k b) (h : fL (a ++ b) = 0) (hk : k ≤ 3000000) : kn v (k + 8192) (aJ (a ++ b)) := by
 obtain ⟨f1, f2, f3, f4⟩ := dk ha.e;obtain ⟨g1, g2, g3, g4⟩ := dk hb.e;have hl : (a ++ b).length ≤ 8192 := by rw [List.length_append]; omega
 refine ⟨fK f1 (u1 h) fun t ht => ?_, jf (fun t ht => ?_) (show k + (a ++ b).length ≤ k + 8192 by omega) Dq, kR fun t ht => ?_⟩
 ·rcases List.mem_append.1 ht with h | h
  ·exact f3 t h
  ·exact g3 t h
 ·rcases List.mem_append.1 ht with h | h
  ·exact ha.ok t h
  ·exact hb.ok t h
 ·rcases List.mem_append.1 ht with h | h
  ·exact ha.sz t h
  ·exact hb.sz t h
theorem yX {v : Int} {q p : List TR} {sub : List TR → Int × List TR} {j n : Nat} {a : Int × List TR} {S K T B S' : Nat} (ha : kn v S a.2) (hq : kn v K q) (hT : q.length ≤ T) (hb : (sub (cP p j n)).1 = 0 → kn v B (sub (cP p j n)).2) (h1 : S + K + 4096 * T + 8192 ≤ S') (h2 : B + 8192 ≤ S') (hS : S' ≤ 900000)
  (h : (g8 q sub p j n a).1 = 0) : kn v S' (g8 q sub p j n a).2 := by
 unfold g8 at h ⊢;by_cases c0 : a.1 ≠ 0
 ·rw [if_pos c0] at h; exact absurd h c0
 ·rw [if_neg c0] at h ⊢;by_cases c1 : a.2.length = 0 ∧ (cP p j n).length = 0
  ·rw [if_pos c1];exact ha.mono Dq
  ·rw [if_neg c1] at h ⊢;by_cases c2 : eT a.2 q ≠ 0
   ·rw [if_pos c2] at h; exact absurd h c2
   ·rw [if_neg c2] at h ⊢;by_cases c3 : (sub (cP p j n)).1 ≠ 0
    ·rw [if_pos c3] at h; exact absurd h c3
    ·rw [if_neg c3] at h ⊢;by_cases c4 : fL (aJ (cd a.2 q) ++ (sub (cP p j n)).2) ≠ 0
     ·rw [if_pos c4] at h; exact absurd h c4
     ·rw [if_neg c4];exact (vV ((vh ha hq hT Dq Dq).mono (show _ ≤ S' - 8192 by omega)) ((hb Dq).mono Dq) Dq Dq).mono Dq
theorem wE {p : List TR} {j n : Nat} (h : ∀ t ∈ p, nG j t < n) : cP p j n = [] := List.filter_eq_nil_iff.2 fun t ht => by
 have := h t ht;simp only [decide_eq_true_eq];omega
theorem iI {p : List TR} {j n : Nat} : ∀ t ∈ cP p j n, t ∈ p := fun t ht => (List.mem_filter.1 ht).1
theorem kU {q p : List TR} {sub : List TR → Int × List TR} {j D : Nat} (h : ∀ t ∈ p, nG j t ≤ D) : ∀ i, i + D ≤ 127 → dH q sub p j i = (0, [])
 | 0, _ => rfl
 | i + 1, hi => by
  show g8 q sub p j (127 - i) (dH q sub p j i) = _;rw [kU h i Dq, show g8 q sub p j (127 - i) (0, []) = (0, []) by
   unfold g8;rw [if_neg Dr, if_pos ⟨rfl, by rw [wE fun t ht => by have := h t ht; omega]; rfl⟩]]
def jr (c : Nat) : List Nat → Nat → Nat
 | [], k => k
 | d :: ds, k => jr c ds k + d * c + 8192
theorem mW (c k : Nat) : jr c [] k = k := rfl
theorem kB (c d k : Nat) (ds : List Nat) : jr c (d :: ds) k = jr c ds k + d * c + 8192 := rfl
theorem o4 {v : Int} {q p : List TR} {sub : List TR → Int × List TR} {j D K T B c : Nat} (hv : gl v = true) (hq : kn v K q) (hT : q.length ≤ T) (hD : ∀ t ∈ p, nG j t ≤ D) (hD2 : D ≤ 127) (hb : ∀ n, (sub (cP p j n)).1 = 0 → kn v B (sub (cP p j n)).2) (hc : K + 4096 * T + 8192 ≤ c) (hS : B + D * c + 8192 ≤ 900000) :
  ∀ i, i ≤ 128 → (dH q sub p j i).1 = 0 → kn v (B + (i + D - 128) * c + 8192) (dH q sub p j i).2
 | 0, _, _ => kn.nil hv
 | i + 1, hi, h0 => by
  by_cases h1 : i + 1 + D ≤ 127
  ·rw [kU hD _ h1];exact kn.nil hv
  ·have h2 : (dH q sub p j i).1 = 0 := by
    refine Classical.byContradiction fun c => ?_;rw [qj c (Nat.le_succ i)] at h0;exact c h0
   have hle : (i + 1 + D - 128) * c ≤ D * c := Nat.mul_le_mul_right _ Dq;by_cases h3 : i + D ≤ 127
   ·have h4 := kU (q := q) (sub := sub) hD i h3;show kn v _ (g8 q sub p j (127 - i) (dH q sub p j i)).2;have h5 : (g8 q sub p j (127 - i) (dH q sub p j i)).1 = 0 := h0;rw [h4] at h5 ⊢;rw [show i + 1 + D - 128 = 0 by omega, Nat.zero_mul];unfold g8 at h5 ⊢;rw [if_neg Dr] at h5 ⊢;by_cases c1 : ((0 : Int), ([] : List TR)).2.length = 0 ∧ (cP p j (127 - i)).length = 0
    ·rw [if_pos c1]; exact kn.nil hv
    ·rw [if_neg c1] at h5 ⊢;by_cases c2 : eT [] q ≠ 0
     ·rw [if_pos c2] at h5; exact absurd h5 c2
     ·rw [if_neg c2] at h5 ⊢;by_cases c3 : (sub (cP p j (127 - i))).1 ≠ 0
      ·rw [if_pos c3] at h5; exact absurd h5 c3
      ·rw [if_neg c3] at h5 ⊢;by_cases c4 : fL (aJ (cd [] q) ++ (sub (cP p j (127 - i))).2) ≠ 0
       ·rw [if_pos c4] at h5; exact absurd h5 c4
       ·rw [if_neg c4];have hn : kn v B (aJ (cd [] q)) := kn.nil hv;exact (vV hn (hb _ Dq) Dq Dq).mono Dq
   ·have ih := o4 hv hq hT hD hD2 hb hc hS i Dq h2;have e1 : (i + 1 + D - 128) * c = (i + D - 128) * c + c := by rw [show i + 1 + D - 128 = (i + D - 128) + 1 by omega, Nat.succ_mul]
    rw [e1] at hle ⊢;generalize (i + D - 128) * c = y at *;generalize D * c = z at *;exact yX ih hq hT (hb _) Dq Dq Dq h0
theorem we {v : Int} {k : Nat} {x : NR} (hv : gl v = true) (hx : Sz k x.d) (hk : k ≤ 900000) : kn v (k + 1) (aJ [⟨gg v, x⟩]) := by
 have h1 := gE.1 hv;have h2 := kL h1.1;refine ⟨fK hv (Nat.le_trans (eR _) (show 1 ≤ 4096 by decide)) fun t ht => ?_, fun t ht => ?_, fun t ht => ?_⟩
 ·rw [List.mem_singleton.1 ht];unfold dY;rw [Bool.and_eq_true, decide_eq_true_eq];exact ⟨p8 v, h2⟩
 ·have h1 : Sz (k + 1) t.c.d := jZ (k := k) (l := [⟨gg v, x⟩]) (fun s hs => by rw [List.mem_singleton.1 hs]; exact hx) t ht;exact ⟨by rw [(eC _).nf t ht]; exact h1.ok Dq, h1⟩
 ·obtain ⟨s, hs, e⟩ := hZ t ht;rw [← e, List.mem_singleton.1 hs];show (gg v).size ≤ 100000;omega
theorem Ay {v : Int} {K T c0 : Nat} (hv : gl v = true) (hc0 : K + 4096 * T + 8192 ≤ c0) : ∀ (qs : List (List TR)) (j : Nat) (p : List TR) (ds : List Nat) (k : Nat), (∀ q ∈ qs, kn v K q ∧ q.length ≤ T) → gx k p → ds.length = qs.length → (∀ (i d : Nat), ds[i]? = some d → d ≤ 127 ∧ ∀ t ∈ p, nG (j + i) t ≤ d) → jr c0 ds (k + 1) ≤ 900000 →
  (iH v qs j p).1 = 0 → kn v (jr c0 ds (k + 1)) (iH v qs j p).2 := by
 intro qs
 induction qs with
 | nil =>
  intro j p ds k _ hok hds _ hB _;obtain rfl : ds = [] := List.length_eq_zero_iff.1 hds;rw [mW] at hB ⊢;refine we hv ?_ Dq
  cases p with
  | nil => show Sz k (nR 0).d; rw [dR]; exact Sz.zero k
  | cons t p => exact (hok t List.mem_cons_self).2
 | cons q qs ih =>
  intro j p ds k hq hok hds hD hB h0
  cases ds with
  | nil => cases hds
  | cons d ds =>
   have hd := hD 0 d rfl;rw [kB] at hB ⊢;have hB1 : jr c0 ds (k + 1) ≤ 900000 := Dq;have hsub : ∀ n, (iH v qs (j + 1) (cP p j n)).1 = 0 → kn v (jr c0 ds (k + 1)) (iH v qs (j + 1) (cP p j n)).2 := fun n hn => by
    refine ih (j + 1) (cP p j n) ds k (fun r hr => hq r (List.mem_cons_of_mem _ hr)) (fun t ht => hok t (iI t ht)) (by simpa using hds) (fun i e he => ?_) hB1 hn;have h2 := hD (i + 1) e (by simpa using he);refine ⟨h2.1, fun t ht => ?_⟩;have h3 := h2.2 t (iI t ht);rwa [show j + 1 + i = j + (i + 1) by omega]
   have h1 := o4 (sub := iH v qs (j + 1)) (p := p) (j := j) hv (hq q List.mem_cons_self).1 (hq q List.mem_cons_self).2 hd.2 hd.1 hsub hc0 hB 128 (Nat.le_refl _) h0;rw [show 128 + d - 128 = d by omega] at h1;exact h1
end Go.Proofs.YteeckcbbnegmcaaGreatDoor
/- Terms that rise: those of one power of a variable lie side by side. Plain, no program in sight. -/
namespace Go.Proofs.YteeckcbbnegmcaaGreatDoor
open Go.RowKit
theorem sy : ∀ {a b : List UInt8} {j : Nat} {x y : UInt8}, Op.bytesLess a b = true → a.take j = b.take j → a[j]? = some x → b[j]? = some y → x.toNat ≤ y.toNat
 | [], _, j, x, y, _, _, hx, _ => by simp at hx
 | _, [], j, x, y, _, _, _, hy => by simp at hy
 | c :: a, d :: b, 0, x, y, h, _, hx, hy => by
  simp only [List.getElem?_cons_zero, Option.some.injEq] at hx hy;subst hx; subst hy;simp only [Op.bytesLess, Bool.or_eq_true, Bool.and_eq_true, decide_eq_true_eq, beq_iff_eq] at h
  rcases h with h | ⟨h, _⟩
  ·exact Nat.le_of_lt (UInt8.lt_iff_toNat_lt.1 h)
  ·rw [h]; exact Nat.le_refl _
 | c :: a, d :: b, j + 1, x, y, h, ht, hx, hy => by
  simp only [List.take_succ_cons, List.cons.injEq] at ht;obtain ⟨rfl, ht⟩ := ht;simp only [List.getElem?_cons_succ] at hx hy;refine sy (a := a) (b := b) ?_ ht hx hy;simpa [Op.bytesLess] using h
structure yJ (v : Int) (j : Nat) (p : List TR) : Prop where
 po : pN p
 may : ∀ t ∈ p, dY v t = true
 pre : ∀ a ∈ p, ∀ b ∈ p, a.m.data.toList.take j = b.m.data.toList.take j
theorem yJ.size {v : Int} {j : Nat} {p : List TR} (h : yJ v j p) : ∀ t ∈ p, (t.m.data.toList.length : Int) = v := fun t ht => by
 rw [← ca];exact of_decide_eq_true (Bool.and_eq_true_iff.1 (h.may t ht)).2
theorem yJ.get {v : Int} {j : Nat} {p : List TR} (h : yJ v j p) (hj : (j : Int) < v) {t : TR} (ht : t ∈ p) : ∃ e : UInt8, t.m.data.toList[j]? = some e ∧ nG j t = e.toNat ∧ e.toNat < 128 := by
 obtain ⟨e, he⟩ := aG (l := t.m.data.toList) (k := j) (by have := h.size t ht; omega);exact ⟨e, he, Bl he, gO (Bool.and_eq_true_iff.1 (h.may t ht)).1 he⟩
theorem yJ.mono {v : Int} {j : Nat} {p : List TR} (h : yJ v j p) (hj : (j : Int) < v) : p.Pairwise fun a b => nG j a ≤ nG j b := by
 refine List.Pairwise.imp_of_mem (fun {a b} ha hb hl => ?_) h.po;obtain ⟨x, hx, ex, _⟩ := h.get hj ha;obtain ⟨y, hy, ey, _⟩ := h.get hj hb;rw [ex, ey];exact sy hl (h.pre a ha b hb) hx hy
theorem yJ.with {v : Int} {j n : Nat} {p : List TR} (h : yJ v j p) (hj : (j : Int) < v) : yJ v (j + 1) (cP p j n) := by
 refine ⟨h.po.filter _, fun t ht => h.may t (iI t ht), fun a ha b hb => ?_⟩;obtain ⟨ha1, ha2⟩ := List.mem_filter.1 ha;obtain ⟨hb1, hb2⟩ := List.mem_filter.1 hb;obtain ⟨x, hx, ex, _⟩ := h.get hj ha1;obtain ⟨y, hy, ey, _⟩ := h.get hj hb1;have exy : x = y := UInt8.toNat_inj.1 (by rw [← ex, ← ey, of_decide_eq_true ha2, of_decide_eq_true hb2]);rw [aT hx, aT hy, h.pre a ha1 b hb1, exy]
theorem yS {α : Type} {p : List α} {fr en : Nat} (h : fr ≤ en) : p.drop fr = (p.drop fr).take (en - fr) ++ p.drop en := by
 have : p.drop en = (p.drop fr).drop (en - fr) := by rw [List.drop_drop]; congr 1; omega
 rw [this, List.take_append_drop]
theorem tB {p : List TR} {j n fr en : Nat} (hfe : fr ≤ en) (h1 : ∀ t ∈ p.take fr, nG j t < n) (h2 : ∀ t ∈ (p.drop fr).take (en - fr), nG j t = n) (h3 : ∀ t ∈ p.drop en, n < nG j t) : cP p j n = (p.drop fr).take (en - fr) := by
 have e : p = p.take fr ++ ((p.drop fr).take (en - fr) ++ p.drop en) := by
  have : p.drop en = (p.drop fr).drop (en - fr) := by rw [List.drop_drop]; congr 1; omega
  rw [this, List.take_append_drop, List.take_append_drop]
 unfold cP
 conv => lhs; rw [e]
 rw [List.filter_append, List.filter_append, List.filter_eq_nil_iff.2, List.filter_eq_self.2, List.filter_eq_nil_iff.2, List.nil_append, List.append_nil]
 ·intro t ht;have := h3 t ht;simp only [decide_eq_true_eq];omega
 ·intro t ht;have := h2 t ht;simpa using this
 ·intro t ht;have := h1 t ht;simp only [decide_eq_true_eq];omega
theorem wA {p : List TR} {j fr n : Nat} {x : TR} (h : p.Pairwise fun a b => nG j a ≤ nG j b) (hx : p[fr]? = some x) (hn : nG j x < n) : ∀ t ∈ p.take (fr + 1), nG j t < n := fun t ht => by
 rw [aT hx] at ht
 rcases List.mem_append.1 ht with ht | ht
 ·have e : p = p.take fr ++ x :: p.drop (fr + 1) := by rw [← kd hx, List.take_append_drop]
  rw [e, List.pairwise_append] at h;have := h.2.2 t ht x List.mem_cons_self;omega
 ·obtain rfl := List.mem_singleton.1 ht;exact hn
end Go.Proofs.YteeckcbbnegmcaaGreatDoor
/- The walks through calc.has and calc.Derive. -/
namespace Go.Proofs.YteeckcbbnegmcaaGreatDoor
open Go.RowKit
def iG (p : PX) (i : Int) : Int := if p.e = 0 then (if i < 0 ∨ p.v ≤ i then 1 else 0) else p.e
theorem p7 (p : PX) (i : Int) (k : Nat) (w : World) (hT : gK w) (hp : p.at_ w) (lp : p.ja k) :
  Calls Tryz.prog 71 #[.agg #[.int .i64 p.v, .slice p.A p.n p.c], .int .i64 i] w fun r w' => r = .returned (.int .i64 (iG p i)) ∧ Below w.heap.size w w' := by
 have hh := Hp.start w;have hck := fun w1 hT1 hb => l0 p k w1 hT1 (hp.ext hb) lp;unfold iG;by_cases h0 : p.e = 0
 ·rw [if_pos h0];rw [h0] at hck;by_cases h1 : i < 0
  ·rw [if_pos (.inl h1)];refine aj (N := 19) (l := [.agg #[.int .i64 p.v, .slice p.A p.n p.c], .int .i64 i]) Tryz.func71 rfl rfl (by simp) ?_;refine sr ?_;refine dp hh [_,_] ?_;intro b2 w2 hh;refine aI (aa (ah (sr ?_)));refine cU hh 0 [_,_] ?_;refine bB hh (hck _ (hT.hp hh) hh.below) rfl ?_;intro w7 hh;refine aI (aa (sr (mI ?_)));refine cz (aa (cF (ak (ai (ah (sr (mI ?_)))))));refine a3 (mB ?_);first | refine gS ?_ | (refine gT ?_; refine mI ?_) | refine gV ?_
   first | refine gS ?_ | (refine gT ?_; refine bG ?_) | refine gV ?_
   first | refine gS ?_ | (refine gT ?_; refine bI hh 0 ?_) | refine gV ?_
   first | refine gS ?_ | (refine gT ?_; refine dE ?_) | refine gV ?_
   first | refine cW ?_ | refine cX ?_
   refine aa (cT (sr (aI (aa (al (aH ?_))))));refine cA ?_;exact ⟨rfl, hh.below⟩
  ·by_cases h2 : p.v ≤ i
   ·rw [if_pos (.inr h2)];refine aj (N := 19) (l := [.agg #[.int .i64 p.v, .slice p.A p.n p.c], .int .i64 i]) Tryz.func71 rfl rfl (by simp) ?_;refine sr ?_;refine dp hh [_,_] ?_;intro b2 w2 hh;refine aI (aa (ah (sr ?_)));refine cU hh 0 [_,_] ?_;refine bB hh (hck _ (hT.hp hh) hh.below) rfl ?_;intro w7 hh;refine aI (aa (sr (mI ?_)));refine cz (aa (cF (ak (ai (ah (sr (mI ?_)))))));refine a3 (mB ?_);first | refine gS ?_ | (refine gT ?_; refine mI ?_) | refine gV ?_
    first | refine gS ?_ | (refine gT ?_; refine bG ?_) | refine gV ?_
    first | refine gS ?_ | (refine gT ?_; refine bI hh 0 ?_) | refine gV ?_
    first | refine gS ?_ | (refine gT ?_; refine dE ?_) | refine gV ?_
    first | refine cW ?_ | refine cX ?_
    refine aa (cT (sr (aI (aa (al (aH ?_))))));refine cA ?_;exact ⟨rfl, hh.below⟩
   ·rw [if_neg Dq];refine aj (N := 19) (l := [.agg #[.int .i64 p.v, .slice p.A p.n p.c], .int .i64 i]) Tryz.func71 rfl rfl (by simp) ?_;refine sr ?_;refine dp hh [_,_] ?_;intro b2 w2 hh;refine aI (aa (ah (sr ?_)));refine cU hh 0 [_,_] ?_;refine bB hh (hck _ (hT.hp hh) hh.below) rfl ?_;intro w7 hh;refine aI (aa (sr (mI ?_)));refine cz (aa (cF (ak (ai (ah (sr (mI ?_)))))));refine a3 (mB ?_);first | refine gS ?_ | (refine gT ?_; refine mI ?_) | refine gV ?_
    first | refine gS ?_ | (refine gT ?_; refine bG ?_) | refine gV ?_
    first | refine gS ?_ | (refine gT ?_; refine bI hh 0 ?_) | refine gV ?_
    first | refine gS ?_ | (refine gT ?_; refine dE ?_) | refine gV ?_
    first | refine cW ?_ | refine cX ?_
    refine aa (cF (ak (ai (sr (aI (aa (al ?_)))))));refine cA ?_;exact ⟨rfl, hh.below⟩
 ·rw [if_neg h0];refine aj (N := 19) (l := [.agg #[.int .i64 p.v, .slice p.A p.n p.c], .int .i64 i]) Tryz.func71 rfl rfl (by simp) ?_;refine sr ?_;refine dp hh [_,_] ?_;intro b2 w2 hh;refine aI (aa (ah (sr ?_)));refine cU hh 0 [_,_] ?_;refine bB hh (hck _ (hT.hp hh) hh.below) rfl ?_;intro w7 hh;refine aI (aa (sr (mI ?_)));refine cz (aa (cT (sr (mI (aI (aa (al (aH ?_))))))));refine cA ?_;exact ⟨rfl, hh.below⟩
theorem Hp.zW {w0 w : World} {H : List HE} (h : Hp w0 H w) {i b n : Nat} {t : TypeId} {l : List UInt8} {ex : List Value} {fz : Nat × Nat} (hi : H[i]? = some (.blk b t (jj l ++ ex) fz)) (hl : l.length = n) : Sl w (some ⟨b, 0, none⟩) n 1 (jj l) := by
 refine ⟨by rw [gk, hl, Nat.mul_one], fun _ => ⟨_, rfl, fun j u hu => ?_⟩⟩;refine h.uo hi j u ?_;rw [List.getElem?_append_left (List.getElem?_eq_some_iff.1 hu).1];exact hu
def kD (i : Nat) (t : TR) : Option TR := match t.m.data.toList[i]? with | some e => if e.toNat = 0 then none else some ⟨str (t.m.data.toList.set i (e - 1)), nR (t.c.d * ((e.toNat : Int) : Dyadic))⟩ | none => none
def fc (i : Nat) (l : List TR) : List TR := l.filterMap (kD i)
theorem xi {i j : Nat} {l : List TR} {x : TR} (h : l[j]? = some x) : fc i (l.take (j + 1)) = fc i (l.take j) ++ (kD i x).toList := by
 unfold fc;rw [aT h, List.filterMap_append];congr 1
theorem lr {p : PX} {i : Int} (h : iG p i = 0) : p.e = 0 ∧ 0 ≤ i ∧ i < p.v := by
 unfold iG at h;by_cases h0 : p.e = 0
 ·rw [if_pos h0] at h;by_cases h1 : i < 0 ∨ p.v ≤ i
  ·rw [if_pos h1] at h; cases h
  ·exact ⟨h0, Dq, Dq⟩
 ·rw [if_neg h0] at h; exact absurd h h0
theorem z4 {l : List UInt8} {ex : List Value} {i : Nat} {e : UInt8} (h : i < l.length) (he : e.toNat ≠ 0) : cg (jj l ++ ex) (i * 1) [.int .u8 (((e.toNat + 256 - 1) % 256 : Nat) : Int)] = jj (l.set i (e - 1)) ++ ex := by
 have hl : i < (jj l).length := by rw [gk]; exact h
 have h1 : (1 : UInt8) ≤ e := by rw [UInt8.le_iff_toNat_le]; show 1 ≤ e.toNat; omega
 have h2 : e.toNat < 256 := e.toNat_lt;have h3 : (e - 1).toNat = (e.toNat + 256 - 1) % 256 := by
  rw [UInt8.toNat_sub_of_le _ _ h1];show e.toNat - 1 = _;omega
 rw [Nat.mul_one, bY (by rw [List.length_append]; omega), List.set_append_left _ _ hl];congr 1;unfold jj;rw [List.map_set, h3]
theorem gD {l : List UInt8} : dq l = true ↔ ∀ c ∈ l, c.toNat < 128 := by
 unfold dq;rw [List.all_eq_true];exact ⟨fun h c hc => of_decide_eq_true (h c hc), fun h c hc => decide_eq_true (h c hc)⟩
theorem mK {i : Nat} {t s : TR} (h : kD i t = some s) : ∃ e, t.m.data.toList[i]? = some e ∧ e.toNat ≠ 0 ∧ s = ⟨str (t.m.data.toList.set i (e - 1)), nR (t.c.d * ((e.toNat : Int) : Dyadic))⟩ := by
 unfold kD at h;split at h
 ·rename_i e he;by_cases h0 : e.toNat = 0
  ·rw [if_pos h0] at h; cases h
  ·rw [if_neg h0] at h;exact ⟨e, he, h0, (Option.some.inj h).symm⟩
 ·cases h
theorem yZ {v : Int} {i : Nat} {t s : TR} (h : kD i t = some s) (ht : dY v t = true) : dY v s = true := by
 obtain ⟨e, he, h0, rfl⟩ := mK h;unfold dY at ht ⊢;rw [Bool.and_eq_true, decide_eq_true_eq] at ht;rw [Bool.and_eq_true, decide_eq_true_eq];refine ⟨?_, ?_⟩
 ·show dq (str _).data.toList = true;rw [bC, gD];intro c hc
  rcases List.mem_or_eq_of_mem_set hc with hc | rfl
  ·exact gD.1 ht.1 c hc
  ·have h1 : (1 : UInt8) ≤ e := by rw [UInt8.le_iff_toNat_le]; show 1 ≤ e.toNat; omega
   rw [UInt8.toNat_sub_of_le _ _ h1];have := gD.1 ht.1 e (List.mem_of_getElem? he);omega
 ·show ((str _).size : Int) = v;rw [eh, List.length_set, ← ca];exact ht.2
theorem vJ {i k : Nat} {t s : TR} (h : kD i t = some s) (ht : Sz k t.c.d) (hk : k ≤ 1000000) : s.c.ok ∧ Sz (k + 24) s.c.d ∧ s.m.size = t.m.size := by
 obtain ⟨e, he, h0, rfl⟩ := mK h;have he8 : e.toNat < 256 := e.toNat_lt;have zn : Sz 24 ((e.toNat : Int) : Dyadic) := At (m := (e.toNat : Int)) (e := 0) Dq Dr Dr;have hs := ht.mul zn;exact ⟨hs.ok Dq, by show Sz _ (nR _).d; rw [dR]; exact hs, by show (str _).size = _; rw [eh, List.length_set, ← ca]⟩
theorem vM {v : Int} {ts : List TR} {i k : Nat} (h : gJ v ts = 0) (ho : gx k ts) (hz : ∀ t ∈ ts, t.m.size ≤ 100000) (hk : k ≤ 100000) : jm v (fc i ts) = 0 ∧ gx (k + 24) (fc i ts) ∧ ∀ t ∈ fc i ts, t.m.size ≤ 100000 := by
 obtain ⟨h1, h2, h3, _⟩ := dk h;have hl : (fc i ts).length ≤ 4096 := Nat.le_trans (List.length_filterMap_le _ _) h2;have hm : ∀ s ∈ fc i ts, ∃ t ∈ ts, kD i t = some s := fun s hs => List.mem_filterMap.1 hs;refine ⟨?_, fun s hs => ?_, fun s hs => ?_⟩
 ·unfold jm;rw [if_neg, if_neg Dq]
  ·unfold fL;have := eR (fc i ts);rw [if_neg Dq]
  ·rintro (h5 | h5)
   ·rw [h1] at h5; cases h5
   ·obtain ⟨s, hs, h6⟩ := List.any_eq_true.1 h5;obtain ⟨t, ht, h7⟩ := hm s hs;rw [yZ h7 (h3 t ht)] at h6
    cases h6
 ·obtain ⟨t, ht, h7⟩ := hm s hs;have := vJ h7 (ho t ht).2 Dq;exact ⟨this.1, this.2.1⟩
 ·obtain ⟨t, ht, h7⟩ := hm s hs;rw [(vJ h7 (ho t ht).2 Dq).2.2];exact hz t ht
theorem dn (p : PX) (which : Int) (k : Nat) (w : World) (hT : gK w) (hp : p.at_ w) (lp : p.ja k) (hk : k ≤ 100000) :
  Calls Tryz.prog 14 #[.agg #[.int .i64 p.v, .slice p.A p.n p.c], .int .i64 which] w fun r w' => ∃ g : PX, dg (iG p which) p.v (aJ (fc which.toNat p.ts)) g ∧ r = .returned (.tuple #[.agg #[.int .i64 g.v, .slice g.A g.n g.c], .int .i64 (iG p which)]) ∧ Hp w [g.row] w' := by
 have hh := Hp.start w;have hck := fun w1 hT1 hb => p7 p which k w1 hT1 (hp.ext hb) lp;by_cases h0 : iG p which = 0
 ·obtain ⟨hpe, hi0, hiv⟩ := lr h0;rw [h0] at hck ⊢;obtain ⟨hf, h4, hmy, _⟩ := dk hpe;replace hf := gE.1 hf;obtain ⟨pv, pA, pn, pc, ts⟩ := p;replace hpl : ts.length = pn := hp.ln;replace hp : Sl w pA pn 4 (aQ TR.cells ts) := hp;have okp : gx k ts := lp.ok;have szp : ∀ t ∈ ts, t.m.size ≤ 100000 := lp.sz;replace hmy : ∀ t ∈ ts, dY pv t = true := hmy;replace h4 : ts.length ≤ 4096 := h4;replace hf : 0 ≤ pv ∧ pv ≤ 12 := hf;replace hiv : which < pv := hiv;obtain ⟨j, rfl⟩ : ∃ j : Nat, which = (j : Int) := ⟨which.toNat, Dq⟩;rw [show ((j : Int)).toNat = j from rfl];show Calls _ _ _ _ fun r w' => ∃ g : PX, dg 0 pv (aJ (fc j ts)) g ∧ r = .returned (.tuple #[.agg #[.int .i64 g.v, .slice g.A g.n g.c], .int .i64 0]) ∧ Hp w [g.row] w';refine aj (N := 64) (l := [.agg #[.int .i64 pv, .slice pA pn pc], .int .i64 j]) Tryz.func14 rfl rfl (by simp) ?_;refine sr ?_;refine dp hh [_,_] ?_;intro b2 w2 hh;refine cj hh ?_;intro b4 w4 hh;refine aI (aa (ah (sr ?_)));refine cU hh 1 [_,_] (mI ?_);refine bB hh (hck _ (hT.hp hh) hh.below) rfl ?_;intro w14 hh;refine aI (aa (sr (mI ?_)));refine cz (aa (cF (ak (ai (sr (aL (aa (ah (sr (bG ?_))))))))));refine bI hh 1 ?_;refine a4 (mI (aa (ao ?_)))
  replace hh := hh.eN 96 4;refine de [7, 9, 10, 11, 22, 23, 24, 25, 26, 27, 28, 29, 30, 31, 32, 33, 34, 35, 36, 37, 38, 39, 40, 41, 42, 43, 44, 45, 46, 47, 48, 49, 50, 51, 52, 53, 54, 55, 56, 57] 7 22
   (fun a v w' => ∃ (i : Nat) (M : List TR) (A : Option Addr) (c : Nat), i ≤ pn ∧ v = .int .i64 i ∧ M = fc j (ts.take i) ∧ a = .slice A M.length c ∧ Hp w [.row A M.length c 96 4 (aQ TR.cells M), .blk b4 24 [.int .i64 0, .slice none 0 0] (0, 0), .blk b2 24 [.int .i64 pv, .slice pA pn pc] (0, 0)] w')
   (fun _ v _ => pn - (intOf v).toNat) ?_ ?_
  ·exact ⟨0, [], none, 0, Nat.zero_le _, rfl, rfl, rfl, hh⟩
  ·clear hh;rintro ρ' a_ v w' ⟨i, M, A, c, hi, rfl, hM, rfl, hh⟩;have hMl : M.length ≤ i := by rw [hM]; exact Nat.le_trans (List.length_filterMap_le _ _) (by rw [List.length_take]; omega)
   by_cases hlt : i < pn
   ·obtain ⟨x, hx⟩ := aG (l := ts) (k := i) Dq;obtain ⟨ad, rfl, hr⟩ := hp.at_ Dq;have hxo := okp x (List.mem_of_getElem? hx);have hmx := Bool.and_eq_true_iff.1 (hmy x (List.mem_of_getElem? hx));have hxz : (x.m.size : Int) = pv := of_decide_eq_true hmx.2;obtain ⟨e, he⟩ := aG (l := x.m.data.toList) (k := j) (by rw [← ca]; omega);have he8 : e.toNat < 256 := e.toNat_lt;have hbl : j < x.m.data.toList.length := (List.getElem?_eq_some_iff.1 he).1;have hdt : kD j x = if e.toNat = 0 then none else some ⟨str (x.m.data.toList.set j (e - 1)), nR (x.c.d * ((e.toNat : Int) : Dyadic))⟩ := by unfold kD; rw [he]
    have hsn := xi (i := j) hx;rw [← hM] at hsn;refine sr ?_;refine a3 (aa (ah (cT (ak (ai (ah (ao (sr ?_))))))));refine aZ (k := i) aF.out aC.size rfl rfl Dq Dq Dr ?_;refine bZ (vs := [_, _, _, _]) aC.out rfl ((hr.ext hh.below).recAt TR.len hx) rfl Dr ?_;refine cj hh ?_;intro b9 w9 hh;refine bD hh 0 [_,_,_,_] ?_;intro ws hh;replace hh : Hp _ (.blk _ _ [_, _, _, _] _ :: _) _ := hh;refine aa (sr (bG ?_));refine bI hh 0 ?_;refine q9 hh aF.out aF.out aF.out rfl Dr ?_;intro g28 c28 x28 w28 hh;have hcl : (jj x.m.data.toList ++ x28)[j]? = some (.int .u8 (e.toNat : Int)) := by rw [List.getElem?_append_left (by rw [gk]; exact hbl)]; unfold jj; rw [List.getElem?_map, he]; rfl
    generalize (((jj x.m.data.toList ++ x28).length, (jj x.m.data.toList ++ x28).length + 1) : Nat × Nat) = fz at hh;by_cases he0 : e.toNat = 0
    ·rw [hdt, if_pos he0] at hsn;refine aL (aa (ah (sr (mL (mI ?_)))));refine bm (k := j) aF.out aC.size rfl rfl Dq Dq Dr ?_;refine bp aC.out rfl (hh.dK (i := 0) rfl (by first | assumption | (simp only [Nat.mul_one]; assumption))) Dr ?_;refine cu (aa (cT (aV (aA (a8 (ai (ar ?_)))))));refine bO (mI (aE (ai ?_)));replace hh := hh.sub (List.Sublist.cons _ (List.Sublist.cons _ (List.Sublist.cons_cons _ (List.Sublist.cons_cons _ (List.Sublist.cons_cons _ List.Sublist.slnil)))));refine ⟨⟨i + 1, M, A, c, Dq, rfl, by rw [hsn]; simp, rfl, hh⟩, by show pn - (i + 1) < pn - i; omega, ?_⟩;exact Du
    ·rw [hdt, if_neg he0] at hsn;refine aL (aa (ah (sr (mL (mI ?_)))));refine bm (k := j) aF.out aC.size rfl rfl Dq Dq Dr ?_;refine bp aC.out rfl (hh.dK (i := 0) rfl (by first | assumption | (simp only [Nat.mul_one]; assumption))) Dr ?_;refine cu (aa (cF (ak (ai (sr (mL (mI ?_)))))));refine bm (k := j) aF.out aC.size rfl rfl Dq Dq Dr ?_;refine bp aC.out rfl (hh.dK (i := 0) rfl (by first | assumption | (simp only [Nat.mul_one]; assumption))) Dr ?_;refine cV aF.out aF.out rfl Dq Dq Dr ?_;refine aI (aa (sr (mL (mI ?_))));refine bm (k := j) aF.out aC.size rfl rfl Dq Dq Dr ?_;refine bp aC.out rfl (hh.dK (i := 0) rfl (by first | assumption | (simp only [Nat.mul_one]; assumption))) Dr ?_;refine q7 (b := 1) rfl rfl Dq Dr ?_;refine bm (k := j) aF.out aC.size rfl rfl Dq Dq Dr ?_;refine oN hh (i := 0) (vs := [_]) rfl rfl (bK rfl) rfl aC.out rfl (by rw [List.length_append, gk]; omega) rfl ?_;intro ws hh;simp only [List.set_cons_zero] at hh;rw [z4 hbl he0] at hh;have hbl2 : (x.m.data.toList.set j (e - 1)).length = x.m.size := by rw [List.length_set, ← ca]
     have zn : Sz 24 ((e.toNat : Int) : Dyadic) := At (m := (e.toNat : Int)) (e := 0) Dq Dr Dr;have hdm := fun A cc w1 hT1 hS1 => gh A 2 cc [x.c, nR ((e.toNat : Int) : Dyadic)] w1 hT1 hS1 (by simpa using ⟨hxo.1, zn.ok Dr⟩) (k + 24) (by simpa [dR] using ⟨hxo.2.mono Dq, zn.mono Dq⟩) Dq Dr;rw [show gM ([x.c, nR ((e.toNat : Int) : Dyadic)].map NR.d) = x.c.d * ((e.toNat : Int) : Dyadic) by show 1 * x.c.d * (nR _).d = _; rw [dR, Dyadic.one_mul]] at hdm;refine aa ?_;refine bg 11 [[(7, none)], [(10, none)], [(46, some 1)], [(9, none)], [(48, some 3)], [(11, none)], [(50, some 5)], [(49, some 4), (51, some 6)], [(52, some 7)], [(47, some 2), (53, some 8)], [(54, some 9)]] [(10, 55), (9, 54), (8, 53), (7, 52), (6, 51), (5, 50), (4, 49), (3, 48), (2, 47), (1, 46), (0, 45)] hh mixed Dt ?_;refine jv ?_;refine jv ?_;refine bj (i := 2) (Is (.string ⟨((x.m.data.toList.set j (e - 1))).toArray⟩)) Is.ext ?_ ?_
     ·intro ρ1 w1 hj hR;exact bW rfl (jE (l := (x.m.data.toList.set j (e - 1))) aF.out aF.out aF.out (show ρ1 46 = Value.slice _ _ _ from hR.1) (hj.hp.zW (i := 0) rfl hbl2)) ⟨Below.refl _ _, rfl⟩
     refine dX ?_;refine fX 1 [_,_,_] ?_;refine fW ?_;refine dC (fun _ hj => me (e.toNat : Int) _ (hT.hp hj.hp) Dq Dq) ?_;refine tF [_,_,_,_,_,_] ?_;refine bj (i := 8) (Is (.agg #[.bool (nR (x.c.d * ((e.toNat : Int) : Dyadic))).neg, .string (nR (x.c.d * ((e.toNat : Int) : Dyadic))).bM, .int .i64 (nR (x.c.d * ((e.toNat : Int) : Dyadic))).e])) Is.ext ?_ ?_
     ·intro ρ1 w1 hj hR;obtain ⟨A52, c52, h52, s52⟩ := hR.1;exact bJ rfl (aW aq.out (ay h52 a0)) (hdm A52 c52 _ (hT.hp hj.hp) s52) (fun _ _ hq => ⟨_, hq.1, hq.2, rfl⟩)
     refine dB [_,_,_,_] ?_;refine tF [_,_,_,_] ?_;refine bq ?_;intro f W hJ hV;have hb_12 := hJ.bl;obtain ⟨v55, v54, v53, v52, v51, v50, v49, v48, v47, v46, v45, _⟩ := hV;obtain ⟨A52, c52, e52, f52⟩ : Rows _ _ _ (f 7) W := v52;obtain ⟨A55, c55, e55, f55⟩ : Rows _ _ _ (f 10) W := v55;replace hh := hJ.hp;refine a6 (bk (ae e55 (ae v54 (ae v53 (ae e52 (ae v51 (ae v50 (ae v49 (ae v48 (ae v47 (ae v46 (ae v45 a5)))))))))))) ?_;dsimp only [cJ];clear e52 e55 hJ;refine ck hh (i := 2) rfl rfl rfl (f55) aF.out aC.out rfl Dr (by first | rfl | exact cw _ | exact bU _ | exact oneCells_i64s _ | exact bL NR.one _) Dq Dq Dr ?_;intro A56 c56 w56 hh;simp only [List.set_cons_zero, List.set_cons_succ] at hh;refine aL (aE (aX (ai (ar ?_))));refine bO (mI (aE (ai ?_)));replace hh := hh.sub (List.Sublist.cons _ (List.Sublist.cons _ (List.Sublist.cons_cons _ (List.Sublist.cons_cons _ (List.Sublist.cons_cons _ List.Sublist.slnil)))));refine ⟨⟨i + 1, M ++ [⟨str (x.m.data.toList.set j (e - 1)), nR (x.c.d * ((e.toNat : Int) : Dyadic))⟩], A56, c56, Dq, rfl, by rw [hsn]; rfl, by rw [List.length_append]; rfl, by rw [List.length_append, cn, iU]; exact hh⟩, by show pn - (i + 1) < pn - i; omega, ?_⟩;exact Du
   ·obtain rfl : i = pn := Dq;rw [List.take_of_length_le Dq] at hM;have hmk : jm pv M = 0 ∧ gx (k + 24) M ∧ ∀ t ∈ M, t.m.size ≤ 100000 := by
     rw [hM];exact vM hpe okp szp hk
    have hmc := fun A c w1 hT1 hS1 => jy pv A M.length c M (k + 24) w1 hT1 hS1 Dq Dq hmk.2.1 hmk.2.2;rw [hmk.1] at hmc;refine sr ?_;refine a3 (aa (ah (cF (aV (aA (aA (a8 (ai (sr (bG ?_))))))))));refine bI hh 2 ?_;refine mL ?_;refine aK (hmc _ _ _ (hT.hp hh) (hh.aD (i := 0) rfl)) aq.out rfl Dr ?_;rintro e_ w61 ⟨g, og, rfl, h3⟩;refine ⟨_, rfl, ?_⟩;replace hh := hh.join h3;simp only [List.cons_append, List.nil_append] at hh;refine da ?_;refine da ?_;refine bD hh 2 [_,_] ?_;intro ws hh;replace hh : Hp _ (_ :: _ :: .blk _ _ [_, _] _ :: _) _ := hh;refine aI (aa (al ?_));refine j0 (aN rfl (aO (vs := [_, _]) aC.out (hh.aw (i := 2) (n := 2) rfl rfl) rfl) (cf (cO rfl) a7)) ?_;rw [hM] at og;exact ⟨g, og, rfl, hh.sub (List.Sublist.cons_cons _ (List.nil_sublist _))⟩
 ·generalize iG p which = e at *;refine aj (N := 64) (l := [.agg #[.int .i64 p.v, .slice p.A p.n p.c], .int .i64 which]) Tryz.func14 rfl rfl (by simp) ?_;refine sr ?_;refine dp hh [_,_] ?_;intro b2 w2 hh;refine cj hh ?_;intro b4 w4 hh;refine aI (aa (ah (sr ?_)));refine cU hh 1 [_,_] (mI ?_);refine bB hh (hck _ (hT.hp hh) hh.below) rfl ?_;intro w14 hh;refine aI (aa (sr (mI ?_)));refine cz (aa (cT (sr ?_)));refine eX [_,_] (mI ?_);refine bD hh 0 [_,_] ?_;intro ws hh;replace hh : Hp _ (.blk _ _ [_, _] _ :: _) _ := hh;refine aI (aa (al (aH ?_)));refine j0 (aN rfl (aO (vs := [_, _]) aC.out (hh.aw (i := 0) (n := 2) rfl rfl) rfl) (cf (cO rfl) a7)) ?_;exact ⟨PX.nil, dg.err h0, rfl, (hh.sub (List.nil_sublist _)).ju⟩
end Go.Proofs.YteeckcbbnegmcaaGreatDoor
/- Where several endings of a loop meet: what holds there, once. Plain, no program in sight. -/
namespace Go.Proofs.YteeckcbbnegmcaaGreatDoor
open Go.RowKit
section
variable {ro : Mode} {P : Program} {N : Nat} {Q : Kq} {ρ : Rf} {w : World}
theorem yL {c : Code} {id : Nat} {next : Rf → World → Prop} (mods : List Nat) (s0 : Nat) (J : Value → World → Prop) (hc : WC ro P N c (mj id (dQ (fun ρ2 w2 => J (ρ2 s0) w2 ∧ gH mods ρ2 ρ) Q)) ρ w)
  (hn : ∀ ρ' v0 w', J v0 w' → next (cx (mask mods ρ' ρ) s0 v0) w') : WC ro P N c (mj id (dQ next Q)) ρ w :=
 hc.mono fun e ρ2 w2 hq => by
  have key : J (ρ2 s0) w2 ∧ gH mods ρ2 ρ → next ρ2 w2 := fun h => by
   have := hn ρ2 (ρ2 s0) w2 h.1;rwa [gU h.2, g7] at this
  cases e with
  | normal => exact key hq
  | exit i =>
   by_cases h : i = id
   ·subst h;simp only [mj, dQ, if_true] at hq ⊢;exact key hq
   ·simp only [mj, dQ, if_neg h] at hq ⊢;exact hq
  | _ => exact hq
theorem qb {a c : Code} (mods : List Nat) (J : World → Prop) (hc : WC ro P N a (dQ (fun ρ2 w2 => J w2 ∧ gH mods ρ2 ρ) Q) ρ w) (hn : ∀ ρ' w', J w' → WC ro P N c Q (mask mods ρ' ρ) w') : WC ro P N (.seq a c) Q ρ w :=
 ah (hc.mono fun e ρ2 w2 hq => by
  cases e with
  | normal =>
   have := hn ρ2 w2 hq.1;rwa [gU hq.2] at this
  | _ => exact hq)
end
end Go.Proofs.YteeckcbbnegmcaaGreatDoor
/- The walk through calc.put. -/
namespace Go.Proofs.YteeckcbbnegmcaaGreatDoor
open Go.RowKit
theorem JJ.zD {w0 w W w1 : World} {H L : List HE} (hJ : JJ w0 H w W) (hs : Hp w0 H w) (hb : w.heap.size ≤ w1.heap.size) (hL : Hp w1 L W) : Hp w0 (L ++ H) W :=
 hs.join (⟨hJ.bl, fun x hx => jP (hL.own x hx) hb, hL.nd⟩ : Hp w L W)
def la (base : Nat) (E v : Int) (ts : List TR) : VP := ij base E v ts
theorem la.ext {base : Nat} {E v : Int} {ts : List TR} (x : Value) (w w' : World) (h : la base E v ts x w) (hb : Below w.heap.size w w') : la base E v ts x w' := ij.ext x w w' h hb
theorem tm (v : Int) : aJ [⟨gg v, nR 0⟩] = [] := by
 unfold aJ js rj
 rfl
theorem uQ (lA : Option Addr) (lc K T c0 : Nat) (v : Int) (ls : List PX) (hv : gl v = true) (hlc : ls.length ≤ lc) (hl12 : ls.length ≤ 12) (hls : ∀ g ∈ ls, kn v K g.ts ∧ g.v = v ∧ g.ja K ∧ g.ts.length ≤ T) (hc0 : K + 4096 * T + 8192 ≤ c0) (hc1 : c0 ≤ 440000) :
  ∀ (qs : List PX) (j : Nat) (p : List TR) (A : Option Addr) (n c : Nat) (ds : List Nat) (k : Nat) (w : World), ls.drop j = qs → j ≤ ls.length → gK w → Sl w lA ls.length 2 (aQ PX.cells ls) → (∀ g ∈ ls, g.at_ w) → Sl w A n 4 (aQ TR.cells p) → n ≤ c → yJ ls.length j p → gx k p → n ≤ 4096 → ds.length = qs.length → (∀ (i d : Nat), ds[i]? = some d → d ≤ 127 ∧ ∀ t ∈ p, nG (j + i) t ≤ d) → jr c0 ds (k + 1) ≤ 440000 →
  Calls Tryz.prog 156 #[.slice A n c, .int .i64 j, .slice lA ls.length lc, .int .i64 v] w fun r w' => ∃ g : PX, dg (iH v (qs.map PX.ts) j p).1 v (iH v (qs.map PX.ts) j p).2 g ∧ r = .returned (.tuple #[.agg #[.int .i64 g.v, .slice g.A g.n g.c], .int .i64 (iH v (qs.map PX.ts) j p).1]) ∧ Hp w [g.row] w' := by
 intro qs;have hK : K ≤ 440000 := Dq;have hco : uw v = 0 := if_neg (by rw [hv]; decide)
 induction qs with
 | nil =>
  intro j p A n c ds k w hq hj hT hL hat hS hnc hsr hok hn hds hD hB;have hh := Hp.start w;have hln := hS.cI TR.len Dr;obtain rfl : j = ls.length := by
   have := congrArg List.length hq;rw [List.length_drop] at this;simp only [List.length_nil] at this;omega
  obtain rfl : ds = [] := List.length_eq_zero_iff.1 hds;rw [mW] at hB;have hcn := fun c hc w1 hT1 => lN v c k w1 hT1 hc Dq;rw [hco] at hcn
  cases p with
  | nil =>
   obtain rfl : n = 0 := by simpa using hln.symm
   show Calls _ _ _ _ fun r w' => ∃ g : PX, dg 0 v (aJ [⟨gg v, nR 0⟩]) g ∧ r = .returned (.tuple #[.agg #[.int .i64 g.v, .slice g.A g.n g.c], .int .i64 0]) ∧ Hp w [g.row] w';refine aj (N := 118) (l := [.slice A 0 c, .int .i64 ls.length, .slice lA ls.length lc, .int .i64 v]) Tryz.func156 rfl rfl (by simp) ?_;refine sr ?_;refine cj hh ?_;intro b8 w8 hh;refine aI (aa (ah (sr (mI (mL (a4 ?_))))));refine cu (aa (cT (ah (sr (mL (a4 ?_))))));refine cu (aa (cT (sr (mI ?_))));refine eX [_,_,_] ?_;refine aK (hcn (nR 0) ⟨(Sz.zero k).ok Dq, by rw [dR]; exact Sz.zero k⟩ _ (hT.hp hh)) aq.out rfl Dr ?_;rintro e_ w25 ⟨g, og, rfl, h3⟩;refine ⟨_, rfl, ?_⟩;replace hh := hh.join h3;simp only [List.cons_append, List.nil_append] at hh;refine da ?_;refine da ?_;refine bD hh 1 [_,_] ?_;intro ws hh;replace hh : Hp _ (_ :: .blk _ _ [_, _] _ :: _) _ := hh;refine aI (aa (al (aH (aH ?_))));refine j0 (aN rfl (aO (vs := [_, _]) aC.out (hh.aw (i := 1) (n := 2) rfl rfl) rfl) (cf (cO rfl) a7)) ?_;exact ⟨g, og, rfl, hh.sub (List.Sublist.cons_cons _ (List.nil_sublist _))⟩
  | cons t p =>
   have hn1 : p.length + 1 = n := by simpa using hln
   have ht := hok t List.mem_cons_self;obtain ⟨ad, rfl, hr⟩ := hS.at_ Dq;show Calls _ _ _ _ fun r w' => ∃ g : PX, dg 0 v (aJ [⟨gg v, t.c⟩]) g ∧ r = .returned (.tuple #[.agg #[.int .i64 g.v, .slice g.A g.n g.c], .int .i64 0]) ∧ Hp w [g.row] w';refine aj (N := 118) (l := [.slice (some ad) n c, .int .i64 ls.length, .slice lA ls.length lc, .int .i64 v]) Tryz.func156 rfl rfl (by simp) ?_;refine sr ?_;refine cj hh ?_;intro b8 w8 hh;refine aI (aa (ah (sr (mI (mL (a4 ?_))))));refine cu (aa (cT (ah (sr (mL (a4 ?_))))));refine cu (aa (cF (ak (ai (sr (mI (mL ?_)))))));refine aZ (k := 0) aF.out aC.size rfl rfl Dq Dq Dr ?_;refine bS dJ.out rfl Dr ?_;refine bZ (vs := [_, _, _]) aC.out rfl (((hr.ext hh.below).recAt TR.len (show (t :: p)[0]? = some t from rfl)).drop 1) rfl Dr ?_;refine aK (hcn t.c ht _ (hT.hp hh)) aq.out rfl Dr ?_;rintro e_ w33 ⟨g, og, rfl, h3⟩;refine ⟨_, rfl, ?_⟩;replace hh := hh.join h3;simp only [List.cons_append, List.nil_append] at hh;refine da ?_;refine da ?_;refine bD hh 1 [_,_] ?_;intro ws hh;replace hh : Hp _ (_ :: .blk _ _ [_, _] _ :: _) _ := hh;refine aI (aa (al (aH ?_)))
   refine j0 (aN rfl (aO (vs := [_, _]) aC.out (hh.aw (i := 1) (n := 2) rfl rfl) rfl) (cf (cO rfl) a7)) ?_;exact ⟨g, og, rfl, hh.sub (List.Sublist.cons_cons _ (List.nil_sublist _))⟩
 | cons q qs ih =>
  intro j p A n c ds k w hq hj hT hL hat hS hnc hsr hok hn hds hD hB;have hh := Hp.start w;have hln := hS.cI TR.len Dr
  cases ds with
  | nil => cases hds
  | cons d ds =>
   have hd := hD 0 d rfl;have hjl : j < ls.length := by
    rcases Nat.lt_or_ge j ls.length with h | h
    ·exact h
    ·rw [List.drop_of_length_le h] at hq; cases hq
   have hqj : ls[j]? = some q := by rw [← List.head?_drop, hq]; rfl
   have hqs : ls.drop (j + 1) = qs := by rw [← List.tail_drop, hq]; rfl
   obtain ⟨hqk, hqv, hql, hqT⟩ := hls q (List.mem_of_getElem? hqj);rw [kB] at hB;have hB1 : jr c0 ds (k + 1) ≤ 440000 := Dq;have hmono := hsr.mono Dq;rw [List.map_cons];show Calls _ _ _ _ fun r w' => ∃ g : PX, dg (dH q.ts (iH v (qs.map PX.ts) (j + 1)) p j 128).1 v (dH q.ts (iH v (qs.map PX.ts) (j + 1)) p j 128).2 g ∧ r = .returned (.tuple #[.agg #[.int .i64 g.v, .slice g.A g.n g.c], .int .i64 (dH q.ts (iH v (qs.map PX.ts) (j + 1)) p j 128).1]) ∧ Hp w [g.row] w';have hDs : ∀ n (i e : Nat), ds[i]? = some e → e ≤ 127 ∧ ∀ t ∈ cP p j n, nG (j + 1 + i) t ≤ e := fun n i e he => by
    have h2 := hD (i + 1) e (by simpa using he);refine ⟨h2.1, fun t ht => ?_⟩;have h3 := h2.2 t (iI t ht);rwa [show j + 1 + i = j + (i + 1) by omega]
   have hrec : ∀ (m fr en : Nat) (w1 : World), gK w1 → Below w.heap.size w w1 → fr ≤ en → en ≤ n → cP p j m = (p.drop fr).take (en - fr) → Calls Tryz.prog 156 #[.slice (if c = fr then A else A.map (·.add (fr * 4))) (en - fr) (c - fr), .int .i64 ((j : Int) + 1), .slice lA ls.length lc, .int .i64 v] w1 fun r w' => ∃ g : PX, dg (iH v (qs.map PX.ts) (j + 1) (cP p j m)).1 v (iH v (qs.map PX.ts) (j + 1) (cP p j m)).2 g ∧ r = .returned (.tuple #[.agg #[.int .i64 g.v, .slice g.A g.n g.c], .int .i64 (iH v (qs.map PX.ts) (j + 1) (cP p j m)).1]) ∧ Hp w1 [g.row] w' := fun m fr en w1 hT1 hb h1 h2 hw => by
    have hcut := (hS.ext hb).cut h1 h2 hnc;rw [iL TR.len, kh TR.len, ← hw] at hcut;exact ih (j + 1) (cP p j m) _ (en - fr) (c - fr) ds k w1 hqs Dq hT1 (hL.ext hb) (fun g hg => (hat g hg).ext hb) hcut Dq (hsr.with Dq) (fun t ht => hok t (iI t ht)) Dq (by simpa using hds) (hDs m) hB1
   have hsub : ∀ m, (iH v (qs.map PX.ts) (j + 1) (cP p j m)).1 = 0 → kn v (jr c0 ds (k + 1)) (iH v (qs.map PX.ts) (j + 1) (cP p j m)).2 := fun m hm => by
    refine Ay hv hc0 (qs.map PX.ts) (j + 1) (cP p j m) ds k (fun r hr => ?_) (fun t ht => hok t (iI t ht)) (by rw [List.length_map]; simpa using hds) (hDs m) Dq hm;obtain ⟨g, hg, rfl⟩ := List.mem_map.1 hr;have := hls g (List.mem_of_mem_drop (by rw [hqs]; exact hg));exact ⟨this.1, this.2.2.2⟩
   generalize iH v (qs.map PX.ts) (j + 1) = sub at hrec hsub ⊢;have hlim := o4 (sub := sub) (p := p) (j := j) hv hqk hqT hd.2 hd.1 hsub hc0 Dq;have hlim2 : ∀ i, i ≤ 128 → (dH q.ts sub p j i).1 = 0 → kn v 440000 (dH q.ts sub p j i).2 := fun i hi h0 => (hlim i hi h0).mono (by
    have : (i + d - 128) * c0 ≤ d * c0 := Nat.mul_le_mul_right _ Dq;omega)
   have hcn := fun w1 hT1 => lN v (nR 0) 0 w1 hT1 ⟨(Sz.zero 0).ok Dr, by rw [dR]; exact Sz.zero 0⟩ Dr;rw [hco, tm] at hcn;refine aj (N := 118) (l := [.slice A n c, .int .i64 j, .slice lA ls.length lc, .int .i64 v]) Tryz.func156 rfl rfl (by simp) ?_;refine sr ?_;refine cj hh ?_;intro b8 w8 hh;refine aI (aa (ah (sr (mI (mL (a4 ?_))))));refine cu (aa (cF (ak (ai (sr (mI ?_))))));refine eX [_,_,_] ?_;refine aK (hcn _ (hT.hp hh)) aq.out rfl Dr ?_;rintro e_ w39 ⟨g, og, rfl, h3⟩;refine ⟨_, rfl, ?_⟩;replace hh := hh.join h3;simp only [List.cons_append, List.nil_append] at hh;refine mT ?_;refine da ?_;refine da ?_;refine cj hh ?_;intro b10 w10 hh;refine bD hh 0 [_,_] ?_;intro ws hh;replace hh : Hp _ (.blk _ _ [_, _] _ :: _) _ := hh;refine aI (aa (sr (mL (a4 (aI (aa (ah (sr (aI (aa (ao ?_)))))))))));refine tA [11, 12, 13, 14, 15, 44, 45, 46, 47, 48, 49, 50, 51, 52, 53, 54, 55, 56, 57, 58, 59, 60, 61, 62, 63, 64, 65, 66, 67, 68, 69, 70, 71, 72, 73, 74, 75, 76, 77, 78, 79, 80, 81, 82, 83, 84, 85, 86, 87, 88, 89, 90, 91, 92, 93, 94, 95, 96, 97, 98, 99, 100, 101, 102, 103, 104, 105, 106, 107, 108, 109, 110, 111, 112] 11 12 13
    (fun e en nv w' => ∃ (i en_ : Nat) (e_ ov : Int) (oA : Option Addr) (on oc : Nat) (os : List TR), i ≤ 128 ∧ nv = .int .i64 (127 - (i : Int)) ∧ en = .int .i64 en_ ∧ e = .int .i64 e_ ∧ e_ = (dH q.ts sub p j i).1 ∧ en_ ≤ n ∧ (e_ = 0 → ov = v ∧ os = (dH q.ts sub p j i).2 ∧ (∀ t ∈ p.take en_, nG j t < 128 - i) ∧ (∀ t ∈ p.drop en_, 128 - i ≤ nG j t)) ∧ Hp w [.blk b10 24 [.int .i64 ov, .slice oA on oc] (0, 0), .row oA on oc 96 4 (aQ TR.cells os), .blk b8 24 [.int .i64 0, .slice none 0 0] (0, 0)] w')
    (fun _ _ nv _ => (intOf nv + 1).toNat) ?_ ?_
   ·refine ⟨0, n, 0, g.v, g.A, g.n, g.c, g.ts, Nat.zero_le _, rfl, rfl, rfl, rfl, Nat.le_refl _, fun _ => ⟨og.v, og.ts, fun t ht => ?_, fun t ht => ?_⟩, hh⟩
    ·obtain ⟨x, _, hx, h8⟩ := hsr.get Dq (List.mem_of_mem_take ht);rw [hx];exact h8
    ·rw [List.drop_of_length_le Dq] at ht
     cases ht
   ·clear hh og h3;rintro ρ' e_ en_ nv_ w' ⟨i, en, e, ov, oA, on, oc, os, hi, rfl, rfl, rfl, he, hen, hok0, hh⟩;by_cases hcn : i < 128 ∧ e = 0
    ·obtain ⟨hi8, rfl⟩ := hcn;obtain ⟨rfl, rfl, hlo, hhi⟩ := hok0 rfl;clear hok0;obtain ⟨m, hm⟩ : ∃ m, m = 127 - i := ⟨_, rfl⟩;rw [show (127 - (i : Int)) = (m : Int) by omega];refine ah (sr (mI ?_));refine dE (mB ?_);first | refine gS ?_ | (refine gT ?_; refine mI ?_) | refine gV ?_
     first | refine gS ?_ | (refine gT ?_; refine cu ?_) | refine gV ?_
     first | refine cW ?_ | refine cX ?_
     refine aa (cT (ak (ai (ah (ao (sr (mI (aI (aa (ah (ao ?_)))))))))));refine yL [14, 53, 54, 55, 56, 57, 58, 59, 60, 61, 62, 63, 64, 65, 66, 67, 68, 69] 14
      (fun f w' => ∃ fr : Nat, fr ≤ en ∧ f = .int .i64 fr ∧ cP p j m = (p.drop fr).take (en - fr) ∧ (∀ t ∈ p.take fr, nG j t < m) ∧ Hp w [.blk b10 24 [.int .i64 ov, .slice oA on oc] (0, 0), .row oA on oc 96 4 (aQ TR.cells (dH q.ts sub p j i).2), .blk b8 24 [.int .i64 0, .slice none 0 0] (0, 0)] w') ?_ ?_
     ·refine bF [14, 53, 54, 55, 56, 57, 58, 59, 60, 61, 62, 63, 64, 65, 66, 67, 68, 69] 14
       (fun f w' => ∃ fr : Nat, fr ≤ en ∧ f = .int .i64 fr ∧ (∀ t ∈ (p.drop fr).take (en - fr), nG j t = m) ∧ Hp w [.blk b10 24 [.int .i64 ov, .slice oA on oc] (0, 0), .row oA on oc 96 4 (aQ TR.cells (dH q.ts sub p j i).2), .blk b8 24 [.int .i64 0, .slice none 0 0] (0, 0)] w')
       (fun f _ => (intOf f).toNat) ?_ ?_
      ·exact ⟨en, Nat.le_refl _, rfl, (fun t ht => by rw [Nat.sub_self] at ht; cases ht), hh⟩
      ·clear hh;rintro ρ' f w' ⟨fr, hfr, rfl, hmid, hh⟩;by_cases h0 : 0 < fr
       ·obtain ⟨fr, rfl⟩ : ∃ g, fr = g + 1 := ⟨fr - 1, Dq⟩;obtain ⟨x, hx⟩ := aG (l := p) (k := fr) Dq;obtain ⟨ad, rfl, hr⟩ := hS.at_ Dq;obtain ⟨e, hex, hxe, h8⟩ := hsr.get Dq (List.mem_of_getElem? hx);by_cases hem : e.toNat = m
        ·refine ah (sr (mI ?_));refine ct (mB ?_);first | refine gS ?_ | (refine gT ?_; refine mL ?_) | refine gV ?_
         first | refine gS ?_ | (refine gT ?_; refine mI ?_) | refine gV ?_
         first | refine gS ?_ | (refine gT ?_; refine ek ?_) | refine gV ?_
         first | refine gS ?_ | (refine gT ?_; refine aZ (k := fr) aF.out aC.size rfl rfl Dq Dq Dr ?_) | refine gV ?_
         first | refine gS ?_ | (refine gT ?_; refine bS dJ.out rfl Dr ?_) | refine gV ?_
         refine br rfl rfl ?_;refine bp aC.out rfl (((hr.ext hh.below).recAt TR.len hx).cell (i := 0) rfl) Dr ?_;first | refine gS ?_ | (refine gT ?_; refine mI ?_) | refine gV ?_
         first | refine gS ?_ | (refine gT ?_; refine bu aF.out rfl rfl Dq (by assumption) Dr ?_) | refine gV ?_
         first | refine gS ?_ | (refine gT ?_; refine cV aF.out aF.out rfl Dq Dq Dr ?_) | refine gV ?_
         first | refine gS ?_ | (refine gT ?_; refine mI ?_) | refine gV ?_
         first | refine gS ?_ | (refine gT ?_; refine cu ?_) | refine gV ?_
         first | refine cW ?_ | refine cX ?_
         refine aa (cT (ak (ai (ao (ar (mI ?_))))));refine ek (aI (aE (aX (ai ?_))));refine ⟨⟨fr, Dq, by show Value.int .i64 (((fr + 1 : Nat) : Int) - 1) = _; congr 1; omega, fun t ht => ?_, hh⟩, by show (((fr + 1 : Nat) : Int) - 1).toNat < ((fr + 1 : Nat) : Int).toNat; omega, ?_⟩
         ·rw [kd hx, show en - fr = (en - (fr + 1)) + 1 by omega, List.take_succ_cons] at ht
          rcases List.mem_cons.1 ht with rfl | ht
          ·rw [hxe, hem]
          ·exact hmid t ht
         ·exact Du
        ·have hlt : e.toNat < m := by
          have := hlo x (by rw [show en = (fr + 1) + (en - (fr + 1)) by omega, List.take_add]; exact List.mem_append_left _ (by rw [aT hx]; exact List.mem_append_right _ List.mem_cons_self));omega
         have hall := wA hmono hx (n := m) (by rw [hxe]; exact hlt);refine ah (sr (mI ?_));refine ct (mB ?_);first | refine gS ?_ | (refine gT ?_; refine mL ?_) | refine gV ?_
         first | refine gS ?_ | (refine gT ?_; refine mI ?_) | refine gV ?_
         first | refine gS ?_ | (refine gT ?_; refine ek ?_) | refine gV ?_
         first | refine gS ?_ | (refine gT ?_; refine aZ (k := fr) aF.out aC.size rfl rfl Dq Dq Dr ?_) | refine gV ?_
         first | refine gS ?_ | (refine gT ?_; refine bS dJ.out rfl Dr ?_) | refine gV ?_
         refine br rfl rfl ?_;refine bp aC.out rfl (((hr.ext hh.below).recAt TR.len hx).cell (i := 0) rfl) Dr ?_;first | refine gS ?_ | (refine gT ?_; refine mI ?_) | refine gV ?_
         first | refine gS ?_ | (refine gT ?_; refine bu aF.out rfl rfl Dq (by assumption) Dr ?_) | refine gV ?_
         first | refine gS ?_ | (refine gT ?_; refine cV aF.out aF.out rfl Dq Dq Dr ?_) | refine gV ?_
         first | refine gS ?_ | (refine gT ?_; refine mI ?_) | refine gV ?_
         first | refine gS ?_ | (refine gT ?_; refine cu ?_) | refine gV ?_
         first | refine cW ?_ | refine cX ?_
         refine aa (cF (aV (aA (aA (a8 (ai ?_))))));refine ⟨⟨fr + 1, hfr, rfl, tB hfr hall hmid (fun t ht => by have := hhi t ht; omega), hall, hh⟩, ?_⟩;exact Du
       ·obtain rfl : fr = 0 := Dq;refine ah (sr (mI ?_));refine ct (mB ?_);first | refine gS ?_ | (refine gT ?_; refine mL ?_) | refine gV ?_
        first | refine gS ?_ | (refine gT ?_; refine mI ?_) | refine gV ?_
        first | refine gS ?_ | (refine gT ?_; refine ek ?_) | refine gV ?_
        first | refine gS ?_ | (refine gT ?_; refine fC aF.out aC.size rfl rfl Dq Dq Dr ?_) | refine gV ?_
        first | refine gS ?_ | (refine gT ?_; refine bS dJ.out rfl Dr ?_) | refine gV ?_
        first | (refine cb Dr rfl rfl Dr ?_) | (refine fR Dr rfl rfl ?_)
        first | refine gS ?_ | (refine gT ?_; refine mI ?_) | refine gV ?_
        first | refine gS ?_ | (refine gT ?_; refine bu aF.out rfl rfl Dq (by assumption) Dr ?_) | refine gV ?_
        first | refine gS ?_ | (refine gT ?_; refine cV aF.out aF.out rfl Dq Dq Dr ?_) | refine gV ?_
        first | refine gS ?_ | (refine gT ?_; refine mI ?_) | refine gV ?_
        first | refine gS ?_ | (refine gT ?_; refine cu ?_) | refine gV ?_
        first | refine cW ?_ | refine cX ?_
        refine aa (cF (aV (aA (aA (a8 (ai ?_))))));refine ⟨⟨0, hfr, rfl, tB hfr (fun t ht => by cases ht) hmid (fun t ht => by have := hhi t ht; omega), (fun t ht => by cases ht), hh⟩, ?_⟩;exact Du
     ·skip;clear hh;rintro ρ' f w' ⟨fr, hfr, rfl, hwi, hbl, hh⟩;have hnx : dH q.ts sub p j (i + 1) = g8 q.ts sub p j m (dH q.ts sub p j i) := by rw [uE, hm]
      have hop := hlim2 i Dq he.symm;unfold g8 at hnx;rw [if_neg (by rw [← he]; decide)] at hnx;have hmi : m = 128 - (i + 1) := Dq;have hmi2 : (127 - ((i + 1 : Nat) : Int)) = (m : Int) - 1 := Dq;have hdf : ∀ t ∈ p.drop fr, m ≤ nG j t := fun t ht => by
       rw [yS hfr] at ht
       rcases List.mem_append.1 ht with ht | ht
       ·rw [← hwi] at ht;have := of_decide_eq_true (List.mem_filter.1 ht).2;omega
       ·have := hhi t ht;omega
      have hst : (dH q.ts sub p j i) = (0, (dH q.ts sub p j i).2) := by rw [he]
      generalize (dH q.ts sub p j i).2 = os at *;have hoc : on ≤ oc := hh.gC (i := 1) rfl;have hon : os.length = on := (hh.aD (i := 1) rfl).cI TR.len Dr;have hwl : (cP p j m).length = en - fr := by rw [hwi, List.length_take, List.length_drop]; omega
      by_cases hsk : os.length = 0 ∧ (cP p j m).length = 0
      ·rw [if_pos hsk] at hnx;obtain ⟨h1, h2⟩ := hsk;obtain rfl : on = 0 := Dq;obtain rfl : fr = en := Dq;refine ah (sr (bG ?_));refine bI hh 0 ?_;refine a4 ?_;refine cu (mB ?_);first | refine gS ?_ | (refine gT ?_; refine mI ?_) | refine gV ?_
       first | refine gS ?_ | (refine gT ?_; refine mI ?_) | refine gV ?_
       first | refine gS ?_ | (refine gT ?_; refine cu ?_) | refine gV ?_
       first | refine cW ?_ | refine cX ?_
       refine aa (cT (aV (aA (a8 (ai (ar (mI ?_)))))));refine ek (aI (aE (ai ?_)));refine ⟨⟨i + 1, fr, 0, ov, oA, 0, oc, os, Dq, by rw [hmi2]; rfl, rfl, rfl, by rw [hnx]; exact he, hen, fun _ => ⟨rfl, by rw [hnx, hst], fun t ht => by rw [← hmi]; exact hbl t ht, fun t ht => by rw [← hmi]; exact hdf t ht⟩, hh⟩, by show ((m : Int) - 1 + 1).toNat < ((m : Int) + 1).toNat; omega, ?_⟩;exact Du
      ·rw [if_neg hsk] at hnx;refine qb [70, 71, 72, 73, 74, 75, 76, 77, 78]
        (fun w' => Hp w [.blk b10 24 [.int .i64 ov, .slice oA on oc] (0, 0), .row oA on oc 96 4 (aQ TR.cells os), .blk b8 24 [.int .i64 0, .slice none 0 0] (0, 0)] w') ?_ ?_
       ·by_cases h0 : on = 0
        ·subst h0;have hne : fr ≠ en := fun h => hsk ⟨hon, Dq⟩;refine sr (bG ?_);refine bI hh 0 ?_;refine a4 ?_;refine cu (mB ?_);first | refine gS ?_ | (refine gT ?_; refine mI ?_) | refine gV ?_
         first | refine gS ?_ | (refine gT ?_; refine mI ?_) | refine gV ?_
         first | refine gS ?_ | (refine gT ?_; refine cu ?_) | refine gV ?_
         first | refine cW ?_ | refine cX ?_
         refine aa (cF (ak (ai ?_)));refine ⟨hh, ?_⟩;exact Dv
        ·refine sr (bG ?_);refine bI hh 0 ?_;refine a4 ?_;refine cu (mB ?_);first | refine gS ?_ | (refine gT ?_; refine mI ?_) | refine gV ?_
         first | refine gS ?_ | (refine gT ?_; refine mI ?_) | refine gV ?_
         first | refine gS ?_ | (refine gT ?_; refine cu ?_) | refine gV ?_
         first | refine cW ?_ | refine cX ?_
         refine aa (cF (ak (ai ?_)));refine ⟨hh, ?_⟩;exact Dv
       ·skip;clear hh;rintro ρ' w' hh;obtain ⟨lad, rfl, hlr⟩ := hL.at_ Dq;have hlp : fA [⟨ov, oA, on, oc, os⟩, q] = 0 := lB hop.e (by unfold PX.e; rw [hqv]; exact hqk.e) hqv;have hmu : ∀ (A2 : Option Addr) (w1 : World), gK w1 → Sl w1 A2 2 2 (aQ PX.cells [⟨ov, oA, on, oc, os⟩, q]) → Sl w1 oA on 4 (aQ TR.cells os) → Below w.heap.size w w1 → Calls Tryz.prog 17 #[.slice A2 2 2] w1 fun r w' => ∃ g : PX, dg (eT os q.ts) ov (aJ (cd os q.ts)) g ∧ r = .returned (.tuple #[.agg #[.int .i64 g.v, .slice g.A g.n g.c], .int .i64 (eT os q.ts)]) ∧ Hp w1 [g.row] w' := fun A2 w1 hT1 s1 s2 hb => by
         have h1 := ns A2 2 2 [⟨ov, oA, on, oc, os⟩, q] 440000 505536 w1 hT1 s1 Dr Dr (fun g hg => by
          rcases List.mem_cons.1 hg with rfl | hg
          ·exact s2
          ·rw [List.mem_singleton.1 hg]; exact (hat q (List.mem_of_getElem? hqj)).ext hb) (fun g hg => by
          rcases List.mem_cons.1 hg with rfl | hg
          ·exact ⟨by have := hop.len; show on ≤ 1000000; omega, hoc, hop.ok, hop.sz⟩
          ·rw [List.mem_singleton.1 hg]; exact ⟨hql.n, hql.cap, hql.ok.mono hK, hql.sz⟩) Dr Dr
         unfold lZ at h1;rw [if_pos hlp] at h1;exact h1
        refine sr ?_;refine cj hh ?_;intro b15 w15 hh;refine aa (ah (ah ?_));refine cY [] [9] [0, 0, 0, 6, 14, 31, 63, 127, 255, 255, 511, 2047] 10 [[(10, none)], [(2, none)], [(1, none)], [(81, some 1), (82, some 2)], [(83, some 3)], [(80, some 0), (84, some 4)], [(85, some 5)], [(86, some 6)], [(79, some 7)], [(79, some 7)]] [(9, 88), (8, 87), (7, 79), (6, 86), (5, 85), (4, 84), (3, 83), (2, 82), (1, 81), (0, 80)] hh mixed Dt dI rfl (by repeat (first | exact bX | refine bE ?_ | refine bV ?_)) ?_;refine fX 1 [_,_] ?_;refine jv ?_;refine fW ?_;refine mf (j) ?_;refine wx [_,_] (fun _ hj => (hlr.ext hj.hp.below).recAt PX.len hqj) ?_;refine bj (i := 5) (fe 2 2 (aQ PX.cells [⟨ov, oA, on, oc, os⟩, q])) (fe.ext) ?_ ?_
        ·intro ρ1 w1 hj hR;exact fm (sz := 2) aF.out aC.out (show pI ρ1 [(0, .tmp 80), (1, .tmp 84)] = [(0, .agg #[.int .i64 ov, .slice oA on oc]), (1, .agg #[.int .i64 q.v, .slice q.A q.n q.c])] from aY (show ρ1 80 = _ from hR.1) (aY (show ρ1 84 = _ from hR.2.1) bQ)) rfl rfl Dr Dr rfl fun v w2 h hb => ⟨hb, h⟩
        refine bj (i := 6) (hO hh.sz (eT os q.ts) ov (aJ (cd os q.ts))) (hO.ext) ?_ ?_
        ·intro ρ1 w1 hj hR;obtain ⟨g85, e85, o85⟩ := hR.1;exact let ⟨b, e1, s1⟩ := hR.1; bJ rfl (aW aq.out (ay e1 a0)) (hmu _ w1 (hT.hp hj.hp) s1 (hj.hp.aD (i := 2) rfl) hj.hp.below) (fun _ _ ⟨g, og, hq, h3⟩ => ⟨_, hq, h3.below, g, w1, rfl, og, hj.bl.size, h3⟩)
        refine bj (i := 7) (hO hh.sz (eT os q.ts) ov (aJ (cd os q.ts))) (hO.ext) ?_ ?_
        ·intro ρ1 w1 hj hR;exact let ⟨g, u, e1, e2⟩ := hR.1; bW rfl (cQ e1) ⟨Below.refl _ _, g, u, rfl, e2⟩
        refine bj (i := 8) (la hh.sz (eT os q.ts) ov (aJ (cd os q.ts))) (la.ext) ?_ ?_
        ·intro ρ1 w1 hj hR;exact let ⟨g, u, e1, e2⟩ := hR.1; bW rfl (dP (vs := [_, _]) e1 rfl) ⟨Below.refl _ _, g, u, rfl, e2⟩
        refine bj (i := 9) (Is (.int .i64 (eT os q.ts))) (Is.ext) ?_ ?_
        ·intro ρ1 w1 hj hR;exact let ⟨g, u, e1, e2⟩ := hR.1; bW rfl (dP (vs := [_, _]) e1 rfl) ⟨Below.refl _ _, rfl⟩
        refine bq ?_;intro f W hJ hV _;have hb_15 := hJ.bl;obtain ⟨v88, v87, v79, v86, v85, v84, v83, v82, v81, v80, _⟩ := hV;obtain ⟨g85, e85, o85⟩ : fe 2 2 (aQ PX.cells [⟨ov, oA, on, oc, os⟩, q]) (f 5) W := v85;obtain ⟨g86, u86, e86, -⟩ := v86;obtain ⟨g79, u79, e79, -⟩ := v79;obtain ⟨g87, u87, e87, o87, q87, h87⟩ := v87;replace hh := JJ.zD hJ hh q87 h87;refine a6 (bk (ae v88 (ae e87 (ae e79 (ae e86 (ae e85 (ae v84 (ae v83 (ae v82 (ae v81 (ae v80 a5))))))))))) ?_;dsimp only [cJ];clear e85 e86 e79 e87 hJ;simp only [List.cons_append, List.nil_append] at hh;obtain ⟨gv, gA, gn, gc, gts⟩ := g87;replace hh := show Hp w (.row gA gn gc 96 4 (aQ TR.cells gts) :: _) W from hh;by_cases hte : eT os q.ts = 0
        ·rw [if_neg (by rw [hte]; decide)] at hnx;rw [hte] at o87;obtain rfl : ov = gv := o87.v.symm;obtain rfl : aJ (cd os q.ts) = gts := o87.ts.symm;have hgc : gn ≤ gc := hh.gC (i := 0) rfl;have hgl : (aJ (cd os q.ts)).length = gn := (hh.aD (i := 0) rfl).cI TR.len Dr;have hgo := vh hop hqk hqT hte Dq;refine bD hh 2 [_,_] ?_;intro ws hh;replace hh : Hp _ (_ :: _ :: .blk _ _ [_, _] _ :: _) _ := hh;refine aI (aa (sr (mI ?_)));refine cu (aa (cT (ar (mL (mI (mI ?_))))));dsimp only at hh;refine aU rfl rfl Dr (gi (lo := some (.tmp 93)) (hi := some (.tmp 94)) (l := fr) (h := en) aF.out aC.size rfl ⟨_, _, rfl, rfl⟩ ⟨_, _, rfl, rfl⟩ hfr Dq) ?_;refine mI ?_;refine bO (mL (mI ?_));refine aK (hrec m fr en _ (hT.hp hh) hh.below hfr hen hwi) aq.out rfl Dr ?_;rintro e_ w100 ⟨g2, og2, rfl, h4⟩;refine ⟨_, rfl, ?_⟩;replace hh := hh.join h4;simp only [List.cons_append, List.nil_append] at hh;have hs2 := hsub m;obtain ⟨hv2, hA2, hn2, hc2, ht2⟩ := g2;replace hh := show Hp w (.row hA2 hn2 hc2 96 4 (aQ TR.cells ht2) :: _) _ from hh;by_cases hE2 : (sub (cP p j m)).1 = 0
         ·rw [if_neg (by rw [hE2]; decide)] at hnx;rw [hE2] at og2;obtain rfl : ov = hv2 := og2.v.symm;obtain rfl : (sub (cP p j m)).2 = ht2 := og2.ts.symm;have ho2 := hs2 hE2;have hc2c : hn2 ≤ hc2 := hh.gC (i := 0) rfl;have hl2 : ((sub (cP p j m)).2).length = hn2 := (hh.aD (i := 0) rfl).cI TR.len Dr;generalize (sub (cP p j m)).2 = us at *;refine mT ?_;refine da ?_;refine da ?_;refine bD hh 2 [_,_] ?_;intro ws hh;replace hh : Hp _ (_ :: _ :: .blk _ _ [_, _] _ :: _) _ := hh;refine aI (aa (ah (sr (mI ?_))));refine cu (aa (cT (ar ?_)));refine cU hh 3 [_,_] ?_;refine cU hh 2 [_,_] ?_;refine bf hh (cs := [_, _, _, _]) aF.out aC.out (aY (cK rfl) (aY (cK rfl) bQ)) rfl rfl Dr Dr Dr rfl Dr ?_;intro b108 w108 hh;dsimp only at hh;have hlp2 : fA [⟨ov, gA, gn, gc, aJ (cd os q.ts)⟩, ⟨ov, hA2, hn2, hc2, us⟩] = 0 := lB hgo.e ho2.e rfl;have had := jc (some ⟨b108, 0, none⟩) 2 2 [⟨ov, gA, gn, gc, aJ (cd os q.ts)⟩, ⟨ov, hA2, hn2, hc2, us⟩] 2000000 _ (hT.hp hh) (hh.aD (i := 0) rfl) Dr (fun g hg => by
           rcases List.mem_cons.1 hg with rfl | hg
           ·exact hh.aD (i := 2) rfl
           ·rw [List.mem_singleton.1 hg]; exact hh.aD (i := 1) rfl) (fun g hg => by
           rcases List.mem_cons.1 hg with rfl | hg
           ·exact ⟨by have := hgo.len; show gn ≤ 1000000; omega, hgc, hgo.ok.mono Dq, hgo.sz⟩
           ·rw [List.mem_singleton.1 hg]; exact ⟨by have := ho2.len; show hn2 ≤ 1000000; omega, hc2c, ho2.ok.mono Dq, ho2.sz⟩) Dr
          unfold xa at had;rw [if_pos hlp2, yN] at had;dsimp only at had;refine aK (had) aq.out rfl Dr ?_;rintro e_ w109 ⟨g3, og3, rfl, h5⟩;refine ⟨_, rfl, ?_⟩;replace hh := hh.join h5;simp only [List.cons_append, List.nil_append] at hh;obtain ⟨hv3, hA3, hn3, hc3, ht3⟩ := g3;replace hh := show Hp w (.row hA3 hn3 hc3 96 4 (aQ TR.cells ht3) :: _) _ from hh;refine mT ?_;refine da ?_;refine da ?_;refine bD hh 5 [_,_] ?_;intro ws hh;replace hh : Hp _ (_ :: _ :: _ :: _ :: _ :: .blk _ _ [_, _] _ :: _) _ := hh;refine aI (aa (ar (mI (aI (aE (aX (ai (ar (mI ?_)))))))));refine ek (aI (aE (ai ?_)));replace hh := hh.sub (List.Sublist.cons_cons _ (List.Sublist.cons _ (List.Sublist.cons _ (List.Sublist.cons _ (List.Sublist.cons _ (List.Sublist.cons_cons _ (List.Sublist.cons _ (List.Sublist.cons_cons _ List.Sublist.slnil))))))));replace hh := hh.perm (List.perm_middle (l₁ := [_]));simp only [List.cons_append, List.nil_append] at hh;try dsimp only at hh
          refine ⟨⟨i + 1, fr, fL (aJ (cd os q.ts) ++ us), hv3, hA3, hn3, hc3, ht3, Dq, by rw [hmi2]; rfl, rfl, rfl, ?_, Dq, fun h => ⟨?_, ?_, fun t ht => by rw [← hmi]; exact hbl t ht, fun t ht => by rw [← hmi]; exact hdf t ht⟩, hh⟩, by show ((m : Int) - 1 + 1).toNat < ((m : Int) + 1).toNat; omega, ?_⟩
          ·rw [hnx];by_cases hg : fL (aJ (cd os q.ts) ++ us) ≠ 0
           ·rw [if_pos hg]
           ·rw [if_neg hg]; omega
          ·have := og3.v;rw [if_pos h] at this;exact this
          ·rw [hnx, if_neg (by rw [h]; decide)];have := og3.ts;rw [if_pos h] at this;exact this
          ·exact Du
         ·rw [if_pos hE2] at hnx;refine mT ?_;refine da ?_;refine da ?_;refine bD hh 2 [_,_] ?_;intro ws hh;replace hh : Hp _ (_ :: _ :: .blk _ _ [_, _] _ :: _) _ := hh;refine aI (aa (ah (sr (mI ?_))));refine cu (aa (cF (ak (ai (ar (mI (aI (aE (aX (ai (ar (mI ?_))))))))))));refine ek (aI (aE (ai ?_)));replace hh := hh.sub (List.Sublist.cons _ (List.Sublist.cons_cons _ (List.Sublist.cons _ (List.Sublist.cons_cons _ (List.Sublist.cons _ (List.Sublist.cons_cons _ List.Sublist.slnil))))));replace hh := hh.perm (List.perm_middle (l₁ := [_]));simp only [List.cons_append, List.nil_append] at hh;refine ⟨⟨i + 1, fr, _, ov, gA, gn, gc, aJ (cd os q.ts), Dq, by rw [hmi2]; rfl, rfl, rfl, by rw [hnx], Dq, fun h => absurd h hE2, hh⟩, by show ((m : Int) - 1 + 1).toNat < ((m : Int) + 1).toNat; omega, ?_⟩;exact Du
        ·rw [if_pos hte] at hnx;refine bD hh 2 [_,_] ?_;intro ws hh;replace hh : Hp _ (_ :: _ :: .blk _ _ [_, _] _ :: _) _ := hh;refine aI (aa (sr (mI ?_)));refine cu (aa (cF (ak (ai (ah (sr (mI ?_)))))));refine cu (aa (cF (ak (ai (ar (mI (aI (aE (aX (ai (ar (mI ?_))))))))))));refine ek (aI (aE (ai ?_)));replace hh := hh.sub (List.Sublist.cons_cons _ (List.Sublist.cons _ (List.Sublist.cons_cons _ (List.Sublist.cons _ (List.Sublist.cons_cons _ List.Sublist.slnil)))));replace hh := hh.perm (List.perm_middle (l₁ := [_]));simp only [List.cons_append, List.nil_append] at hh;refine ⟨⟨i + 1, fr, eT os q.ts, gv, gA, gn, gc, gts, Dq, by rw [hmi2]; rfl, rfl, rfl, by rw [hnx], Dq, fun h => absurd h hte, hh⟩, by show ((m : Int) - 1 + 1).toNat < ((m : Int) + 1).toNat; omega, ?_⟩;exact Du
    ·have hfin : dH q.ts sub p j 128 = dH q.ts sub p j i := by
      by_cases h8 : i = 128
      ·rw [h8]
      ·exact qj Dq hi
     rw [hfin];by_cases he0 : e = 0
     ·subst he0;obtain ⟨rfl, rfl, -, -⟩ := hok0 rfl;clear hok0 hfin;generalize dH q.ts sub p j i = X at *;obtain rfl : i = 128 := Dq;rw [← he];refine ah (sr (mI ?_));refine dE (mB ?_);first | refine gS ?_ | (refine gT ?_; refine mI ?_) | refine gV ?_
      first | refine gS ?_ | (refine gT ?_; refine cu ?_) | refine gV ?_
      first | refine cW ?_ | refine cX ?_
      refine aa (cF (aV (aA (aA (a8 (ai (ah (sr (mI ?_)))))))));refine cz (aa (cF (ak (ai (sr ?_)))));refine cU hh 0 [_,_] ?_;refine bD hh 2 [_,_] ?_;intro ws hh;replace hh : Hp _ (_ :: _ :: .blk _ _ [_, _] _ :: _) _ := hh;refine aI (aa (al ?_));refine j0 (aN rfl (aO (vs := [_, _]) aC.out (hh.aw (i := 2) (n := 2) rfl rfl) rfl) (cf (cO rfl) a7)) ?_;exact ⟨⟨ov, oA, on, oc, _⟩, ⟨rfl, rfl⟩, rfl, hh.sub (.cons _ (List.Sublist.cons_cons _ (List.nil_sublist _)))⟩
     ·rw [← he];clear hok0 hfin;generalize dH q.ts sub p j i = X at *;by_cases h8 : i = 128
      ·subst h8;refine ah (sr (mI ?_));refine dE (mB ?_);first | refine gS ?_ | (refine gT ?_; refine mI ?_) | refine gV ?_
       first | refine gS ?_ | (refine gT ?_; refine cu ?_) | refine gV ?_
       first | refine cW ?_ | refine cX ?_
       refine aa (cF (aV (aA (aA (a8 (ai (ah (sr (mI ?_)))))))));refine cz (aa (cT (sr ?_)));refine eX [_,_] (mI ?_);refine bD hh 2 [_,_] ?_;intro ws hh;replace hh : Hp _ (_ :: _ :: .blk _ _ [_, _] _ :: _) _ := hh;refine aI (aa (al (aH ?_)));refine j0 (aN rfl (aO (vs := [_, _]) aC.out (hh.aw (i := 2) (n := 2) rfl rfl) rfl) (cf (cO rfl) a7)) ?_;exact ⟨PX.nil, dg.err he0, rfl, (hh.sub (List.nil_sublist _)).ju⟩
      ·refine ah (sr (mI ?_));refine dE (mB ?_);first | refine gS ?_ | (refine gT ?_; refine mI ?_) | refine gV ?_
       first | refine gS ?_ | (refine gT ?_; refine cu ?_) | refine gV ?_
       first | refine cW ?_ | refine cX ?_
       refine aa (cF (aV (aA (aA (a8 (ai (ah (sr (mI ?_)))))))));refine cz (aa (cT (sr ?_)));refine eX [_,_] (mI ?_);refine bD hh 2 [_,_] ?_;intro ws hh;replace hh : Hp _ (_ :: _ :: .blk _ _ [_, _] _ :: _) _ := hh;refine aI (aa (al (aH ?_)));refine j0 (aN rfl (aO (vs := [_, _]) aC.out (hh.aw (i := 2) (n := 2) rfl rfl) rfl) (cf (cO rfl) a7)) ?_;exact ⟨PX.nil, dg.err he0, rfl, (hh.sub (List.nil_sublist _)).ju⟩
end Go.Proofs.YteeckcbbnegmcaaGreatDoor
/- The walk through calc.Subst. -/
namespace Go.Proofs.YteeckcbbnegmcaaGreatDoor
open Go.RowKit
def xl (p : PX) (ls : List PX) : Int × List TR :=
 if p.e ≠ 0 then (p.e, []) else if (ls.length : Int) ≠ p.v then (1, []) else if ls.length ≠ 0 ∧ fA ls ≠ 0 then (fA ls, []) else iH (gL ls) (ls.map PX.ts) 0 p.ts
theorem uW (f : PX) (p : Addr) (x : Int) (w : World) (hp : w.cell? p = some (.int .i64 x)) :
  Calls Tryz.prog 155 #[.agg #[.int .i64 f.v, .slice f.A f.n f.c], .pointer (some p)] w fun r w' => r = .returned (.bool (decide (f.v ≠ x))) ∧ Below w.heap.size w w' := by
 have hh := Hp.start w;by_cases hg : f.v = x
 ·refine aj (N := 8) (l := [.agg #[.int .i64 f.v, .slice f.A f.n f.c], .pointer (some p)]) Tryz.func155 rfl rfl (by simp) ?_;refine sr ?_;refine dp hh [_,_] ?_;intro b2 w2 hh;refine aB (aa (sr (bG ?_)));refine bI hh 0 ?_;refine bp aC.out rfl ((hh.below.cell (lR hp)).trans hp) Dr ?_;refine cz (aB (aa (al ?_)));refine cA ?_;exact ⟨by rw [decide_eq_false Dq], hh.below⟩
 ·refine aj (N := 8) (l := [.agg #[.int .i64 f.v, .slice f.A f.n f.c], .pointer (some p)]) Tryz.func155 rfl rfl (by simp) ?_;refine sr ?_;refine dp hh [_,_] ?_;intro b2 w2 hh;refine aB (aa (sr (bG ?_)));refine bI hh 0 ?_;refine bp aC.out rfl ((hh.below.cell (lR hp)).trans hp) Dr ?_;refine cz (aB (aa (al ?_)));refine cA ?_;exact ⟨by rw [decide_eq_true hg], hh.below⟩
structure CX (p : PX) (ls : List PX) (k K T c0 : Nat) (ds : List Nat) : Prop where
 len : ds.length = ls.length
 CR : ∀ (i d : Nat), ds[i]? = some d → d ≤ 127 ∧ ∀ t ∈ p.ts, nG i t ≤ d
 grow : jr c0 ds (k + 1) ≤ 440000
 step : K + 4096 * T + 8192 ≤ c0
 top : c0 ≤ 440000
 ja : ∀ g ∈ ls, g.ja K
 C0 : ∀ g ∈ ls, g.ts.length ≤ T
theorem yA {v : Int} {ts : List TR} (h : gJ v ts = 0) : yJ v 0 ts := by
 obtain ⟨_, _, h3, h4⟩ := dk h;exact ⟨h4.po, h3, fun a _ b _ => by rw [List.take_zero, List.take_zero]⟩
theorem rv (p : PX) (lA : Option Addr) (lc : Nat) (ls : List PX) (k K T c0 : Nat) (ds : List Nat) (w : World) (hT : gK w) (hp : p.at_ w) (lp : p.ja k) (hL : Sl w lA ls.length 2 (aQ PX.cells ls)) (hat : ∀ g ∈ ls, g.at_ w) (hlc : ls.length ≤ lc) (hf : CX p ls k K T c0 ds) :
  Calls Tryz.prog 69 #[.agg #[.int .i64 p.v, .slice p.A p.n p.c], .slice lA ls.length lc] w fun r w' => ∃ g : PX, dg (xl p ls).1 (gL ls) (xl p ls).2 g ∧ r = .returned (.tuple #[.agg #[.int .i64 g.v, .slice g.A g.n g.c], .int .i64 (xl p ls).1]) ∧ Hp w [g.row] w' := by
 have hh := Hp.start w;have hck := fun w1 hT1 hb => l0 p k w1 hT1 (hp.ext hb) lp;unfold xl;by_cases h0 : p.e ≠ 0
 ·rw [if_pos h0];generalize p.e = e at *;refine aj (N := 54) (l := [.agg #[.int .i64 p.v, .slice p.A p.n p.c], .slice lA ls.length lc]) Tryz.func69 rfl rfl (by simp) ?_;refine sr ?_;refine dp hh [_,_] ?_;intro b2 w2 hh;refine cj hh ?_;intro b4 w4 hh;refine aI (aa (ah (sr ?_)));refine cU hh 1 [_,_] ?_;refine bB hh (hck _ (hT.hp hh) hh.below) rfl ?_;intro w12 hh;refine aI (aa (sr (mI ?_)));refine cz (aa (cT (sr ?_)));refine eX [_,_] (mI ?_);refine bD hh 0 [_,_] ?_;intro ws hh;replace hh : Hp _ (.blk _ _ [_, _] _ :: _) _ := hh;refine aI (aa (al (aH ?_)));refine j0 (aN rfl (aO (vs := [_, _]) aC.out (hh.aw (i := 0) (n := 2) rfl rfl) rfl) (cf (cO rfl) a7)) ?_;exact ⟨PX.nil, dg.err h0, rfl, (hh.sub (List.nil_sublist _)).ju⟩
 ·rw [if_neg h0];have hpe : p.e = 0 := Dq;rw [hpe] at hck;by_cases h1 : (ls.length : Int) ≠ p.v
  ·rw [if_pos h1];refine aj (N := 54) (l := [.agg #[.int .i64 p.v, .slice p.A p.n p.c], .slice lA ls.length lc]) Tryz.func69 rfl rfl (by simp) ?_;refine sr ?_;refine dp hh [_,_] ?_;intro b2 w2 hh;refine cj hh ?_;intro b4 w4 hh;refine aI (aa (ah (sr ?_)));refine cU hh 1 [_,_] ?_;refine bB hh (hck _ (hT.hp hh) hh.below) rfl ?_;intro w12 hh;refine aI (aa (sr (mI ?_)));refine cz (aa (cF (ak (ai (ah (sr (mL (a4 (bG ?_)))))))));refine bI hh 1 ?_;refine cz (aa (cT (sr ?_)));refine eX [_,_] ?_;refine bD hh 0 [_,_] ?_;intro ws hh;replace hh : Hp _ (.blk _ _ [_, _] _ :: _) _ := hh;refine aI (aa (al (aH ?_)));refine j0 (aN rfl (aO (vs := [_, _]) aC.out (hh.aw (i := 0) (n := 2) rfl rfl) rfl) (cf (cO rfl) a7)) ?_;exact ⟨PX.nil, dg.err Dr, rfl, (hh.sub (List.nil_sublist _)).ju⟩
  ·rw [if_neg h1];obtain ⟨hfw, h4, hmy, hca⟩ := dk hpe;replace hfw := gE.1 hfw;have hl12 : ls.length ≤ 12 := Dq;have hpl := hp.ln;have hsr := yA hpe;have hput := fun (v : Int) (hv : gl v = true) (hz : ∀ g ∈ ls, gJ v g.ts = 0) (hvv : ∀ g ∈ ls, g.v = v) w1 hT1 hb => uQ lA lc K T c0 v ls hv hlc hl12 (fun g hg => ⟨⟨hz g hg, (hf.ja g hg).ok, (hf.ja g hg).sz⟩, hvv g hg, hf.ja g hg, hf.C0 g hg⟩) hf.step hf.top ls 0 p.ts p.A p.n p.c ds k w1 rfl (Nat.zero_le _) hT1 (hL.ext hb) (fun g hg => (hat g hg).ext hb) (hp.ext hb) lp.cap (by rw [show ((ls.length : Nat) : Int) = p.v by omega]; exact hsr) lp.ok Dq hf.len (fun i d h => by rw [Nat.zero_add]; exact hf.CR i d h) hf.grow;by_cases hn : ls = []
   ·subst hn;rw [if_neg (fun h => h.1 rfl)];have hpu := hput 0 rfl (fun g hg => by cases hg) (fun g hg => by cases hg);refine aj (N := 54) (l := [.agg #[.int .i64 p.v, .slice p.A p.n p.c], .slice lA 0 lc]) Tryz.func69 rfl rfl (by simp) ?_;refine sr ?_;refine dp hh [_,_] ?_;intro b2 w2 hh;refine cj hh ?_;intro b4 w4 hh;refine aI (aa (ah (sr ?_)));refine cU hh 1 [_,_] ?_;refine bB hh (hck _ (hT.hp hh) hh.below) rfl ?_;intro w12 hh;refine aI (aa (sr (mI ?_)));refine cz (aa (cF (ak (ai (ah (sr (mL (a4 (bG ?_)))))))));refine bI hh 1 ?_;refine cz (aa (cF (ak (ai (sr ?_)))));refine cj hh ?_;intro b7 w7 hh;refine bD hh 0 [_] ?_;intro ws hh;replace hh : Hp _ (.blk _ _ [_] _ :: _) _ := hh;refine aa (ah (sr (mL (a4 ?_))));refine ct (aa (cF (ak (ai (sr (bG ?_))))));refine bI hh 2 ?_;refine mL ?_;refine bI hh 0 ?_;replace hh := show Hp w (.blk b7 3 [.int .i64 0] (0, 0) :: _) _ from hh;refine aK (hpu _ (hT.hp hh) hh.below) aq.out rfl Dr ?_;rintro e_ w51 ⟨g, og, rfl, h3⟩;refine ⟨_, rfl, ?_⟩;replace hh := hh.join h3;simp only [List.cons_append, List.nil_append] at hh;refine da ?_;refine da ?_;refine bD hh 2 [_,_] ?_;intro ws hh;replace hh : Hp _ (_ :: _ :: .blk _ _ [_, _] _ :: _) _ := hh
    refine aI (aa (al ?_));refine j0 (aN rfl (aO (vs := [_, _]) aC.out (hh.aw (i := 2) (n := 2) rfl rfl) rfl) (cf (cO rfl) a7)) ?_;exact ⟨g, og, rfl, hh.sub (List.Sublist.cons_cons _ (List.nil_sublist _))⟩
   ·have hlp0 : 0 < ls.length := List.length_pos_iff.2 hn;obtain ⟨lad, rfl, hlr⟩ := hL.at_ hlp0;refine aj (N := 54) (l := [.agg #[.int .i64 p.v, .slice p.A p.n p.c], .slice (some lad) ls.length lc]) Tryz.func69 rfl rfl (by simp) ?_;refine sr ?_;refine dp hh [_,_] ?_;intro b2 w2 hh;refine cj hh ?_;intro b4 w4 hh;refine aI (aa (ah (sr ?_)));refine cU hh 1 [_,_] ?_;refine bB hh (hck _ (hT.hp hh) hh.below) rfl ?_;intro w12 hh;refine aI (aa (sr (mI ?_)));refine cz (aa (cF (ak (ai (ah (sr (mL (a4 (bG ?_)))))))));refine bI hh 1 ?_;refine cz (aa (cF (ak (ai (sr ?_)))));refine cj hh ?_;intro b7 w7 hh;refine bD hh 0 [_] ?_;intro ws hh;replace hh : Hp _ (.blk _ _ [_] _ :: _) _ := hh;refine aa (ah (sr (mL (a4 ?_))));refine ct (aa (cT (ah (sr (mL (a4 (mI (aa (ao ?_)))))))));replace hh := show Hp w (.blk b7 3 [.int .i64 0] (0, 0) :: _) _ from hh;refine bF [5, 9, 10, 28, 29, 30, 31, 32, 33, 34, 35, 36, 37, 38] 28
     (fun v w' => ∃ i : Nat, i ≤ ls.length ∧ v = .int .i64 i ∧ (ls.take i).any (fun g => decide (g.e ≠ 0)) = false ∧ Hp w [.blk b7 3 [.int .i64 0] (0, 0), .blk b4 24 [.int .i64 0, .slice none 0 0] (0, 0), .blk b2 24 [.int .i64 p.v, .slice p.A p.n p.c] (0, 0)] w')
     (fun v _ => ls.length - (intOf v).toNat) ?_ ?_
    ·exact ⟨0, Nat.zero_le _, rfl, rfl, hh⟩
    ·clear hh;rintro ρ' v w' ⟨i, hi, rfl, hall, hh⟩;by_cases hlt : i < ls.length
     ·obtain ⟨g, hx⟩ := aG (l := ls) (k := i) hlt;have hmem := List.mem_of_getElem? hx;have hc := fun w1 hT1 hb => l0 g K w1 hT1 ((hat g hmem).ext hb) (hf.ja g hmem);by_cases he : g.e = 0
      ·refine sr ?_;refine a3 (aa (ah (cT (ak (ai (ah (ao (sr ?_))))))));refine aZ (k := i) aF.out aC.size rfl rfl Dq Dq Dr ?_;refine bZ (vs := [_, _]) aC.out rfl ((hlr.ext hh.below).recAt PX.len hx) rfl Dr ?_;refine cj hh ?_;intro b9 w9 hh;refine bD hh 0 [_,_] ?_;intro ws hh;replace hh : Hp _ (.blk _ _ [_, _] _ :: _) _ := hh;refine aa (sr ?_);refine cU hh 0 [_,_] ?_;refine bB hh (hc _ (hT.hp hh) hh.below) rfl ?_;intro w33 hh;refine aI (aa (sr (mI ?_)));refine cz (aa (cF (ak (aX (ai (ar ?_))))));refine bO (mI (aE (ai ?_)));replace hh := hh.sub (List.Sublist.cons _ (List.Sublist.cons_cons _ (List.Sublist.cons_cons _ (List.Sublist.cons_cons _ List.Sublist.slnil))));refine ⟨⟨i + 1, Dq, rfl, by rw [aT hx, List.any_append, hall, List.any_cons, List.any_nil, decide_eq_false Dq]; rfl, hh⟩, by show ls.length - (i + 1) < ls.length - i; omega, ?_⟩;exact Du
      ·have hlk : fA ls = g.e := by unfold fA; rw [qQ hall hx (decide_eq_true he)]
       rw [if_pos ⟨Dq, by rw [hlk]; exact he⟩, hlk];refine sr ?_;refine a3 (aa (ah (cT (ak (ai (ah (ao (sr ?_))))))));refine aZ (k := i) aF.out aC.size rfl rfl Dq Dq Dr ?_;refine bZ (vs := [_, _]) aC.out rfl ((hlr.ext hh.below).recAt PX.len hx) rfl Dr ?_;refine cj hh ?_;intro b9 w9 hh;refine bD hh 0 [_,_] ?_;intro ws hh;replace hh : Hp _ (.blk _ _ [_, _] _ :: _) _ := hh;refine aa (sr ?_);refine cU hh 0 [_,_] ?_;refine bB hh (hc _ (hT.hp hh) hh.below) rfl ?_;intro w33 hh;refine aI (aa (sr (mI ?_)));refine cz (aa (cT (sr ?_)));refine eX [_,_] (mI ?_);refine bD hh 2 [_,_] ?_;intro ws hh;replace hh : Hp _ (_ :: _ :: .blk _ _ [_, _] _ :: _) _ := hh;refine aI (aa (al (bT (aH (aH (bT (aH (aH ?_))))))));refine j0 (aN rfl (aO (vs := [_, _]) aC.out (hh.aw (i := 2) (n := 2) rfl rfl) rfl) (cf (cO rfl) a7)) ?_;exact ⟨PX.nil, dg.err he, rfl, (hh.sub (List.nil_sublist _)).ju⟩
     ·rw [List.take_of_length_le Dq] at hall;have hlk : fA ls = if ls.length = 0 ∨ wz ls = true then 1 else 0 := by unfold fA; rw [gj hall]
      obtain ⟨g0, h00⟩ := aG (l := ls) (k := 0) hlp0;have hhv : gL ls = g0.v := by
       cases ls with
       | nil => cases hlp0
       | cons x l => cases h00; rfl
      have hall0 : ∀ g ∈ ls, g.e = 0 := fun g hg => by
       have := List.any_eq_false.1 hall g hg;simpa using this
      refine sr ?_;refine a3 (aa (ah (cF (aV (aA (aA (a8 (ai (sr (mL ?_))))))))));refine aZ (k := 0) aF.out aC.size rfl rfl Dq Dq Dr ?_;refine bS dJ.out rfl Dr ?_;refine bp aC.out rfl (((hlr.ext hh.below).recAt PX.len h00).cell (i := 0) rfl) Dr ?_;refine bD hh 0 [_] ?_;intro ws hh;replace hh : Hp _ (.blk _ _ [_] _ :: _) _ := hh;refine aa (sr (mL ?_));refine eV rfl (ay (jA rfl) a0) Dr ?_;replace hh := show Hp w (.blk b7 3 [.int .i64 g0.v] (0, 0) :: _) _ from hh;rw [← hhv] at hh;have hcell : World.cell? _ ⟨b7, 0, none⟩ = some (.int .i64 (gL ls)) := hh.dK (i := 0) rfl rfl;have hoa := fun w1 hb => oS (some lad) ls.length lc ls 155 [.pointer (some ⟨b7, 0, none⟩)] (fun g => decide (g.v ≠ gL ls)) w1 (hL.ext (hh.below.trans (hb.mono hh.below.size))) Dq (fun z w2 hz hb2 => uW z ⟨b7, 0, none⟩ (gL ls) w2 (dD hb2 (dD hb hcell)))
      cases hod : wz ls with
      | true =>
       have hod2 : ls.any (fun g => decide (g.v ≠ gL ls)) = true := hod;rw [hod2] at hoa;have hl1 : fA ls = 1 := by rw [hlk, if_pos (.inr hod)]
       rw [if_pos ⟨Dq, by rw [hl1]; decide⟩, hl1];refine bB hh (hoa _ (Below.refl _ _)) rfl ?_;intro w45 hh;refine aa (cT (sr ?_));refine eX [_,_] ?_;refine bD hh 1 [_,_] ?_;intro ws hh;replace hh : Hp _ (_ :: .blk _ _ [_, _] _ :: _) _ := hh;refine aI (aa (al (aH ?_)));refine j0 (aN rfl (aO (vs := [_, _]) aC.out (hh.aw (i := 1) (n := 2) rfl rfl) rfl) (cf (cO rfl) a7)) ?_;exact ⟨PX.nil, dg.err Dr, rfl, (hh.sub (List.nil_sublist _)).ju⟩
      | false =>
       have hod2 : ls.any (fun g => decide (g.v ≠ gL ls)) = false := hod;rw [hod2] at hoa;have hl0 : fA ls = 0 := by
        rw [hlk, if_neg (fun h => h.elim (fun h => by omega) fun h => by rw [hod] at h; cases h)]
       rw [if_neg (fun h => h.2 hl0)];have hvv := (rp hl0).2.2;have hg0 := hall0 g0 (List.mem_of_getElem? h00);unfold PX.e at hg0;have hpu := hput (gL ls) (by rw [hhv]; exact (dk hg0).1) (fun g hg => by rw [← hvv g hg]; exact hall0 g hg) hvv;refine bB hh (hoa _ (Below.refl _ _)) rfl ?_;intro w45 hh;refine aa (cF (ak (ai (sr (bG ?_)))));refine bI hh 2 ?_;refine mL ?_;refine bI hh 0 ?_;refine aK (hpu _ (hT.hp hh) hh.below) aq.out rfl Dr ?_;rintro e_ w51 ⟨g, og, rfl, h3⟩;refine ⟨_, rfl, ?_⟩;replace hh := hh.join h3;simp only [List.cons_append, List.nil_append] at hh;refine da ?_;refine da ?_;refine bD hh 2 [_,_] ?_;intro ws hh;replace hh : Hp _ (_ :: _ :: .blk _ _ [_, _] _ :: _) _ := hh;refine aI (aa (al ?_));refine j0 (aN rfl (aO (vs := [_, _]) aC.out (hh.aw (i := 2) (n := 2) rfl rfl) rfl) (cf (cO rfl) a7)) ?_;exact ⟨g, og, rfl, hh.sub (List.Sublist.cons_cons _ (List.nil_sublist _))⟩
end Go.Proofs.YteeckcbbnegmcaaGreatDoor
/- The walks through ogeelaw09's own helpers. -/
namespace Go.Proofs.YteeckcbbnegmcaaGreatDoor
open Go.RowKit
def tN (a : NR) : Bool := decide ((8 : Int) < a.bM.size ∨ a.e < -60 ∨ 60 < a.e)
theorem tS (a : NR) (w : World) :
  Calls Tryz.prog 66 #[.agg #[.bool a.neg, .string a.bM, .int .i64 a.e]] w fun r w' => r = .returned (.bool (tN a)) ∧ Below w.heap.size w w' := by
 have hh := Hp.start w;by_cases h1 : (8 : Int) < a.bM.size
 ·refine aj (N := 18) (l := [.agg #[.bool a.neg, .string a.bM, .int .i64 a.e]]) Tryz.func66 rfl rfl (by simp) ?_;refine sr ?_;refine dp hh [_,_,_] ?_;intro b1 w1 hh;refine aB (aa (sr (bG (bG ?_))));refine bI hh 0 ?_;refine bs aF.out rfl Dr ?_;refine ct (mB ?_);first | refine gS ?_ | (refine gT ?_; refine bG ?_) | refine gV ?_
  first | refine gS ?_ | (refine gT ?_; refine bI hh 0 ?_) | refine gV ?_
  first | refine gS ?_ | (refine gT ?_; refine a3 ?_) | refine gV ?_
  first | refine cW ?_ | refine cX ?_
  refine mB ?_;first | refine gS ?_ | (refine gT ?_; refine bG ?_) | refine gV ?_
  first | refine gS ?_ | (refine gT ?_; refine bI hh 0 ?_) | refine gV ?_
  first | refine gS ?_ | (refine gT ?_; refine ct ?_) | refine gV ?_
  first | refine cW ?_ | refine cX ?_
  refine aB (aa (al ?_));refine cA ?_;refine ⟨?_, hh.below⟩;unfold tN;rw [decide_eq_true (.inl h1)]
 ·by_cases h2 : a.e < -60
  ·refine aj (N := 18) (l := [.agg #[.bool a.neg, .string a.bM, .int .i64 a.e]]) Tryz.func66 rfl rfl (by simp) ?_;refine sr ?_;refine dp hh [_,_,_] ?_;intro b1 w1 hh;refine aB (aa (sr (bG (bG ?_))));refine bI hh 0 ?_;refine bs aF.out rfl Dr ?_;refine ct (mB ?_);first | refine gS ?_ | (refine gT ?_; refine bG ?_) | refine gV ?_
   first | refine gS ?_ | (refine gT ?_; refine bI hh 0 ?_) | refine gV ?_
   first | refine gS ?_ | (refine gT ?_; refine a3 ?_) | refine gV ?_
   first | refine cW ?_ | refine cX ?_
   refine mB ?_;first | refine gS ?_ | (refine gT ?_; refine bG ?_) | refine gV ?_
   first | refine gS ?_ | (refine gT ?_; refine bI hh 0 ?_) | refine gV ?_
   first | refine gS ?_ | (refine gT ?_; refine ct ?_) | refine gV ?_
   first | refine cW ?_ | refine cX ?_
   refine aB (aa (al ?_));refine cA ?_;refine ⟨?_, hh.below⟩;unfold tN;rw [decide_eq_true (.inr (.inl h2))]
  ·by_cases h3 : 60 < a.e
   ·refine aj (N := 18) (l := [.agg #[.bool a.neg, .string a.bM, .int .i64 a.e]]) Tryz.func66 rfl rfl (by simp) ?_;refine sr ?_;refine dp hh [_,_,_] ?_;intro b1 w1 hh;refine aB (aa (sr (bG (bG ?_))));refine bI hh 0 ?_;refine bs aF.out rfl Dr ?_;refine ct (mB ?_);first | refine gS ?_ | (refine gT ?_; refine bG ?_) | refine gV ?_
    first | refine gS ?_ | (refine gT ?_; refine bI hh 0 ?_) | refine gV ?_
    first | refine gS ?_ | (refine gT ?_; refine a3 ?_) | refine gV ?_
    first | refine cW ?_ | refine cX ?_
    refine mB ?_;first | refine gS ?_ | (refine gT ?_; refine bG ?_) | refine gV ?_
    first | refine gS ?_ | (refine gT ?_; refine bI hh 0 ?_) | refine gV ?_
    first | refine gS ?_ | (refine gT ?_; refine ct ?_) | refine gV ?_
    first | refine cW ?_ | refine cX ?_
    refine aB (aa (al ?_));refine cA ?_;refine ⟨?_, hh.below⟩;unfold tN;rw [decide_eq_true (.inr (.inr h3))]
   ·refine aj (N := 18) (l := [.agg #[.bool a.neg, .string a.bM, .int .i64 a.e]]) Tryz.func66 rfl rfl (by simp) ?_;refine sr ?_;refine dp hh [_,_,_] ?_;intro b1 w1 hh;refine aB (aa (sr (bG (bG ?_))));refine bI hh 0 ?_;refine bs aF.out rfl Dr ?_;refine ct (mB ?_);first | refine gS ?_ | (refine gT ?_; refine bG ?_) | refine gV ?_
    first | refine gS ?_ | (refine gT ?_; refine bI hh 0 ?_) | refine gV ?_
    first | refine gS ?_ | (refine gT ?_; refine a3 ?_) | refine gV ?_
    first | refine cW ?_ | refine cX ?_
    refine mB ?_;first | refine gS ?_ | (refine gT ?_; refine bG ?_) | refine gV ?_
    first | refine gS ?_ | (refine gT ?_; refine bI hh 0 ?_) | refine gV ?_
    first | refine gS ?_ | (refine gT ?_; refine ct ?_) | refine gV ?_
    first | refine cW ?_ | refine cX ?_
    refine aB (aa (al ?_));refine cA ?_;refine ⟨?_, hh.below⟩;unfold tN;rw [decide_eq_false Dq]
theorem CF {a : NR} (h : tN a = false) : a.ok ∧ Sz 124 a.d := by
 have h' := of_decide_eq_false h;have h1 : (a.bM.size : Int) ≤ 8 := Dq;have h2 : -60 ≤ a.e := Dq;have h3 : a.e ≤ 60 := Dq;exact ⟨⟨Dq, Dq, Dq⟩, Sz.raw (m := 64) (E := 60) Dq h2 h3⟩
structure CD (ts : List TR) : Prop where
 n : ts.length ≤ 10
 ok : gx 124 ts
 sz : ∀ t ∈ ts, t.m.size ≤ 20
 ex : ∀ t ∈ ts, ∀ c ∈ t.m.data.toList, c.toNat ≤ 6
theorem CD.ja {g : PX} {w : World} (h : CD g.ts) (ha : g.at_ w) (hc : g.n ≤ g.c) : g.ja 124 := ⟨by have := h.n; have := ha.ln; omega, hc, h.ok, fun t ht => Nat.le_trans (h.sz t ht) Dr⟩
theorem k9 (v : Int) (A : Option Addr) (n c : Nat) (ts : List TR) (w : World) (hS : Sl w A n 4 (aQ TR.cells ts)) :
  Calls Tryz.prog 12 #[.agg #[.int .i64 v, .slice A n c]] w fun r w' => ∃ b : Bool, r = .returned (.bool b) ∧ (b = false → CD ts) ∧ Below w.heap.size w w' := by
 have hh := Hp.start w;have hln := hS.cI TR.len Dr;by_cases h1 : 10 < n
 ·refine aj (N := 45) (l := [.agg #[.int .i64 v, .slice A n c]]) Tryz.func12 rfl rfl (by simp) ?_;refine sr ?_;refine dp hh [_,_] ?_;intro b1 w1 hh;refine aB (aa (ah (sr (bG ?_))));refine bI hh 0 ?_;refine a4 ?_;refine ct (aa (cT (sr (aB (aa (al (aH ?_)))))));refine cA ?_;exact ⟨_, rfl, fun h => (nomatch h), hh.below⟩
 ·refine aj (N := 45) (l := [.agg #[.int .i64 v, .slice A n c]]) Tryz.func12 rfl rfl (by simp) ?_;refine sr ?_;refine dp hh [_,_] ?_;intro b1 w1 hh;refine aB (aa (ah (sr (bG ?_))));refine bI hh 0 ?_;refine a4 ?_;refine ct (aa (cF (ak (ai (ah (sr (aI (aa (ao ?_)))))))));refine bF [2, 3, 4, 5, 10, 11, 12, 13, 14, 15, 16, 17, 18, 19, 20, 21, 22, 23, 24, 25, 26, 27, 28, 29, 30, 31, 32, 33, 34, 35, 36, 37, 38, 39, 40, 41, 42, 43, 44] 3
   (fun x w' => ∃ i : Nat, i ≤ n ∧ x = .int .i64 i ∧ gx 124 (ts.take i) ∧ (∀ t ∈ ts.take i, t.m.size ≤ 20 ∧ ∀ c ∈ t.m.data.toList, c.toNat ≤ 6) ∧ Hp w [.blk b1 24 [.int .i64 v, .slice A n c] (0, 0)] w')
   (fun v _ => n - (intOf v).toNat) ?_ ?_
  ·exact ⟨0, Nat.zero_le _, rfl, fun t ht => (nomatch ht), fun t ht => (nomatch ht), hh⟩
  ·clear hh;rintro ρ' x_ w' ⟨i, hi, rfl, hall, hsz, hh⟩;by_cases hlt : i < n
   ·obtain ⟨x, hx⟩ := aG (l := ts) (k := i) Dq;obtain ⟨ad, rfl, hr⟩ := hS.at_ Dq;have hfa := fun w1 => tS x.c w1;have hbm := ca x.m;refine ah (sr (mI (bG ?_)));refine bI hh 0 ?_;refine a4 ?_;refine a3 (aa (cT (ak (ai (ah (ao (sr (bG ?_))))))));refine bI hh 0 ?_;refine mI ?_;refine aZ (k := i) aF.out aC.size rfl rfl Dq Dq Dr ?_;refine bS dJ.out rfl Dr ?_;refine bp aC.out rfl (((hr.ext hh.below).recAt TR.len hx).cell (i := 0) rfl) Dr ?_;refine aS (aa (ah (sr (bG ?_))));refine bI hh 0 ?_;refine mI ?_;refine aZ (k := i) aF.out aC.size rfl rfl Dq Dq Dr ?_;refine bS dJ.out rfl Dr ?_;refine bZ (vs := [_, _, _]) aC.out rfl (((hr.ext hh.below).recAt TR.len hx).drop 1) rfl Dr ?_;refine bB hh (hfa _) rfl ?_;intro w29 hh
    cases hf : tN x.c with
    | true =>
     refine mB ?_;first | refine gS ?_ | (refine gT ?_; refine mS ?_) | refine gV ?_
     first | refine gS ?_ | (refine gT ?_; refine bs aF.out rfl Dr ?_) | refine gV ?_
     first | refine gS ?_ | (refine gT ?_; refine ct ?_) | refine gV ?_
     first | refine cW ?_ | refine cX ?_
     refine aa (cT (sr (aB (aa (al (aH (bT (aH (aH (bT (aH ?_)))))))))));refine cA ?_;exact ⟨_, rfl, fun h => (nomatch h), hh.below⟩
    | false =>
     by_cases h5 : 20 < x.m.size
     ·refine mB ?_;first | refine gS ?_ | (refine gT ?_; refine mS ?_) | refine gV ?_
      first | refine gS ?_ | (refine gT ?_; refine bs aF.out rfl Dr ?_) | refine gV ?_
      first | refine gS ?_ | (refine gT ?_; refine ct ?_) | refine gV ?_
      first | refine cW ?_ | refine cX ?_
      refine aa (cT (sr (aB (aa (al (aH (bT (aH (aH (bT (aH ?_)))))))))));refine cA ?_;exact ⟨_, rfl, fun h => (nomatch h), hh.below⟩
     ·refine mB ?_;first | refine gS ?_ | (refine gT ?_; refine mS ?_) | refine gV ?_
      first | refine gS ?_ | (refine gT ?_; refine bs aF.out rfl Dr ?_) | refine gV ?_
      first | refine gS ?_ | (refine gT ?_; refine ct ?_) | refine gV ?_
      first | refine cW ?_ | refine cX ?_
      refine aa (cF (ak (ai (sr (aI (aa (ao ?_)))))));refine bF [2, 5, 35, 36, 37, 38, 39, 40, 41, 42, 43, 44] 5
       (fun y w' => ∃ q : Nat, q ≤ x.m.size ∧ y = .int .i64 q ∧ (∀ c ∈ x.m.data.toList.take q, c.toNat ≤ 6) ∧ Hp w [.blk b1 24 [.int .i64 v, .slice (some ad) n c] (0, 0)] w')
       (fun v _ => x.m.size - (intOf v).toNat) ?_ ?_
      ·exact ⟨0, Nat.zero_le _, rfl, fun t ht => (nomatch ht), hh⟩
      ·clear hh;rintro ρ' y_ w' ⟨q, hq, rfl, hex, hh⟩;by_cases hlq : q < x.m.size
       ·obtain ⟨e, he⟩ := aG (l := x.m.data.toList) (k := q) Dq;by_cases h6 : 6 < e.toNat
        ·refine ah (sr (mI (mS ?_)));refine bs aF.out rfl Dr ?_;refine a3 (aa (cT (ak (ai (ah (ao (sr (mS (mI ?_)))))))));refine bu aF.out rfl rfl Dq (by assumption) Dr ?_;refine ct (aa (cT (sr (aB (aa (al (bT (aH (aH (bT (bT (aH (aH (bT (aH ?_)))))))))))))));refine cA ?_;exact ⟨_, rfl, fun h => (nomatch h), hh.below⟩
        ·refine ah (sr (mI (mS ?_)));refine bs aF.out rfl Dr ?_;refine a3 (aa (cT (ak (ai (ah (ao (sr (mS (mI ?_)))))))));refine bu aF.out rfl rfl Dq (by assumption) Dr ?_;refine ct (aa (cF (ak (aX (ai (ar (mI ?_)))))));refine bO (aI (aE (ai ?_)));refine ⟨⟨q + 1, Dq, rfl, fun t ht => ?_, hh⟩, by show x.m.size - (q + 1) < x.m.size - q; omega, ?_⟩
         ·rw [aT he] at ht
          rcases List.mem_append.1 ht with ht | ht
          ·exact hex t ht
          ·rw [List.mem_singleton.1 ht]; omega
         ·exact Du
       ·rw [List.take_of_length_le Dq] at hex;refine ah (sr (mI (mS ?_)));refine bs aF.out rfl Dr ?_;refine a3 (aa (cF (aV (aA (aA (a8 (aX (ai (ar (mI ?_))))))))));refine bO (aI (aE (ai ?_)));refine ⟨⟨i + 1, Dq, rfl, fun t ht => ?_, fun t ht => ?_, hh⟩, by show n - (i + 1) < n - i; omega, ?_⟩
        ·rw [aT hx] at ht
         rcases List.mem_append.1 ht with ht | ht
         ·exact hall t ht
         ·rw [List.mem_singleton.1 ht]; exact CF hf
        ·rw [aT hx] at ht
         rcases List.mem_append.1 ht with ht | ht
         ·exact hsz t ht
         ·rw [List.mem_singleton.1 ht]; exact ⟨Dq, hex⟩
        ·exact Du
   ·rw [List.take_of_length_le Dq] at hall hsz;refine ah (sr (mI (bG ?_)));refine bI hh 0 ?_;refine a4 ?_;refine a3 (aa (cF (aV (aA (aA (a8 (ai (sr (aB (aa (al ?_)))))))))));refine cA ?_;exact ⟨_, rfl, fun _ => ⟨Dq, hall, fun t ht => (hsz t ht).1, fun t ht => (hsz t ht).2⟩, hh.below⟩
theorem bP (n : Int) (w : World) (h1 : -9223372036854775808 ≤ n) (h2 : n ≤ 9223372036854775807) :
  Calls Tryz.prog 68 #[.int .i64 n] w fun r w' => r = .returned (.agg #[.bool (nR (n : Dyadic)).neg, .string (nR (n : Dyadic)).bM, .int .i64 (nR (n : Dyadic)).e]) ∧ Below w.heap.size w w' := by
 have hh := Hp.start w;refine aj (N := 5) (l := [.int .i64 n]) Tryz.func68 rfl rfl (by simp) ?_;refine sr ?_;refine cj hh ?_;intro b2 w2 hh;refine aa (sr (mI ?_));refine bB hh (wK n _ h1 h2) rfl ?_;intro w4 hh;refine bD hh 0 [_,_,_] ?_;intro ws hh;replace hh : Hp _ (.blk _ _ [_, _, _] _ :: _) _ := hh;refine aa (al ?_);refine ik (aN rfl (aO (vs := [_, _, _]) aC.out (hh.aw (i := 0) (n := 3) rfl rfl) rfl) a7) ?_;exact ⟨rfl, hh.below⟩
theorem eu (v : Int) (A : Option Addr) (n c : Nat) (w : World) :
  Calls Tryz.prog 67 #[.int .i64 v, .slice A n c] w fun r w' => r = .returned (.agg #[.int .i64 v, .slice A n c]) ∧ Below w.heap.size w w' := by
 have hh := Hp.start w;refine aj (N := 8) (l := [.int .i64 v, .slice A n c]) Tryz.func67 rfl rfl (by simp) ?_;refine sr ?_;refine cj hh ?_;intro b4 w4 hh;refine aa (sr (mI (mL ?_)));refine eX [_,_] ?_;refine bD hh 0 [_,_] ?_;intro ws hh;replace hh : Hp _ (.blk _ _ [_, _] _ :: _) _ := hh;refine aa (al ?_);refine ik (aN rfl (aO (vs := [_, _]) aC.out (hh.aw (i := 0) (n := 2) rfl rfl) rfl) a7) ?_;exact ⟨rfl, hh.below⟩
end Go.Proofs.YteeckcbbnegmcaaGreatDoor
