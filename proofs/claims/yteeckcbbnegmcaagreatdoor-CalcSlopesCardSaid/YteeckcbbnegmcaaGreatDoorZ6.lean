/- The row and the card of CalcSlopes. -/
import Derived.Test.YteeckcbbnegmcaaGreatDoorCards
import Derived.Test.YteeckcbbnegmcaaGreatDoorTie
import Derived.SevenTiedAt
import Derived.Test.YteeckcbbnegmcaaGreatDoorZ5
/- Powers of a number, kept in a row: the walk through (*calc.powers).at; cells behind a pointer. -/
namespace Go.Proofs.YteeckcbbnegmcaaGreatDoor
open Go.RowKit
structure tY (E : Value → HE) (g o : Nat) : Prop where
 ld : ∀ {w0 w : World} {Hr : List HE} {v : Value}, Hp w0 (E v :: Hr) w → w.cell? ⟨g, o, none⟩ = some v
 st : ∀ {ro : Mode} {P : Program} {N : Nat} {ops : Array Oper} {Q : Kq} {ρ : Rf} {w w0 : World} {rest : List Oper} {Hr : List HE} {ty : TypeId} {pos : String} {af : Array Edge} {t : TypeId} {x y : Operand} {by' : Nat} {ag : Bool} {zc : List Value} {v v' : Value},
  Hp w0 (E v :: Hr) w → ev ρ x = .pointer (some ⟨g, o, none⟩) → ev ρ y = v' → v'.cells = #[v'] → cZ P t = some (1, ag, by', zc) → v'.oneCell' = true →
  (∀ w', Hp w0 (E v' :: Hr) w' → WL ro P N ops Q rest ρ w') → WL ro P N ops Q (⟨none, .store t x y, ty, pos, af, none⟩ :: rest) ρ w
theorem dK {b : Nat} {t : TypeId} : tY (fun v => .blk b t [v] (0, 0)) b 0 :=
 ⟨fun hh => hh.dK (i := 0) rfl rfl, fun hh hx hy hc ht h1 k => oN hh (i := 0) (vs := [_]) hx rfl hy hc ht rfl (Nat.le_refl _) (by simp [h1]) k⟩
theorem cE {g m c i : Nat} {t : TypeId} {xs : List Value} (hi : i < xs.length) : tY (fun v => .row (some ⟨g, 0, none⟩) m c t 1 (xs.set i v)) g (i * 1) := by
 refine ⟨fun {w0 w Hr v} hh => ?_, fun {ro P N ops Q ρ w w0 rest Hr ty pos af t' x y by' ag zc v v'} hh hx hy hc ht h1 k => ?_⟩
 ·exact hh.cE (i := 0) (o := i * 1) rfl (by rw [Nat.mul_one]; exact List.getElem?_set_self hi)
 ·refine bA hh (i := 0) (vs := [v']) hx rfl hy hc ht rfl (by rw [List.length_set]; omega) (by simp [h1]) fun w' hh' => k w' ?_;have e : cg (xs.set i v) (i * 1) [v'] = xs.set i v' := by
   rw [Nat.mul_one, bY (by rw [List.length_set]; exact hi), List.set_set]
  rw [e] at hh';exact hh'
def u9 (w : World) (a : Addr) : Nat := match w.cell? a with | some v => lenOf v | none => 0
def ma (x : Dyadic) (m : Nat) : List NR := (List.range m).map fun i => nR (x ^ i)
theorem rE {x : Dyadic} {m i : Nat} (h : i < m) : (ma x m)[i]? = some (nR (x ^ i)) := by
 unfold ma;rw [List.getElem?_map, List.getElem?_range h]
 rfl
theorem pD (x : Dyadic) (m : Nat) : ma x (m + 1) = ma x m ++ [nR (x ^ m)] := by unfold ma; rw [List.range_succ, List.map_append]; rfl
theorem pk {w0 : World} {Hr : List HE} {E : Value → HE} {g o : Nat} (hE : tY E g o) (x : NR) (n m : Nat) (A : Option Addr) (c k : Nat) (w : World) (hT : gK w0) (hh : Hp w0 (E (.slice A m c) :: .row A m c 65 3 (aQ NR.cells (ma x.d m)) :: Hr) w) (hn : n ≤ 127) (hm : m ≤ 1000) (hx : x.ok ∧ Sz k x.d) (hk : k ≤ 1000) :
  Calls Tryz.prog 149 #[.pointer (some ⟨g, o, none⟩), .agg #[.bool x.neg, .string x.bM, .int .i64 x.e], .int .i64 n] w fun r w' => r = .returned (.agg #[.bool (nR (x.d ^ n)).neg, .string (nR (x.d ^ n)).bM, .int .i64 (nR (x.d ^ n)).e]) ∧ ∃ (A' : Option Addr) (m' c' : Nat), m' ≤ 1000 ∧ Hp w0 (E (.slice A' m' c') :: .row A' m' c' 65 3 (aQ NR.cells (ma x.d m')) :: Hr) w' := by
 refine aj (N := 61) (l := [.pointer (some ⟨g, o, none⟩), .agg #[.bool x.neg, .string x.bM, .int .i64 x.e], .int .i64 n]) Tryz.func149 rfl rfl (by simp) ?_;refine sr ?_;refine dp hh [_,_,_] ?_;intro b4 w4 hh;refine cj hh ?_;intro b6 w6 hh;refine aa (ah (sr (mP ?_)));refine eQ rfl Dr ?_;refine bS dJ.out rfl Dr ?_;refine bp aC.out rfl (hE.ld (hh.sub (.cons _ (.cons _ (List.Sublist.refl _))))) Dr ?_;have hpow : ∀ q, q ≤ 127 → Sz 128000 (x.d ^ q) := fun q hq => by
  have h1 := hx.2.pow q;exact h1.mono (by have := Nat.mul_le_mul hk hq; omega)
 by_cases h0 : m = 0
 ·subst h0;refine a4 ?_;refine cu (aa (cT ?_));refine cY [] [0] [0, 0, 2, 6, 14, 0, 32, 126, 255, 511, 1023] 7 [[(0, none)], [(0, none)], [(14, some 1)], [(15, some 2)], [(16, some 3)], [], [(18, some 5)]] [(6, 19), (5, 18), (4, 17), (3, 16), (2, 15), (1, 14), (0, 13)] hh mixed Dt dI rfl (by repeat (first | exact bX | refine bE ?_ | refine bV ?_)) ?_;refine y7 ?_;refine y7 ?_;refine Bi ?_;refine sX ?_;refine kP (fun _ hj => hE.ld (hj.hp.sub (.cons _ (.cons _ (List.Sublist.refl _))))) ?_;refine dC (fun _ hj => me 1 _ (hT.hp hj.hp) Dr Dr) ?_;refine tF [_,_,_] ?_;refine bq ?_;intro f W hJ hV _;have hb_2 := hJ.bl;obtain ⟨v19, v18, v17, v16, v15, v14, v13, _⟩ := hV;obtain ⟨A19, c19, e19, f19⟩ : Rows _ _ _ (f 6) W := v19;replace hh := hJ.hp;refine a6 (bk (ae e19 (ae v18 (ae v17 (ae v16 (ae v15 (ae v14 (ae v13 a5)))))))) ?_;dsimp only [cJ];clear e19 hJ;refine ck hh (i := 3) rfl rfl rfl (f19) aF.out aC.out rfl Dr (by first | rfl | exact cw _ | exact bU _ | exact oneCells_i64s _ | exact bL NR.one _) Dq Dq Dr ?_;intro A20 c20 w20 hh;simp only [List.set_cons_zero, List.set_cons_succ] at hh;refine eQ rfl Dr ?_;refine bS dJ.out rfl Dr ?_;replace hh := hh.perm (List.perm_middle (l₁ := [_, _]))
  simp only [List.cons_append, List.nil_append] at hh;refine hE.st (v' := .slice A20 (0 + 1) c20) hh rfl rfl rfl aC.out rfl ?_;intro ws hh;replace hh := hh.perm (List.perm_middle (l₁ := [_, _]));simp only [List.cons_append, List.nil_append] at hh;replace hh := hh.perm (List.perm_middle (l₁ := [_, _]));simp only [List.cons_append, List.nil_append] at hh;refine aa (ah (ao ?_));have e0 : aQ NR.cells (ma x.d 0) ++ [.bool (nR ((1 : Int) : Dyadic)).neg, .string (nR ((1 : Int) : Dyadic)).bM, .int .i64 (nR ((1 : Int) : Dyadic)).e] = aQ NR.cells (ma x.d (0 + 1)) := by rw [pD, cn, iU, Dyadic.pow_zero]; rfl
  rw [e0] at hh;refine oT [23, 24, 25, 26, 27, 28, 29, 30, 31, 32, 33, 34, 35, 36, 37, 38, 39, 40, 41, 42, 43, 44, 45, 46, 47, 48, 49, 50, 51, 52, 53]
   (fun w' => ∃ (m : Nat) (A : Option Addr) (c : Nat), 0 < m ∧ m ≤ 1000 ∧ Hp w0 (.blk b6 65 [.bool false, .string (ByteArray.mk #[]), .int .i64 0] (0, 0) :: .blk b4 65 [.bool x.neg, .string x.bM, .int .i64 x.e] (0, 0) :: E (.slice A m c) :: .row A m c 65 3 (aQ NR.cells (ma x.d m)) :: Hr) w')
   (fun w' => n + 1 - u9 w' ⟨g, o, none⟩) ?_ ?_
  ·exact ⟨0 + 1, _, _, Dr, Dr, hh⟩
  ·clear hh;rintro ρ' w' ⟨m, A, c, hm0, hm1, hh⟩;have hcell := hE.ld (hh.sub (.cons _ (.cons _ (List.Sublist.refl _))));obtain ⟨q, rfl⟩ : ∃ q, m = q + 1 := ⟨m - 1, Dq⟩;refine ah (sr (mP ?_));refine eQ rfl Dr ?_;refine bS dJ.out rfl Dr ?_;refine bp aC.out rfl (hcell) Dr ?_;by_cases hmn : q + 1 ≤ n
   ·have hdm := fun A cc w1 hT1 hS1 => gh A 2 cc [nR (x.d ^ q), x] w1 hT1 hS1 (by simpa using ⟨(hpow q Dq).ok Dr, hx.1⟩) 128000 (by simpa [dR] using ⟨hpow q Dq, hx.2.mono Dq⟩) Dr Dr;rw [show gM ([nR (x.d ^ q), x].map NR.d) = x.d ^ (q + 1) by show 1 * (nR (x.d ^ q)).d * x.d = _; rw [dR, Dyadic.one_mul, Dyadic.pow_succ]] at hdm;have hq0 := rE (x := x.d) (show q < q + 1 by omega);obtain ⟨gq, rfl⟩ := hh.fO (i := 3) rfl Dq;refine a4 (mI ?_);refine uN (aa (cT (ak (ai (ao ?_)))))
    refine cY [] [0] [0, 0, 2, 6, 14, 0, 32, 96, 224, 0, 512, 1536, 3584, 7680, 15872, 32736, 65504, 0, 262112, 524256, 1048544, 2097150, 4194303, 8388607, 16777215] 21 [[(0, none)], [(0, none)], [(31, some 1)], [(32, some 2)], [(33, some 3)], [(0, none)], [(35, some 5)], [(36, some 6)], [(37, some 7)], [(0, none)], [(39, some 9)], [(40, some 10)], [(41, some 11)], [(42, some 12)], [(43, some 13)], [(38, some 8), (44, some 14)], [(45, some 15)], [(4, none)], [(46, some 16), (47, some 17)], [(48, some 18)], [(49, some 19)]] [(20, 50), (19, 49), (18, 48), (17, 47), (16, 46), (15, 45), (14, 44), (13, 43), (12, 42), (11, 41), (10, 40), (9, 39), (8, 38), (7, 37), (6, 36), (5, 35), (4, 34), (3, 33), (2, 32), (1, 31), (0, 30)] hh mixed Dt dI rfl (by repeat (first | exact bX | refine bE ?_ | refine bV ?_)) ?_;refine y7 ?_;refine y7 ?_;refine Bi ?_;refine sX ?_;refine kP (fun _ hj => hE.ld (hj.hp.sub (.cons _ (.cons _ (List.Sublist.refl _))))) ?_;refine y7 ?_;refine Bi ?_;refine sX ?_;refine kP (fun _ hj => hE.ld (hj.hp.sub (.cons _ (.cons _ (List.Sublist.refl _))))) ?_;refine y7 ?_;refine Bi ?_;refine sX ?_
    refine kP (fun _ hj => hE.ld (hj.hp.sub (.cons _ (.cons _ (List.Sublist.refl _))))) ?_;refine BR ?_;refine nD ?_;refine BQ (q) ?_;refine wx [_,_,_] (fun _ hj => hj.hp.mq (f := NR.cells) (x := nR (x.d ^ q)) (l := ma x.d (q + 1)) (i := 3) rfl NR.len Dr hq0) ?_;refine fX 1 [_,_,_] ?_;refine tF [_,_,_,_,_,_] ?_;refine bj (i := 19) (Is (.agg #[.bool (nR (x.d ^ (q + 1))).neg, .string (nR (x.d ^ (q + 1))).bM, .int .i64 (nR (x.d ^ (q + 1))).e])) Is.ext ?_ ?_
    ·intro ρ1 w1 hj hR;obtain ⟨A48, c48, h48, s48⟩ := hR.1;exact bJ rfl (aW aq.out (ay h48 a0)) (hdm A48 c48 _ (hT.hp hj.hp) s48) (fun _ _ hq => ⟨_, hq.1, hq.2, rfl⟩)
    refine tF [_,_,_] ?_;refine bq ?_;intro f W hJ hV _;have hb_4 := hJ.bl;obtain ⟨v50, v49, v48, v47, v46, v45, v44, v43, v42, v41, v40, v39, v38, v37, v36, v35, v34, v33, v32, v31, v30, _⟩ := hV;obtain ⟨A48, c48, e48, f48⟩ : Rows _ _ _ (f 18) W := v48;obtain ⟨A50, c50, e50, f50⟩ : Rows _ _ _ (f 20) W := v50;replace hh := hJ.hp;refine a6 (bk (ae e50 (ae v49 (ae e48 (ae v47 (ae v46 (ae v45 (ae v44 (ae v43 (ae v42 (ae v41 (ae v40 (ae v39 (ae v38 (ae v37 (ae v36 (ae v35 (ae v34 (ae v33 (ae v32 (ae v31 (ae v30 a5)))))))))))))))))))))) ?_;dsimp only [cJ];clear e48 e50 hJ;refine ck hh (i := 3) rfl rfl rfl (f50) aF.out aC.out rfl Dr (by first | rfl | exact cw _ | exact bU _ | exact oneCells_i64s _ | exact bL NR.one _) Dq Dq Dr ?_;intro A51 c51 w51 hh;simp only [List.set_cons_zero, List.set_cons_succ] at hh;refine eQ rfl Dr ?_;refine bS dJ.out rfl Dr ?_;replace hh := hh.perm (List.perm_middle (l₁ := [_, _]));simp only [List.cons_append, List.nil_append] at hh;refine hE.st (v' := .slice A51 (q + 1 + 1) c51) hh rfl rfl rfl aC.out rfl ?_;intro ws hh;replace hh := hh.perm (List.perm_middle (l₁ := [_, _]));simp only [List.cons_append, List.nil_append] at hh
    replace hh := hh.perm (List.perm_middle (l₁ := [_, _]));simp only [List.cons_append, List.nil_append] at hh;refine aE (aX (ai ?_));have e1 : aQ NR.cells (ma x.d (q + 1)) ++ [.bool (nR (x.d ^ (q + 1))).neg, .string (nR (x.d ^ (q + 1))).bM, .int .i64 (nR (x.d ^ (q + 1))).e] = aQ NR.cells (ma x.d (q + 1 + 1)) := by rw [show ma x.d (q + 1 + 1) = ma x.d (q + 1) ++ [nR (x.d ^ (q + 1))] from pD _ _, cn, iU]; rfl
    rw [e1] at hh;have hcell2 := hE.ld (hh.sub (.cons _ (.cons _ (List.Sublist.refl _))));refine ⟨⟨q + 1 + 1, _, _, Dq, Dq, hh⟩, ?_, ?_⟩
    ·unfold u9;rw [hcell, hcell2];show n + 1 - (q + 1 + 1) < n + 1 - (q + 1);omega
    ·exact Du
   ·have hn0 := rE (x := x.d) (m := q + 1) (i := n) Dq;obtain ⟨gq, rfl⟩ := hh.fO (i := 3) rfl Dq;refine a4 (mI ?_);refine uN (aa (cF (aV (aA (aA (a8 (ai (sr (mP ?_)))))))));refine eQ rfl Dr ?_;refine bS dJ.out rfl Dr ?_;refine bp aC.out rfl (hE.ld (hh.sub (.cons _ (.cons _ (List.Sublist.refl _))))) Dr ?_;refine mI ?_;refine bm (k := n) aF.out aC.size rfl rfl Dq Dq Dr ?_;refine bZ (vs := [_, _, _]) aC.out rfl (hh.mq (f := NR.cells) (x := nR (x.d ^ n)) (l := ma x.d (q + 1)) (i := 3) rfl NR.len Dr hn0) rfl Dr ?_;refine bD hh 0 [_,_,_] ?_;intro ws hh;replace hh : Hp _ (.blk _ _ [_, _, _] _ :: _) _ := hh;refine aa (al ?_);refine ik (aN rfl (aO (vs := [_, _, _]) aC.out (hh.aw (i := 0) (n := 3) rfl rfl) rfl) a7) ?_;exact ⟨rfl, _, _, _, hm1, hh.sub (.cons _ (.cons _ (List.Sublist.refl _)))⟩
 ·refine a4 ?_;refine cu (aa (cF (ak (ai (ah (ao ?_))))));refine oT [23, 24, 25, 26, 27, 28, 29, 30, 31, 32, 33, 34, 35, 36, 37, 38, 39, 40, 41, 42, 43, 44, 45, 46, 47, 48, 49, 50, 51, 52, 53]
   (fun w' => ∃ (m : Nat) (A : Option Addr) (c : Nat), 0 < m ∧ m ≤ 1000 ∧ Hp w0 (.blk b6 65 [.bool false, .string (ByteArray.mk #[]), .int .i64 0] (0, 0) :: .blk b4 65 [.bool x.neg, .string x.bM, .int .i64 x.e] (0, 0) :: E (.slice A m c) :: .row A m c 65 3 (aQ NR.cells (ma x.d m)) :: Hr) w')
   (fun w' => n + 1 - u9 w' ⟨g, o, none⟩) ?_ ?_
  ·exact ⟨m, A, c, Dq, hm, hh⟩
  ·clear hh;rintro ρ' w' ⟨m, A, c, hm0, hm1, hh⟩;have hcell := hE.ld (hh.sub (.cons _ (.cons _ (List.Sublist.refl _))));obtain ⟨q, rfl⟩ : ∃ q, m = q + 1 := ⟨m - 1, Dq⟩;refine ah (sr (mP ?_));refine eQ rfl Dr ?_;refine bS dJ.out rfl Dr ?_;refine bp aC.out rfl (hcell) Dr ?_;by_cases hmn : q + 1 ≤ n
   ·have hdm := fun A cc w1 hT1 hS1 => gh A 2 cc [nR (x.d ^ q), x] w1 hT1 hS1 (by simpa using ⟨(hpow q Dq).ok Dr, hx.1⟩) 128000 (by simpa [dR] using ⟨hpow q Dq, hx.2.mono Dq⟩) Dr Dr;rw [show gM ([nR (x.d ^ q), x].map NR.d) = x.d ^ (q + 1) by show 1 * (nR (x.d ^ q)).d * x.d = _; rw [dR, Dyadic.one_mul, Dyadic.pow_succ]] at hdm;have hq0 := rE (x := x.d) (show q < q + 1 by omega);obtain ⟨gq, rfl⟩ := hh.fO (i := 3) rfl Dq;refine a4 (mI ?_);refine uN (aa (cT (ak (ai (ao ?_)))))
    refine cY [] [0] [0, 0, 2, 6, 14, 0, 32, 96, 224, 0, 512, 1536, 3584, 7680, 15872, 32736, 65504, 0, 262112, 524256, 1048544, 2097150, 4194303, 8388607, 16777215] 21 [[(0, none)], [(0, none)], [(31, some 1)], [(32, some 2)], [(33, some 3)], [(0, none)], [(35, some 5)], [(36, some 6)], [(37, some 7)], [(0, none)], [(39, some 9)], [(40, some 10)], [(41, some 11)], [(42, some 12)], [(43, some 13)], [(38, some 8), (44, some 14)], [(45, some 15)], [(4, none)], [(46, some 16), (47, some 17)], [(48, some 18)], [(49, some 19)]] [(20, 50), (19, 49), (18, 48), (17, 47), (16, 46), (15, 45), (14, 44), (13, 43), (12, 42), (11, 41), (10, 40), (9, 39), (8, 38), (7, 37), (6, 36), (5, 35), (4, 34), (3, 33), (2, 32), (1, 31), (0, 30)] hh mixed Dt dI rfl (by repeat (first | exact bX | refine bE ?_ | refine bV ?_)) ?_;refine y7 ?_;refine y7 ?_;refine Bi ?_;refine sX ?_;refine kP (fun _ hj => hE.ld (hj.hp.sub (.cons _ (.cons _ (List.Sublist.refl _))))) ?_;refine y7 ?_;refine Bi ?_;refine sX ?_;refine kP (fun _ hj => hE.ld (hj.hp.sub (.cons _ (.cons _ (List.Sublist.refl _))))) ?_;refine y7 ?_;refine Bi ?_;refine sX ?_
    refine kP (fun _ hj => hE.ld (hj.hp.sub (.cons _ (.cons _ (List.Sublist.refl _))))) ?_;refine BR ?_;refine nD ?_;refine BQ (q) ?_;refine wx [_,_,_] (fun _ hj => hj.hp.mq (f := NR.cells) (x := nR (x.d ^ q)) (l := ma x.d (q + 1)) (i := 3) rfl NR.len Dr hq0) ?_;refine fX 1 [_,_,_] ?_;refine tF [_,_,_,_,_,_] ?_;refine bj (i := 19) (Is (.agg #[.bool (nR (x.d ^ (q + 1))).neg, .string (nR (x.d ^ (q + 1))).bM, .int .i64 (nR (x.d ^ (q + 1))).e])) Is.ext ?_ ?_
    ·intro ρ1 w1 hj hR;obtain ⟨A48, c48, h48, s48⟩ := hR.1;exact bJ rfl (aW aq.out (ay h48 a0)) (hdm A48 c48 _ (hT.hp hj.hp) s48) (fun _ _ hq => ⟨_, hq.1, hq.2, rfl⟩)
    refine tF [_,_,_] ?_;refine bq ?_;intro f W hJ hV _;have hb_4 := hJ.bl;obtain ⟨v50, v49, v48, v47, v46, v45, v44, v43, v42, v41, v40, v39, v38, v37, v36, v35, v34, v33, v32, v31, v30, _⟩ := hV;obtain ⟨A48, c48, e48, f48⟩ : Rows _ _ _ (f 18) W := v48;obtain ⟨A50, c50, e50, f50⟩ : Rows _ _ _ (f 20) W := v50;replace hh := hJ.hp;refine a6 (bk (ae e50 (ae v49 (ae e48 (ae v47 (ae v46 (ae v45 (ae v44 (ae v43 (ae v42 (ae v41 (ae v40 (ae v39 (ae v38 (ae v37 (ae v36 (ae v35 (ae v34 (ae v33 (ae v32 (ae v31 (ae v30 a5)))))))))))))))))))))) ?_;dsimp only [cJ];clear e48 e50 hJ;refine ck hh (i := 3) rfl rfl rfl (f50) aF.out aC.out rfl Dr (by first | rfl | exact cw _ | exact bU _ | exact oneCells_i64s _ | exact bL NR.one _) Dq Dq Dr ?_;intro A51 c51 w51 hh;simp only [List.set_cons_zero, List.set_cons_succ] at hh;refine eQ rfl Dr ?_;refine bS dJ.out rfl Dr ?_;replace hh := hh.perm (List.perm_middle (l₁ := [_, _]));simp only [List.cons_append, List.nil_append] at hh;refine hE.st (v' := .slice A51 (q + 1 + 1) c51) hh rfl rfl rfl aC.out rfl ?_;intro ws hh;replace hh := hh.perm (List.perm_middle (l₁ := [_, _]));simp only [List.cons_append, List.nil_append] at hh
    replace hh := hh.perm (List.perm_middle (l₁ := [_, _]));simp only [List.cons_append, List.nil_append] at hh;refine aE (aX (ai ?_));have e1 : aQ NR.cells (ma x.d (q + 1)) ++ [.bool (nR (x.d ^ (q + 1))).neg, .string (nR (x.d ^ (q + 1))).bM, .int .i64 (nR (x.d ^ (q + 1))).e] = aQ NR.cells (ma x.d (q + 1 + 1)) := by rw [show ma x.d (q + 1 + 1) = ma x.d (q + 1) ++ [nR (x.d ^ (q + 1))] from pD _ _, cn, iU]; rfl
    rw [e1] at hh;have hcell2 := hE.ld (hh.sub (.cons _ (.cons _ (List.Sublist.refl _))));refine ⟨⟨q + 1 + 1, _, _, Dq, Dq, hh⟩, ?_, ?_⟩
    ·unfold u9;rw [hcell, hcell2];show n + 1 - (q + 1 + 1) < n + 1 - (q + 1);omega
    ·exact Du
   ·have hn0 := rE (x := x.d) (m := q + 1) (i := n) Dq;obtain ⟨gq, rfl⟩ := hh.fO (i := 3) rfl Dq;refine a4 (mI ?_);refine uN (aa (cF (aV (aA (aA (a8 (ai (sr (mP ?_)))))))));refine eQ rfl Dr ?_;refine bS dJ.out rfl Dr ?_;refine bp aC.out rfl (hE.ld (hh.sub (.cons _ (.cons _ (List.Sublist.refl _))))) Dr ?_;refine mI ?_;refine bm (k := n) aF.out aC.size rfl rfl Dq Dq Dr ?_;refine bZ (vs := [_, _, _]) aC.out rfl (hh.mq (f := NR.cells) (x := nR (x.d ^ n)) (l := ma x.d (q + 1)) (i := 3) rfl NR.len Dr hn0) rfl Dr ?_;refine bD hh 0 [_,_,_] ?_;intro ws hh;replace hh : Hp _ (.blk _ _ [_, _, _] _ :: _) _ := hh;refine aa (al ?_);refine ik (aN rfl (aO (vs := [_, _, _]) aC.out (hh.aw (i := 0) (n := 3) rfl rfl) rfl) a7) ?_;exact ⟨rfl, _, _, _, hm1, hh.sub (.cons _ (.cons _ (List.Sublist.refl _)))⟩
end Go.Proofs.YteeckcbbnegmcaaGreatDoor
/- A region whose order is left open, each operation with memory of its own: what an operation needs and what it leaves. Plain, no program in sight. -/
namespace Go.Proofs.YteeckcbbnegmcaaGreatDoor
open Go.RowKit
section
variable {P : Program} {N : Nat} {Q : Kq} {ρ : Rf} {w : World}
theorem x8 {ops : Array Oper} {fuel : Nat} {L : Array Bool} (hne : Region.ready .any ops L ≠ [])
  (h : ∀ i ∈ Region.ready .any ops L, ∃ o d, ops[i]? = some o ∧ o.dst = some d ∧ d < N ∧ OG P ops o ρ w fun v w' => WA P N ops Q fuel (L.setIfInBounds i true) (cx ρ d v) w') : WA P N ops Q (fuel + 1) L ρ w := by
 refine ⟨fun a hf => wpAny_all rfl hne fun i hi => ?_⟩;obtain ⟨o, d, ho, hd, hN, hg⟩ := h i hi;unfold wpOp;rw [ho];simp only [];exact hg.out a (fun a w => wpAny P .any ops (lift N Q) fuel (L.setIfInBounds i true) a w) (lift N Q) hf.at_ fun v w' hk => by
  rw [hd];exact hk.out _ (hf.put hN v)
def waits (o : Oper) (j : Nat) : Bool := o.after.toList.any fun e => (e.on == j) && Region.binds .any e
abbrev Lv := Nat → Value → List HE → Prop
def Spec (P : Program) (l : List Oper) (w0 : World) (ρ : Rf) (dst : Nat → Nat) (m : Nat) (S : Lv) (pre : Nat → List HE) (rest : List HE) (i : Nat) : Prop :=
 ∃ o, l[i]? = some o ∧ ∀ (ρ1 : Rf) (w1 : World) (F : List HE) (R : Nat → List HE), (∀ s, (∀ j, j < m → dst j ≠ s) → ρ1 s = ρ s) → (∀ j, waits o j = true → S j (ρ1 (dst j)) (R j) ∧ ∀ x ∈ R j, x ∈ F) → (∀ x ∈ rest, x ∈ F) → Hp w0 (pre i ++ F) w1 →
  OG P l.toArray o ρ1 w1 fun v w2 => ∃ R', S i v R' ∧ Hp w0 (R' ++ F) w2
def AY : Nat → (Nat → Prop) → Prop
 | 0, _ => True
 | k + 1, p => AY k p ∧ p k
theorem yo : ∀ {k : Nat} {p : Nat → Prop}, (∀ i, i < k → p i) → AY k p
 | 0, _, _ => trivial
 | k + 1, _, h => ⟨yo fun i hi => h i Dq, h k Dq⟩
theorem kT (n j : Nat) : (Array.replicate n false).getD j false = false := by
 rw [Array.getD_eq_getD_getElem?, Array.getElem?_replicate];split <;> rfl
theorem AY.get : ∀ {k : Nat} {p : Nat → Prop}, AY k p → ∀ i, i < k → p i
 | k + 1, p, h, i, hi => by
  by_cases e : i = k
  ·rw [e]; exact h.2
  ·exact AY.get h.1 i Dq
def AJ (l : List Oper) (m N : Nat) (dst : Nat → Nat) : Bool :=
 decide (m ≤ l.length) && ((List.range m).all fun i => match l[i]? with | some o => (o.dst == some (dst i)) && decide (dst i < N) && (o.after.toList.all fun e => !Region.binds .any e || decide (e.on < i)) | none => false) &&
 decide ((List.range m).map dst).Nodup &&
 ((List.range (l.length - m)).all fun k => match l[m + k]? with | some o => (List.range m).all fun j => waits o j | none => false) &&
 ((List.range (l.length - m)).all fun k => Region.ready .any l.toArray (fu l.length (m + k)) == [m + k]) && (Region.ready .any l.toArray (fu l.length l.length) == [])
theorem qO {l : List Oper} {L : Array Bool} {i : Nat} : i ∈ Region.ready .any l.toArray L ↔ i < l.length ∧ L.getD i true = false ∧ ∃ o, l[i]? = some o ∧ ∀ e ∈ o.after, Region.binds .any e = true → L.getD e.on false = true := by
 unfold Region.ready;rw [List.mem_filter, List.mem_range, show l.toArray.size = l.length by simp];constructor
 ·rintro ⟨h1, h2⟩;have ho : l.toArray[i]? = some l[i] := by simp [h1]
  rw [ho] at h2;simp only [Option.map_some, Option.getD_some, Bool.and_eq_true, Bool.not_eq_true'] at h2;refine ⟨h1, h2.1, l[i], by simp, fun e he hb => ?_⟩;have := Array.all_eq_true'.1 h2.2 e he;simpa [hb] using this
 ·rintro ⟨h1, h2, o, ho, h3⟩;refine ⟨h1, ?_⟩;rw [show l.toArray[i]? = some o by simpa using ho];simp only [Option.map_some, Option.getD_some, Bool.and_eq_true, Bool.not_eq_true'];refine ⟨h2, Array.all_eq_true'.2 fun e he => ?_⟩
  cases hb : Region.binds .any e with
  | false => simp
  | true => simpa [hb] using h3 e he hb
theorem re {L : Array Bool} {m : Nat} (h : ¬ ∀ i, i < m → L.getD i false = true) : ∃ i, i < m ∧ L.getD i false = false ∧ ∀ j, j < i → L.getD j false = true := by
 induction m with
 | zero => exact absurd (fun i hi => by omega) h
 | succ m ih =>
  by_cases h1 : ∀ i, i < m → L.getD i false = true
  ·refine ⟨m, Dq, ?_, h1⟩
   cases hc : L.getD m false with
   | false => rfl
   | true =>
    refine absurd (fun i hi => ?_) h;by_cases e : i = m
    ·rw [e]; exact hc
    ·exact h1 i Dq
  ·obtain ⟨i, h2, h3⟩ := ih h1;exact ⟨i, Dq, h3⟩
theorem n9 {R : Nat → List HE} {i m : Nat} (h : i < m) (rest : List HE) : ((List.range m).flatMap R ++ rest).Perm (R i ++ (((List.range m).filter (· != i)).flatMap R ++ rest)) := by
 have h1 : ∀ m, i < m → ((List.range m).flatMap R).Perm (R i ++ ((List.range m).filter (· != i)).flatMap R) := fun m => by
  induction m with
  | zero => intro h; omega
  | succ m ih =>
   intro h;rw [List.range_succ, List.flatMap_append, List.filter_append, List.flatMap_append];by_cases e : i = m
   ·subst e;have h2 : (List.range i).filter (· != i) = List.range i := List.filter_eq_self.2 fun j hj => by have := List.mem_range.1 hj; simp; omega
    rw [h2, show [i].filter (· != i) = [] by simp];simp only [List.flatMap_cons, List.flatMap_nil, List.append_nil];exact List.perm_append_comm
   ·rw [show [m].filter (· != i) = [m] by simp; omega, ← List.append_assoc];exact (ih Dq).append_right _
 rw [← List.append_assoc];exact (h1 m h).append_right _
theorem sA {ρ ρ' : Rf} {f : Nat → Value} {ds : List (Nat × Nat)} (h1 : ∀ p ∈ ds, ρ' p.2 = f p.1) (h2 : ∀ s, (∀ p ∈ ds, p.2 ≠ s) → ρ' s = ρ s) (hn : (ds.map (·.2)).Nodup) : ρ' = iC ρ f ds := funext fun s => by
 obtain ⟨h3, h4⟩ := eP (ρ := ρ) f ds s hn;by_cases h : ∃ p ∈ ds, p.2 = s
 ·obtain ⟨p, hp, rfl⟩ := h;rw [h3 p.1 hp];exact h1 p hp
 ·rw [h4 fun i hi => h ⟨(i, s), hi, rfl⟩];exact h2 s fun p hp e => h ⟨p, hp, e⟩
theorem OG.imp {ops : Array Oper} {o : Oper} {K K' : Value → World → Prop} (h : OG P ops o ρ w K) (hk : ∀ v w', K v w' → K' v w') : OG P ops o ρ w K' := ⟨fun a next Q ha hn => h.out a next Q ha fun v w' hv => hn v w' (hk v w' hv)⟩
theorem ir {L : Array Bool} {i j : Nat} (h : i < L.size) : (L.setIfInBounds i true).getD j false = (decide (j = i) || L.getD j false) := by
 rw [Array.getD_eq_getD_getElem?, Array.getD_eq_getD_getElem?, Array.getElem?_setIfInBounds];by_cases e : i = j
 ·subst e;simp [h]
 ·rw [if_neg e, decide_eq_false (fun e2 => e e2.symm), Bool.false_or]
theorem wL {L : Array Bool} {i : Nat} (h : i < L.size) (hu : L.getD i false = false) : ∀ m, i < m → (List.range m).countP (fun j => (L.setIfInBounds i true).getD j false) = (List.range m).countP (fun j => L.getD j false) + 1 := by
 have hlow : ∀ m, m ≤ i → (List.range m).countP (fun j => (L.setIfInBounds i true).getD j false) = (List.range m).countP (fun j => L.getD j false) := fun m hm => by
  refine List.countP_congr fun j hj => ?_;have := List.mem_range.1 hj;rw [ir h, decide_eq_false Dq, Bool.false_or]
 intro m
 induction m with
 | zero => intro h; omega
 | succ m ih =>
  intro hm;rw [List.range_succ, List.countP_append, List.countP_append];by_cases e : i = m
  ·subst e;rw [hlow i (Nat.le_refl _), List.countP_singleton, List.countP_singleton, ir h, hu];simp
  ·rw [ih Dq, List.countP_singleton, List.countP_singleton, ir h, decide_eq_false Dq, Bool.false_or];omega
theorem o6 {L : Array Bool} {m : Nat} (h : ∀ i, i < m → L.getD i false = true) : (List.range m).countP (fun j => L.getD j false) = m := by
 rw [List.countP_eq_length.2 fun j hj => h j (List.mem_range.1 hj), List.length_range]
theorem ni {α β : Type} {f g : α → List β} : ∀ {l : List α}, (∀ x ∈ l, f x = g x) → l.flatMap f = l.flatMap g
 | [], _ => rfl
 | x :: l, h => by rw [List.flatMap_cons, List.flatMap_cons, h x List.mem_cons_self, ni fun y hy => h y (List.mem_cons_of_mem _ hy)]
theorem uf {m : Nat} {p : Nat → Bool} (h : (List.range m).all p = true) {i : Nat} (hi : i < m) : p i = true := List.all_eq_true.1 h i (List.mem_range.2 hi)
theorem Bn {l : List Oper} {w0 : World} {m : Nat} {dst : Nat → Nat} {S : Lv} {pre : Nat → List HE} {rest : List HE} {ds : List (Nat × Nat)} (hds : ∀ p ∈ ds, p.1 < m ∧ p.2 = dst p.1) (hds2 : ∀ i, i < m → (i, dst i) ∈ ds) (hnd : (ds.map (·.2)).Nodup) (hinj : ∀ i j, i < m → j < m → dst i = dst j → i = j)
  (hml : m ≤ l.length) (hop : ∀ i, i < m → ∃ o, l[i]? = some o ∧ o.dst = some (dst i) ∧ dst i < N ∧ ∀ e ∈ o.after, Region.binds .any e = true → e.on < i)
  (htl : ∀ k, m ≤ k → k < l.length → ∃ o, l[k]? = some o ∧ ∀ j, j < m → waits o j = true)
  (hrd : ((List.range (l.length - m)).all fun k => Region.ready .any l.toArray (fu l.length (m + k)) == [m + k]) = true) (hend : Region.ready .any l.toArray (fu l.length l.length) = [])
  (hs : AY m (Spec P l w0 ρ dst m S pre rest))
  (hfin : ∀ (f : Nat → Value) (R : Nat → List HE) (w' : World), (∀ i, i < m → S i (f i) (R i)) → Hp w0 ((List.range m).flatMap R ++ rest) w' → WL .plain P N l.toArray Q (l.drop m) (iC ρ f ds) w') :
  ∀ (fuel : Nat) (L : Array Bool) (ρ1 : Rf) (w1 : World) (R : Nat → List HE), L.size = l.length → (∀ j, m ≤ j → L.getD j false = false) → fuel + (List.range m).countP (fun j => L.getD j false) = l.length →
   (∀ s, (∀ j, j < m → L.getD j false = true → dst j ≠ s) → ρ1 s = ρ s) → (∀ j, j < m → L.getD j false = true → S j (ρ1 (dst j)) (R j)) → (∀ j, j < m → L.getD j false = false → R j = pre j) → Hp w0 ((List.range m).flatMap R ++ rest) w1 → WA P N l.toArray Q fuel L ρ1 w1 := by
 intro fuel
 induction fuel with
 | zero =>
  intro L ρ1 w1 R hsz htail hcnt hag hS hpre hh;have hall : ∀ i, i < m → L.getD i false = true := by
   have h1 : (List.range m).countP (fun j => L.getD j false) ≤ m := by have := List.countP_le_length (p := fun j => L.getD j false) (l := List.range m); rwa [List.length_range] at this
   have h2 : (List.range m).countP (fun j => L.getD j false) = (List.range m).length := by rw [List.length_range]; omega
   intro i hi;exact List.countP_eq_length.1 h2 i (List.mem_range.2 hi)
  have hL := j2 hsz hml hall htail;have hρ : ρ1 = iC ρ (fun i => ρ1 (dst i)) ds := sA (f := fun i => ρ1 (dst i)) (fun p hp => by rw [(hds p hp).2]) (fun s hs2 => hag s fun j hj _ => hs2 _ (hds2 j hj)) hnd;refine dT m hml hL (by have := o6 hall; omega) hrd hend ?_;have := hfin (fun i => ρ1 (dst i)) R w1 (fun i hi => hS i hi (hall i hi)) hh;rwa [← hρ] at this
 | succ fuel ih =>
  intro L ρ1 w1 R hsz htail hcnt hag hS hpre hh;by_cases hall : ∀ i, i < m → L.getD i false = true
  ·have hL := j2 hsz hml hall htail;have hρ : ρ1 = iC ρ (fun i => ρ1 (dst i)) ds := sA (f := fun i => ρ1 (dst i)) (fun p hp => by rw [(hds p hp).2]) (fun s hs2 => hag s fun j hj _ => hs2 _ (hds2 j hj)) hnd;refine dT m hml hL (by have := o6 hall; omega) hrd hend ?_;have := hfin (fun i => ρ1 (dst i)) R w1 (fun i hi => hS i hi (hall i hi)) hh;rwa [← hρ] at this
  ·have und : ∀ i, i < l.length → (L.getD i true = false ↔ L.getD i false = false) := fun i hi => by
    have h1 : i < L.size := by rw [hsz]; exact hi
    rw [Array.getD_eq_getD_getElem?, Array.getD_eq_getD_getElem?, Array.getElem?_eq_getElem h1];simp
   refine x8 (fun hnil => ?_) fun i hi => ?_
   ·obtain ⟨i, h1, h2, h3⟩ := re hall;obtain ⟨o, ho, _, _, he⟩ := hop i h1;have : i ∈ Region.ready .any l.toArray L := qO.2 ⟨Dq, (und i Dq).2 h2, o, ho, fun e he1 he2 => h3 _ (he e he1 he2)⟩;rw [hnil] at this
    cases this
   ·obtain ⟨hil, hun, o, ho, hed⟩ := qO.1 hi;rw [und i hil] at hun;have hwait : ∀ j, waits o j = true → L.getD j false = true := fun j hj => by
     obtain ⟨e, he1, he2⟩ := List.any_eq_true.1 hj;rw [Bool.and_eq_true, beq_iff_eq] at he2;rw [← he2.1];exact hed e (by simpa using he1) he2.2
    have him : i < m := by
     rcases Nat.lt_or_ge i m with h | h
     ·exact h
     ·obtain ⟨o2, ho2, h2⟩ := htl i h hil;rw [ho] at ho2
      cases ho2
      exact absurd (fun j hj => hwait j (h2 j hj)) hall
    obtain ⟨o2, ho2, hd, hN, hlt⟩ := hop i him;rw [ho] at ho2
    cases ho2
    obtain ⟨o3, ho3, hsp⟩ := hs.get i him;rw [ho] at ho3
    cases ho3
    refine ⟨o, dst i, by simpa using ho, hd, hN, ?_⟩;have hiL : i < L.size := by rw [hsz]; exact hil
    refine (hsp ρ1 w1 (((List.range m).filter (· != i)).flatMap R ++ rest) R (fun s hs2 => hag s fun j hj _ => hs2 j hj) (fun j hj => ?_) (fun x hx => List.mem_append_right _ hx) ?_).imp fun v w' ⟨R', h1, h2⟩ => ?_
    ·have hjd := hwait j hj;have hjm : j < m := by
      obtain ⟨e, he1, he2⟩ := List.any_eq_true.1 hj;rw [Bool.and_eq_true, beq_iff_eq] at he2;have := hlt e (by simpa using he1) he2.2;omega
     refine ⟨hS j hjm hjd, fun x hx => List.mem_append_left _ (List.mem_flatMap.2 ⟨j, List.mem_filter.2 ⟨List.mem_range.2 hjm, ?_⟩, hx⟩)⟩;have : j ≠ i := fun e => by rw [e, hun] at hjd; cases hjd
     simpa using this
    ·rw [← hpre i him hun];exact hh.perm (n9 him rest)
    ·refine ih _ _ _ (fun j => if j = i then R' else R j) (by rw [Array.size_setIfInBounds]; exact hsz) (fun j hj => ?_) (by rw [wL hiL hun m him]; omega) (fun s hs2 => ?_) (fun j hj hjd => ?_) (fun j hj hjd => ?_) ?_
     ·rw [ir hiL, decide_eq_false Dq, Bool.false_or];exact htail j hj
     ·have hne : dst i ≠ s := hs2 i him (by rw [ir hiL]; simp);rw [gm _ (fun e => hne e.symm)];exact hag s fun j hj hjd => hs2 j hj (by rw [ir hiL, hjd]; simp)
     ·by_cases e : j = i
      ·subst e;rw [if_pos rfl, lK];exact h1
      ·rw [ir hiL, decide_eq_false e, Bool.false_or] at hjd;rw [if_neg e, gm _ (fun e2 => e (hinj j i hj him e2))];exact hS j hj hjd
     ·rw [ir hiL] at hjd;have e : j ≠ i := fun e => by rw [e] at hjd; simp at hjd
      rw [decide_eq_false e, Bool.false_or] at hjd;rw [if_neg e];exact hpre j hj hjd
     ·refine Hp.perm h2 (List.Perm.trans ?_ (n9 (R := fun j => if j = i then R' else R j) him rest).symm);rw [if_pos rfl];have : ((List.range m).filter (· != i)).flatMap (fun j => if j = i then R' else R j) = ((List.range m).filter (· != i)).flatMap R := by
       refine ni fun j hj => ?_;have := (List.mem_filter.1 hj).2;rw [if_neg (by simpa using this)]
      rw [this]
theorem xC {id : Nat} {l : List Oper} {w0 : World} {H : List HE} (m : Nat) (dst : Nat → Nat) (S : Lv) (pre : Nat → List HE) (rest : List HE) (ds : List (Nat × Nat)) (hh : Hp w0 H w) (hH : H.Perm ((List.range m).flatMap pre ++ rest)) (hm : P.follows .mixedOrders = true)
  (hok : AJ l m N dst = true) (hds : ds = ((List.range m).map fun i => (i, dst i)).reverse) (hs : AY m (Spec P l w0 ρ dst m S pre rest))
  (hfin : ∀ (f : Nat → Value) (R : Nat → List HE) (w' : World), AY m (fun i => S i (f i) (R i)) → Hp w0 ((List.range m).flatMap R ++ rest) w' → WL .plain P N l.toArray Q (l.drop m) (iC ρ f ds) w') : WC .plain P N (.region id l.toArray true) Q ρ w := by
 refine jh hh hm fun w' hj => ?_;simp only [AJ, Bool.and_eq_true, decide_eq_true_eq] at hok;obtain ⟨⟨⟨⟨⟨hml, h1⟩, h2⟩, h3⟩, h4⟩, h5⟩ := hok;have hop : ∀ i, i < m → ∃ o, l[i]? = some o ∧ o.dst = some (dst i) ∧ dst i < N ∧ ∀ e ∈ o.after, Region.binds .any e = true → e.on < i := fun i hi => by
  have := uf h1 hi;split at this
  ·rename_i o ho;simp only [Bool.and_eq_true, beq_iff_eq, decide_eq_true_eq] at this;refine ⟨o, ho, this.1.1, this.1.2, fun e he hb => ?_⟩;have h6 := List.all_eq_true.1 this.2 e (by simpa using he);simpa [hb] using h6
  ·cases this
 have hmem : ∀ i, i < m → (i, dst i) ∈ ds := fun i hi => by rw [hds, List.mem_reverse]; exact List.mem_map.2 ⟨i, List.mem_range.2 hi, rfl⟩
 have hmap : ds.map (·.2) = ((List.range m).map dst).reverse := by rw [hds, List.map_reverse, List.map_map]; rfl
 refine Bn (w0 := w0) (pre := pre) (rest := rest) (S := S) (ds := ds) (fun p hp => ?_) hmem (by rw [hmap]; exact (List.reverse_perm _).nodup_iff.2 h2) (fun i j hi hj he => ?_) hml hop (fun k hk hkl => ?_) h4 (eq_of_beq h5) hs (fun f R w2 hS hh2 => hfin f R w2 (yo hS) hh2) l.length (Array.replicate l.length false) ρ w' pre (by simp) (fun j _ => ?_) ?_ (fun s _ => rfl) (fun j hj hjd => ?_) (fun j _ _ => rfl) (Hp.perm hj.hp hH)
 ·rw [hds, List.mem_reverse] at hp;obtain ⟨i, hi, rfl⟩ := List.mem_map.1 hp;exact ⟨List.mem_range.1 hi, rfl⟩
 ·have hi2 : ((List.range m).map dst)[i]? = some (dst i) := by rw [List.getElem?_map, List.getElem?_range hi]; rfl
  have hj2 : ((List.range m).map dst)[j]? = some (dst j) := by rw [List.getElem?_map, List.getElem?_range hj]; rfl
  exact (List.getElem?_inj (by rw [List.length_map, List.length_range]; exact hi) h2).1 (by rw [hi2, hj2, he])
 ·have := uf h3 (show k - m < l.length - m by omega);rw [show m + (k - m) = k by omega] at this;split at this
  ·rename_i o ho;exact ⟨o, ho, fun j hj => uf this hj⟩
  ·cases this
 ·exact kT _ _
 ·rw [List.countP_eq_zero.2 fun j _ => by rw [kT]; decide]
  rfl
 ·rw [kT] at hjd
  cases hjd
def jb (v : Value) : Value → List HE → Prop := fun x R => x = v ∧ R = []
theorem qI {ops : Array Oper} {w0 : World} {H : List HE} (hh : Hp w0 H w) {d : Option Nat} {ty : TypeId} {pos : String} {af : Array Edge} {t e : TypeId} {len sz by' : Nat} {ag : Bool} {parts : Array (Nat × Operand)} {ps : List (Nat × Value)} {zc cs : List Value} (ht : P.underlying t = some (.slice e)) (hte : cZ P e = some (sz, ag, by', zc))
  (hp : pI ρ parts.toList = ps) (hzl : zc.length = sz) (hf : iA (fun i => some (i * sz, sz)) (fS len zc) ps = some cs) (h0 : ¬ len * sz = 0) (hle : len ≤ 1000) (hsl : len * sz ≤ 16777216) (hl : cs.length = len * sz) {K : Value → World → Prop}
  (hk : ∀ b w2, Hp w0 (.row (some ⟨b, 0, none⟩) len len e sz cs :: H) w2 → K (.slice (some ⟨b, 0, none⟩) len len) w2) : OG P ops ⟨d, .buildSlice t len parts, ty, pos, af, none⟩ ρ w K := by
 obtain ⟨z, hz, hzc⟩ := cS (w := w) hte;refine bW rfl (w' := w.alloc (.cells cs.toArray e)) (v := .slice (some ⟨w.heap.size, 0, none⟩) len len) ?_ (hk _ _ (hh.rl e sz len cs hl (by unfold maxLen; omega)));have h16 : ¬ 2 ^ 24 < len * sz := Dq;have hf' := k4 _ _ _ hf;rw [← iS, hzl] at hf';have hzs : zc.toArray.size = sz := by simpa using hzl
 have hp' := nP parts hp;simp only [execOp, hp', Instr.buildSlice, Sem.run_bind, run_underlying ht, Result.andThen_ok, dV hte, gt_iff_lt, if_neg h16, if_neg h0, hz, hzc, Sem.run_pure, hzs, hf'];simp [newRow]
theorem xd {ops : Array Oper} {w0 : World} {H : List HE} (hh : Hp w0 H w) {d : Option Nat} {ty : TypeId} {pos : String} {af : Array Edge} {t : TypeId} {n by' : Nat} {ag : Bool} {zc : List Value} (ht : cZ P t = some (n, ag, by', zc)) {K : Value → World → Prop}
  (hk : ∀ b w2, Hp w0 (.blk b t zc (0, 0) :: H) w2 → K (.pointer (some ⟨b, 0, none⟩)) w2) : OG P ops ⟨d, .alloc t, ty, pos, af, none⟩ ρ w K := by
 obtain ⟨z, hz, hzc⟩ := cS (w := w) ht;exact bW rfl (w' := w.alloc (.cells zc.toArray t)) (v := .pointer (some ⟨w.heap.size, 0, none⟩)) (by simp [execOp, Instr.alloc, newVar, newRow, hz, hzc]) (hk _ _ (hh.qT t zc))
theorem Hp.uT {w0 w : World} {H : List HE} (h : Hp w0 H w) {b o n : Nat} {t : TypeId} {cs vs : List Value} {fz : Nat × Nat} (hm : HE.blk b t cs fz ∈ H) (hv : (cs.drop o).take n = vs) : Rd w ⟨b, o, none⟩ vs := let ⟨_, hi⟩ := List.mem_iff_getElem?.1 hm; h.aw hi hv
theorem Hp.xR {w0 w : World} {H : List HE} (h : Hp w0 H w) {b o : Nat} {t : TypeId} {cs : List Value} {fz : Nat × Nat} {v : Value} (hm : HE.blk b t cs fz ∈ H) (hv : cs[o]? = some v) : w.cell? ⟨b, o, none⟩ = some v := let ⟨_, hi⟩ := List.mem_iff_getElem?.1 hm; h.dK hi hv
theorem Hp.xE {w0 w : World} {H : List HE} (h : Hp w0 H w) {A : Option Addr} {n c sz : Nat} {t : TypeId} {xs : List Value} (hm : HE.row A n c t sz xs ∈ H) : Sl w A n sz xs := let ⟨_, hi⟩ := List.mem_iff_getElem?.1 hm; h.aD hi
end
end Go.Proofs.YteeckcbbnegmcaaGreatDoor
/- The walk through calc.Face. -/
namespace Go.Proofs.YteeckcbbnegmcaaGreatDoor
open Go.RowKit
def tC (j : Nat) (y : Dyadic) (t : TR) : TR := ⟨str (t.m.data.toList.take j ++ t.m.data.toList.drop (j + 1)), nR (t.c.d * y ^ (match t.m.data.toList[j]? with | some e => e.toNat | none => 0))⟩
def kF (j : Nat) (y : Dyadic) (l : List TR) : List TR := l.map (tC j y)
theorem yd {s : ByteArray} {j : Nat} (h : j ≤ s.size) : s.extract 0 j = str (s.data.toList.take j) := by
 apply mn;rw [bC];show (s.extract 0 j).data.toList = _;rw [ByteArray.data_extract];simp
theorem xO {s : ByteArray} {j : Nat} : s.extract j s.size = str (s.data.toList.drop j) := by
 apply mn;rw [bC, ByteArray.data_extract, Array.toList_extract, List.extract_eq_take_drop];refine List.take_of_length_le ?_;rw [List.length_drop, ca];exact Nat.le_refl _
theorem y4 {v : Int} {j : Nat} {y : Dyadic} {t : TR} (hj : (j : Int) < v) (ht : dY v t = true) : dY (v - 1) (tC j y t) = true := by
 unfold dY at ht ⊢;rw [Bool.and_eq_true, decide_eq_true_eq] at ht;rw [Bool.and_eq_true, decide_eq_true_eq];have h1 := ht.2;rw [ca] at h1;refine ⟨?_, ?_⟩
 ·show dq (str _).data.toList = true;rw [bC, gD];intro c hc
  rcases List.mem_append.1 hc with hc | hc
  ·exact gD.1 ht.1 c (List.mem_of_mem_take hc)
  ·exact gD.1 ht.1 c (List.mem_of_mem_drop hc)
 ·show ((str _).size : Int) = v - 1;rw [eh, List.length_append, List.length_take, List.length_drop];omega
theorem zY {v : Int} {ts : List TR} {j k : Nat} {y : Dyadic} (h : gJ v ts = 0) (ho : gx k ts) (hz : ∀ t ∈ ts, t.m.size ≤ 100000) (h0 : (j : Int) < v) (hk0 : k ≤ 1000) (hy : Sz k y) (hk : k ≤ 1000) : jm (v - 1) (kF j y ts) = 0 ∧ gx (k + 128000) (kF j y ts) ∧ ∀ t ∈ kF j y ts, t.m.size ≤ 100000 := by
 obtain ⟨h1, h2, h3, _⟩ := dk h;have hf := gE.1 h1;have hl : (kF j y ts).length ≤ 4096 := by unfold kF; rw [List.length_map]; exact h2
 have hm : ∀ s ∈ kF j y ts, ∃ t ∈ ts, tC j y t = s := fun s hs => List.mem_map.1 hs;refine ⟨?_, fun s hs => ?_, fun s hs => ?_⟩
 ·unfold jm;rw [if_neg, if_neg Dq]
  ·unfold fL;have := eR (kF j y ts);rw [if_neg Dq]
  ·rintro (h5 | h5)
   ·rw [gE.2 Dq] at h5; cases h5
   ·obtain ⟨s, hs, h6⟩ := List.any_eq_true.1 h5;obtain ⟨t, ht, h7⟩ := hm s hs;rw [← h7, y4 h0 (h3 t ht)] at h6
    cases h6
 ·obtain ⟨t, ht, rfl⟩ := hm s hs;have hmx := Bool.and_eq_true_iff.1 (h3 t ht);have hxz : (t.m.size : Int) = v := of_decide_eq_true hmx.2;obtain ⟨e, he⟩ := aG (l := t.m.data.toList) (k := j) (by rw [← ca]; omega);have he8 := gO hmx.1 he;have hs1 : Sz (k + 128000) (t.c.d * y ^ e.toNat) := ((ho t ht).2.mul ((hy.pow e.toNat).mono (show _ ≤ 128000 by have := Nat.mul_le_mul hk (show e.toNat ≤ 127 by omega); omega))).mono Dq;have e1 : (tC j y t).c = nR (t.c.d * y ^ e.toNat) := by unfold tC; rw [he]
  rw [e1];exact ⟨hs1.ok Dq, by rw [dR]; exact hs1⟩
 ·obtain ⟨t, ht, rfl⟩ := hm s hs;have := hz t ht;show (str _).size ≤ _;rw [eh, List.length_append, List.length_take, List.length_drop, ← ca];omega
theorem tk (p : PX) (which : Int) (y : NR) (k : Nat) (w : World) (hT : gK w) (hp : p.at_ w) (lp : p.ja k) (hy : y.ok ∧ Sz k y.d) (hk : k ≤ 1000) :
  Calls Tryz.prog 70 #[.agg #[.int .i64 p.v, .slice p.A p.n p.c], .int .i64 which, .agg #[.bool y.neg, .string y.bM, .int .i64 y.e]] w fun r w' => ∃ g : PX, dg (iG p which) (p.v - 1) (aJ (kF which.toNat y.d p.ts)) g ∧ r = .returned (.tuple #[.agg #[.int .i64 g.v, .slice g.A g.n g.c], .int .i64 (iG p which)]) ∧ Hp w [g.row] w' := by
 have hh := Hp.start w;have hck := fun w1 hT1 hb => p7 p which k w1 hT1 (hp.ext hb) lp;by_cases h0 : iG p which = 0
 ·obtain ⟨hpe, hi0, hiv⟩ := lr h0;rw [h0] at hck ⊢;obtain ⟨hf, h4, hmy, _⟩ := dk hpe;replace hf := gE.1 hf;obtain ⟨pv, pA, pn, pc, ts⟩ := p;replace hpl : ts.length = pn := hp.ln;replace hp : Sl w pA pn 4 (aQ TR.cells ts) := hp;have okp : gx k ts := lp.ok;have szp : ∀ t ∈ ts, t.m.size ≤ 100000 := lp.sz;replace hmy : ∀ t ∈ ts, dY pv t = true := hmy;replace h4 : ts.length ≤ 4096 := h4;replace hf : 0 ≤ pv ∧ pv ≤ 12 := hf;replace hiv : which < pv := hiv;obtain ⟨j, rfl⟩ : ∃ j : Nat, which = (j : Int) := ⟨which.toNat, Dq⟩;rw [show ((j : Int)).toNat = j from rfl];show Calls _ _ _ _ fun r w' => ∃ g : PX, dg 0 (pv - 1) (aJ (kF j y.d ts)) g ∧ r = .returned (.tuple #[.agg #[.int .i64 g.v, .slice g.A g.n g.c], .int .i64 0]) ∧ Hp w [g.row] w';refine aj (N := 62) (l := [.agg #[.int .i64 pv, .slice pA pn pc], .int .i64 j, .agg #[.bool y.neg, .string y.bM, .int .i64 y.e]]) Tryz.func70 rfl rfl (by simp) ?_;refine sr ?_;refine dp hh [_,_] ?_;intro b3 w3 hh;refine dp hh [_,_,_] ?_;intro b5 w5 hh;refine cj hh ?_;intro b6 w6 hh;refine aI (aa (ah (sr ?_)));refine cU hh 2 [_,_] (mI ?_);refine bB hh (hck _ (hT.hp hh) hh.below) rfl ?_;intro w16 hh;refine aI (aa (sr (mI ?_)))
  refine cz (aa (cF (ak (ai (sr ?_)))));refine cj hh ?_;intro b9 w9 hh;refine aa (sr (aL (aa (ah (sr (bG ?_))))));refine bI hh 3 ?_;refine a4 (mI (aa (ao ?_)));replace hh := (hh.eN 65 3).eN 96 4;refine de [10, 12, 13, 24, 25, 26, 27, 28, 29, 30, 31, 32, 33, 34, 35, 36, 37, 38, 39, 40, 41, 42, 43, 44, 45, 46, 47, 48, 49, 50, 51, 52, 53, 54] 10 24
   (fun a v w' => ∃ (i : Nat) (M : List TR) (A : Option Addr) (c : Nat) (PA : Option Addr) (pm c2 : Nat), i ≤ pn ∧ v = .int .i64 i ∧ M = kF j y.d (ts.take i) ∧ a = .slice A M.length c ∧ pm ≤ 1000 ∧ Hp w [.row A M.length c 96 4 (aQ TR.cells M), .blk b9 168 [.slice PA pm c2] (0, 0), .row PA pm c2 65 3 (aQ NR.cells (ma y.d pm)), .blk b6 24 [.int .i64 0, .slice none 0 0] (0, 0), .blk b5 65 [.bool y.neg, .string y.bM, .int .i64 y.e] (0, 0), .blk b3 24 [.int .i64 pv, .slice pA pn pc] (0, 0)] w')
   (fun _ v _ => pn - (intOf v).toNat) ?_ ?_
  ·refine ⟨0, [], none, 0, none, 0, 0, Nat.zero_le _, rfl, rfl, rfl, Nat.zero_le _, hh.perm (.cons _ (.swap _ _ _))⟩
  ·clear hh;rintro ρ' a_ v w' ⟨i, M, A, c, PA, pm, c2, hi, rfl, hM, rfl, hpm, hh⟩;have hMl : M.length = i := by rw [hM]; unfold kF; rw [List.length_map, List.length_take]; omega
   by_cases hlt : i < pn
   ·obtain ⟨x, hx⟩ := aG (l := ts) (k := i) Dq;obtain ⟨ad, rfl, hr⟩ := hp.at_ Dq;have hxo := okp x (List.mem_of_getElem? hx);have hmx := Bool.and_eq_true_iff.1 (hmy x (List.mem_of_getElem? hx));have hxz : (x.m.size : Int) = pv := of_decide_eq_true hmx.2;obtain ⟨e, he⟩ := aG (l := x.m.data.toList) (k := j) (by rw [← ca]; omega);have he8 := gO hmx.1 he;have zp : Sz 128000 (y.d ^ e.toNat) := (hy.2.pow e.toNat).mono (by have := Nat.mul_le_mul hk (show e.toNat ≤ 127 by omega); omega);have hdm := fun A cc w1 hT1 hS1 => gh A 2 cc [x.c, nR (y.d ^ e.toNat)] w1 hT1 hS1 (by simpa using ⟨hxo.1, zp.ok Dr⟩) 130000 (by simpa [dR] using ⟨hxo.2.mono Dq, zp.mono Dr⟩) Dr Dr;rw [show gM ([x.c, nR (y.d ^ e.toNat)].map NR.d) = x.c.d * y.d ^ e.toNat by show 1 * x.c.d * (nR _).d = _; rw [dR, Dyadic.one_mul]] at hdm;refine sr ?_;refine a3 (aa (ah (cT (ak (ai (ah (ao (sr ?_))))))));refine aZ (k := i) aF.out aC.size rfl rfl Dq Dq Dr ?_;refine bZ (vs := [_, _, _, _]) aC.out rfl ((hr.ext hh.below).recAt TR.len hx) rfl Dr ?_;refine cj hh ?_;intro b12 w12 hh;refine bD hh 0 [_,_,_,_] ?_;intro ws hh;replace hh : Hp _ (.blk _ _ [_, _, _, _] _ :: _) _ := hh;refine aa (ah ?_)
    have mb12 : (.blk b12 96 [.string x.m, .bool x.c.neg, .string x.c.bM, .int .i64 x.c.e] (0, 0) : HE) ∈ [.blk b12 96 [.string x.m, .bool x.c.neg, .string x.c.bM, .int .i64 x.c.e] (0, 0), .row A M.length c 96 4 (aQ TR.cells M), .blk b6 24 [.int .i64 0, .slice none 0 0] (0, 0), .blk b5 65 [.bool y.neg, .string y.bM, .int .i64 y.e] (0, 0), .blk b3 24 [.int .i64 pv, .slice (some ad) pn pc] (0, 0)] := by simp
    have mb5 : (.blk b5 65 [.bool y.neg, .string y.bM, .int .i64 y.e] (0, 0) : HE) ∈ [.blk b12 96 [.string x.m, .bool x.c.neg, .string x.c.bM, .int .i64 x.c.e] (0, 0), .row A M.length c 96 4 (aQ TR.cells M), .blk b6 24 [.int .i64 0, .slice none 0 0] (0, 0), .blk b5 65 [.bool y.neg, .string y.bM, .int .i64 y.e] (0, 0), .blk b3 24 [.int .i64 pv, .slice (some ad) pn pc] (0, 0)] := by simp
    refine xC 12 (fun i => [28, 29, 30, 31, 32, 33, 34, 35, 36, 37, 38, 13].getD i 0) (fun i => [jb (.pointer (some ⟨b12, 0 + 1, none⟩)), jb (.agg #[.bool x.c.neg, .string x.c.bM, .int .i64 x.c.e]), jb (.agg #[.bool y.neg, .string y.bM, .int .i64 y.e]), jb (.pointer (some ⟨b12, 0 + 0, none⟩)), jb (.string x.m), jb (.int .i64 j), jb (.int .u8 e.toNat), jb (.int .i64 e.toNat), fun v R => v = .agg #[.bool (nR (y.d ^ e.toNat)).neg, .string (nR (y.d ^ e.toNat)).bM, .int .i64 (nR (y.d ^ e.toNat)).e] ∧ ∃ (A2 : Option Addr) (m2 c3 : Nat), m2 ≤ 1000 ∧ R = [.blk b9 168 [.slice A2 m2 c3] (0, 0), .row A2 m2 c3 65 3 (aQ NR.cells (ma y.d m2))], fun v R => ∃ b : Nat, v = .slice (some ⟨b, 0, none⟩) 2 2 ∧ R = [.row (some ⟨b, 0, none⟩) 2 2 65 3 (aQ NR.cells [x.c, nR (y.d ^ e.toNat)])], jb (.agg #[.bool (nR (x.c.d * y.d ^ e.toNat)).neg, .string (nR (x.c.d * y.d ^ e.toNat)).bM, .int .i64 (nR (x.c.d * y.d ^ e.toNat)).e]), fun v R => ∃ b : Nat, v = .pointer (some ⟨b, 0, none⟩) ∧ R = [.blk b 65 [.bool false, .string (ByteArray.mk #[]), .int .i64 0] (0, 0)]].getD i (jb undef)) (fun i => [[], [], [], [], [], [], [], [], [.blk b9 168 [.slice PA pm c2] (0, 0), .row PA pm c2 65 3 (aQ NR.cells (ma y.d pm))], [], [], []].getD i []) [.blk b12 96 [.string x.m, .bool x.c.neg, .string x.c.bM, .int .i64 x.c.e] (0, 0), .row A M.length c 96 4 (aQ TR.cells M), .blk b6 24 [.int .i64 0, .slice none 0 0] (0, 0), .blk b5 65 [.bool y.neg, .string y.bM, .int .i64 y.e] (0, 0), .blk b3 24 [.int .i64 pv, .slice (some ad) pn pc] (0, 0)] _ hh ((List.perm_append_comm (l₁ := [_, _]) (l₂ := [_, _])).append_right _) mixed Dt rfl ⟨⟨⟨⟨⟨⟨⟨⟨⟨⟨⟨⟨trivial, ?s0⟩, ?s1⟩, ?s2⟩, ?s3⟩, ?s4⟩, ?s5⟩, ?s6⟩, ?s7⟩, ?s8⟩, ?s9⟩, ?s10⟩, ?s11⟩ ?fin
    case s0 => exact ⟨_, rfl, fun ρ1 w1 F R ha hd hr (hh : Hp w F w1) => bW rfl (iq (b := b12) (o := 0) (off := 1) dJ.out (ha 12 Dr)) ⟨[], ⟨rfl, rfl⟩, hh⟩⟩
    case s1 => exact ⟨_, rfl, fun ρ1 w1 F R ha hd hr (hh : Hp w F w1) => bW rfl (kQ (vs := [_, _, _]) aC.out (show jb (.pointer (some ⟨b12, 0 + 1, none⟩)) (ρ1 28) (R 0) from (hd 0 rfl).1).1 (hh.uT (n := 3) (hr _ mb12) rfl) rfl) ⟨[], ⟨rfl, rfl⟩, hh⟩⟩
    case s2 => exact ⟨_, rfl, fun ρ1 w1 F R ha hd hr (hh : Hp w F w1) => bW rfl (kQ (vs := [_, _, _]) aC.out (ha 5 Dr) (hh.uT (n := 3) (hr _ mb5) rfl) rfl) ⟨[], ⟨rfl, rfl⟩, hh⟩⟩
    case s3 => exact ⟨_, rfl, fun ρ1 w1 F R ha hd hr (hh : Hp w F w1) => bW rfl (iq (b := b12) (o := 0) (off := 0) dJ.out (ha 12 Dr)) ⟨[], ⟨rfl, rfl⟩, hh⟩⟩
    case s4 => exact ⟨_, rfl, fun ρ1 w1 F R ha hd hr (hh : Hp w F w1) => bW rfl (gP aC.out (show jb (.pointer (some ⟨b12, 0 + 0, none⟩)) (ρ1 31) (R 3) from (hd 3 rfl).1).1 (hh.xR (o := 0) (hr _ mb12) rfl)) ⟨[], ⟨rfl, rfl⟩, hh⟩⟩
    case s5 => exact ⟨_, rfl, fun ρ1 w1 F R ha hd hr (hh : Hp w F w1) => bW rfl (cQ (ha 1 Dr)) ⟨[], ⟨rfl, rfl⟩, hh⟩⟩
    case s6 => exact ⟨_, rfl, fun ρ1 w1 F R ha hd hr (hh : Hp w F w1) => bW rfl (jM aF.out (show jb (.string x.m) (ρ1 32) (R 4) from (hd 4 rfl).1).1 (show jb (.int .i64 j) (ρ1 33) (R 5) from (hd 5 rfl).1).1 Dq he) ⟨[], ⟨rfl, rfl⟩, hh⟩⟩
    case s7 => exact ⟨_, rfl, fun ρ1 w1 F R ha hd hr (hh : Hp w F w1) => bW rfl (kG aF.out aF.out (show jb (.int .u8 e.toNat) (ρ1 34) (R 6) from (hd 6 rfl).1).1 Dq Dq) ⟨[], ⟨rfl, rfl⟩, hh⟩⟩
    case s8 => exact ⟨_, rfl, fun ρ1 w1 F R ha hd hr hh => bJ rfl (aW aq.out (ay (show ρ1 9 = Value.pointer (some ⟨b9, 0, none⟩) from ha 9 Dr) (ay (show jb (.agg #[.bool y.neg, .string y.bM, .int .i64 y.e]) (ρ1 30) (R 2) from (hd 2 rfl).1).1 (ay (show jb (.int .i64 e.toNat) (ρ1 35) (R 7) from (hd 7 rfl).1).1 a0)))) (pk dK y e.toNat pm PA c2 k w1 hT hh Dq hpm hy hk) fun r w2 ⟨h1, A2, m2, c3, h2, h3⟩ => ⟨_, h1, [_, _], ⟨rfl, A2, m2, c3, h2, rfl⟩, h3⟩⟩
    case s9 => exact ⟨_, rfl, fun ρ1 w1 F R ha hd hr (hh : Hp w F w1) => qI (sz := 3) (cs := aQ NR.cells [x.c, nR (y.d ^ e.toNat)]) hh aF.out aC.out (show pI ρ1 [(0, .tmp 29), (1, .tmp 36)] = [(0, .agg #[.bool x.c.neg, .string x.c.bM, .int .i64 x.c.e]), (1, .agg #[.bool (nR (y.d ^ e.toNat)).neg, .string (nR (y.d ^ e.toNat)).bM, .int .i64 (nR (y.d ^ e.toNat)).e])] from aY (show ρ1 29 = _ from (show jb (.agg #[.bool x.c.neg, .string x.c.bM, .int .i64 x.c.e]) (ρ1 29) (R 1) from (hd 1 rfl).1).1) (aY (show ρ1 36 = _ from (hd 8 rfl).1.1) bQ)) rfl rfl Dr Dr Dr rfl fun b w2 h2 => ⟨[_], ⟨b, rfl, rfl⟩, h2⟩⟩
    case s10 => exact ⟨_, rfl, fun ρ1 w1 F R ha hd hr (hh : Hp w F w1) => let ⟨b, e9, r9⟩ := (show ∃ b : Nat, ρ1 37 = .slice (some ⟨b, 0, none⟩) 2 2 ∧ R 9 = [.row (some ⟨b, 0, none⟩) 2 2 65 3 (aQ NR.cells [x.c, nR (y.d ^ e.toNat)])] from (hd 9 rfl).1); bJ rfl (aW aq.out (ay e9 a0)) (hdm _ _ w1 (hT.hp hh) (hh.xE ((hd 9 rfl).2 _ (r9 ▸ List.mem_cons_self)))) fun r w2 hq => ⟨_, hq.1, [], ⟨rfl, rfl⟩, hh.ext hq.2⟩⟩
    case s11 => exact ⟨_, rfl, fun ρ1 w1 F R ha hd hr (hh : Hp w F w1) => xd hh aC.out fun b w2 h2 => ⟨[_], ⟨b, rfl, rfl⟩, h2⟩⟩
    clear hh;rintro f R W ⟨⟨⟨⟨⟨⟨⟨⟨⟨⟨⟨⟨-, s0⟩, s1⟩, s2⟩, s3⟩, s4⟩, s5⟩, s6⟩, s7⟩, s8⟩, s9⟩, s10⟩, s11⟩ hh;obtain ⟨e0, r0⟩ := s0;obtain ⟨e1, r1⟩ := s1;obtain ⟨e2, r2⟩ := s2;obtain ⟨e3, r3⟩ := s3;obtain ⟨e4, r4⟩ := s4;obtain ⟨e5, r5⟩ := s5;obtain ⟨e6, r6⟩ := s6;obtain ⟨e7, r7⟩ := s7;obtain ⟨e8, A2, m2, c3, hm2, r8⟩ := s8;obtain ⟨b37, e9, r9⟩ := s9;obtain ⟨e10, r10⟩ := s10;obtain ⟨b13, e11, r11⟩ := s11;rw [show List.range 12 = [0, 1, 2, 3, 4, 5, 6, 7, 8, 9, 10, 11] from rfl] at hh;simp only [List.flatMap_cons, List.flatMap_nil, r0, r1, r2, r3, r4, r5, r6, r7, r8, r9, r10, r11, List.nil_append, List.append_nil, List.cons_append] at hh;refine a6 (bk (ae e11 (ae e10 (ae e9 (ae e8 (ae e7 (ae e6 (ae e5 (ae e4 (ae e3 (ae e2 (ae e1 (ae e0 a5))))))))))))) ?_;dsimp only [cJ];refine bD hh 3 [_,_,_] ?_;intro ws hh;replace hh : Hp _ (_ :: _ :: _ :: .blk _ _ [_, _, _] _ :: _) _ := hh;refine aa ?_;have hjl : j < x.m.data.toList.length := (List.getElem?_eq_some_iff.1 he).1;have hjs : j + 1 ≤ x.m.size := by rw [ca]; omega
    have hsz100 := szp x (List.mem_of_getElem? hx);have hc1 : (str (x.m.data.toList.take j)).size + (str (x.m.data.toList.drop (j + 1))).size ≤ 9223372036854775807 := by rw [eh, eh, List.length_take, List.length_drop, ← ca]; omega
    refine bg 14 [[(10, none)], [(12, none)], [(40, some 1)], [(1, none)], [(41, some 2), (42, some 3)], [(12, none)], [(44, some 5)], [(1, none)], [(46, some 7)], [(45, some 6), (47, some 8)], [(43, some 4), (48, some 9)], [(13, none)], [(49, some 10), (50, some 11)], [(51, some 12)]] [(13, 52), (12, 51), (11, 50), (10, 49), (9, 48), (8, 47), (7, 46), (6, 45), (5, 44), (4, 43), (3, 42), (2, 41), (1, 40), (0, 39)] hh mixed Dt ?_;refine jv ?_;refine dX ?_;refine fT 4 ?_;refine fW ?_;refine bj (i := 4) (Is (.string (str (x.m.data.toList.take j)))) (Is.ext) ?_ ?_
    ·intro ρ1 w1 hj hR;exact bW rfl ((jT (ρ := ρ1) (x := .tmp 41) (lo := none) (hi := some (.tmp 42)) (l := 0) (h := j) aF.out (show ρ1 41 = Value.string x.m from hR.1) rfl ⟨.i64, j, hR.2.1, rfl⟩ (Nat.zero_le _) Dq).trans (by rw [yd Dq])) ⟨Below.refl _ _, rfl⟩
    refine dX ?_;refine fT 4 ?_;refine fW ?_;refine yB ?_;refine bj (i := 9) (Is (.string (str (x.m.data.toList.drop (j + 1))))) (Is.ext) ?_ ?_
    ·intro ρ1 w1 hj hR;exact bW rfl ((jT (ρ := ρ1) (x := .tmp 45) (lo := some (.tmp 47)) (hi := none) (l := j + 1) (h := x.m.size) aF.out (show ρ1 45 = Value.string x.m from hR.1) ⟨.i64, (j : Int) + 1, hR.2.1, rfl⟩ rfl hjs (Nat.le_refl _)).trans (by rw [xO])) ⟨Below.refl _ _, rfl⟩
    refine bj (i := 10) (Is (.string (str (x.m.data.toList.take j ++ x.m.data.toList.drop (j + 1))))) (Is.ext) ?_ ?_
    ·intro ρ1 w1 hj hR;exact bW rfl ((B7 (ρ := ρ1) (x := .tmp 43) (y := .tmp 48) (show ρ1 43 = Value.string _ from hR.1) (show ρ1 48 = Value.string _ from hR.2.1) hc1).trans (by rw [tL])) ⟨Below.refl _ _, rfl⟩
    refine fX 3 [_,_,_] ?_;refine dB [_,_,_,_] ?_;refine tF [_,_,_,_] ?_;refine bq ?_;intro f W hJ hV;have hb_10 := hJ.bl;obtain ⟨v52, v51, v50, v49, v48, v47, v46, v45, v44, v43, v42, v41, v40, v39, _⟩ := hV;obtain ⟨A52, c52, e52, f52⟩ : Rows _ _ _ (f 13) W := v52;replace hh := hJ.hp;refine a6 (bk (ae e52 (ae v51 (ae v50 (ae v49 (ae v48 (ae v47 (ae v46 (ae v45 (ae v44 (ae v43 (ae v42 (ae v41 (ae v40 (ae v39 a5))))))))))))))) ?_;dsimp only [cJ];clear e52 hJ;refine ck hh (i := 5) rfl rfl rfl (f52) aF.out aC.out rfl Dr (by first | rfl | exact cw _ | exact bU _ | exact oneCells_i64s _ | exact bL NR.one _) Dq Dq Dr ?_;intro A53 c53 w53 hh;simp only [List.set_cons_zero, List.set_cons_succ] at hh;refine aL (aE (aX (ai (ar ?_))));refine bO (mI (aE (ai ?_)));replace hh := hh.sub (List.Sublist.cons_cons _ (List.Sublist.cons_cons _ (List.Sublist.cons _ (List.Sublist.cons _ (List.Sublist.cons _ (List.Sublist.cons_cons _ (List.Sublist.cons_cons _ (List.Sublist.cons_cons _ (List.Sublist.cons_cons _ List.Sublist.slnil)))))))));replace hh := hh.perm (List.perm_middle (l₁ := [_, _]));simp only [List.cons_append, List.nil_append] at hh
    have hft : tC j y.d x = ⟨str (x.m.data.toList.take j ++ x.m.data.toList.drop (j + 1)), nR (x.c.d * y.d ^ e.toNat)⟩ := by unfold tC; rw [he]
    refine ⟨⟨i + 1, M ++ [tC j y.d x], A53, c53, A2, m2, c3, Dq, rfl, by rw [hM]; unfold kF; rw [aT hx, List.map_append]; rfl, by rw [List.length_append]; rfl, hm2, by rw [List.length_append, cn, iU, hft]; exact hh⟩, by show pn - (i + 1) < pn - i; omega, ?_⟩;exact Du
   ·obtain rfl : i = pn := Dq;rw [List.take_of_length_le Dq] at hM;have hmk : jm (pv - 1) M = 0 ∧ gx (k + 128000) M ∧ ∀ t ∈ M, t.m.size ≤ 100000 := by
     rw [hM];exact zY hpe okp szp Dq Dq hy.2 hk
    have hmc := fun A c w1 hT1 hS1 => jy (pv - 1) A M.length c M (k + 128000) w1 hT1 hS1 Dq Dq hmk.2.1 hmk.2.2;rw [hmk.1] at hmc;refine sr ?_;refine a3 (aa (ah (cF (aV (aA (aA (a8 (ai (sr (bG ?_))))))))));refine bI hh 5 ?_;refine ek (mL ?_);refine aK (hmc _ _ _ (hT.hp hh) (hh.aD (i := 0) rfl)) aq.out rfl Dr ?_;rintro e_ w59 ⟨g, og, rfl, h3⟩;refine ⟨_, rfl, ?_⟩;replace hh := hh.join h3;simp only [List.cons_append, List.nil_append] at hh;refine da ?_;refine da ?_;refine bD hh 4 [_,_] ?_;intro ws hh;replace hh : Hp _ (_ :: _ :: _ :: _ :: .blk _ _ [_, _] _ :: _) _ := hh;refine aI (aa (al ?_));refine j0 (aN rfl (aO (vs := [_, _]) aC.out (hh.aw (i := 4) (n := 2) rfl rfl) rfl) (cf (cO rfl) a7)) ?_;rw [hM] at og;exact ⟨g, og, rfl, hh.sub (List.Sublist.cons_cons _ (List.nil_sublist _))⟩
 ·generalize iG p which = e at *;refine aj (N := 62) (l := [.agg #[.int .i64 p.v, .slice p.A p.n p.c], .int .i64 which, .agg #[.bool y.neg, .string y.bM, .int .i64 y.e]]) Tryz.func70 rfl rfl (by simp) ?_;refine sr ?_;refine dp hh [_,_] ?_;intro b3 w3 hh;refine dp hh [_,_,_] ?_;intro b5 w5 hh;refine cj hh ?_;intro b6 w6 hh;refine aI (aa (ah (sr ?_)));refine cU hh 2 [_,_] (mI ?_);refine bB hh (hck _ (hT.hp hh) hh.below) rfl ?_;intro w16 hh;refine aI (aa (sr (mI ?_)));refine cz (aa (cT (sr ?_)));refine eX [_,_] (mI ?_);refine bD hh 0 [_,_] ?_;intro ws hh;replace hh : Hp _ (.blk _ _ [_, _] _ :: _) _ := hh;refine aI (aa (al (aH ?_)));refine j0 (aN rfl (aO (vs := [_, _]) aC.out (hh.aw (i := 0) (n := 2) rfl rfl) rfl) (cf (cO rfl) a7)) ?_;exact ⟨PX.nil, dg.err h0, rfl, (hh.sub (List.nil_sublist _)).ju⟩
end Go.Proofs.YteeckcbbnegmcaaGreatDoor
/- The walk through calc.Eval. -/
namespace Go.Proofs.YteeckcbbnegmcaaGreatDoor
open Go.RowKit
def yE (xs : List NR) (m : ByteArray) (k : Nat) : Dyadic := match xs[k]?, m.data.toList[k]? with | some x, some e => x.d ^ e.toNat | _, _ => 1
def yk (c : Dyadic) (xs : List NR) (m : ByteArray) : Nat → Dyadic
 | 0 => c
 | k + 1 => yk c xs m k * yE xs m k
def nE (xs : List NR) (ts : List TR) : Nat → Dyadic
 | 0 => 0
 | i + 1 => nE xs ts i + (match ts[i]? with | some t => yk t.c.d xs t.m xs.length | none => 0)
def kV (p : PX) (n : Nat) : Int := if p.e = 0 then (if (n : Int) = p.v then 0 else 1) else p.e
def nt (p : PX) (xs : List NR) : NR := if kV p xs.length = 0 then nR (nE xs p.ts p.ts.length) else nR 0
abbrev xq := Option Addr × Nat × Nat
def tG (ks : List xq) : List Value := ks.map fun k => .slice k.1 k.2.1 k.2.2
def Cw (y : NR) (k : xq) : HE := .row k.1 k.2.1 k.2.2 65 3 (aQ NR.cells (ma y.d k.2.1))
def wc (ys : List NR) (ks : List xq) : List HE := List.zipWith Cw ys ks
theorem vf {w0 w : World} {H : List HE} (hh : Hp w0 H w) : ∀ ys : List NR, Hp w0 (wc ys (List.replicate ys.length (none, 0, 0)) ++ H) w
 | [] => hh
 | y :: ys => (vf hh ys).eN 65 3
theorem Ak (ks : List xq) : (tG ks).length = ks.length := List.length_map ..
theorem AF (ks : List xq) (i : Nat) (k : xq) : tG (ks.set i k) = (tG ks).set i (.slice k.1 k.2.1 k.2.2) := by unfold tG; rw [List.map_set]
theorem mC {α : Type} : ∀ {l : List α} {i : Nat} {a : α}, l[i]? = some a → l.Perm (a :: l.eraseIdx i)
 | [], i, a, h => by cases h
 | b :: l, 0, a, h => by cases h; exact List.Perm.refl _
 | b :: l, i + 1, a, h => ((mC (l := l) (i := i) h).cons b).trans (.swap _ _ _)
theorem xK {ys : List NR} {ks : List xq} {i : Nat} {y : NR} {k : xq} (hy : ys[i]? = some y) (hk : ks[i]? = some k) : (wc ys ks)[i]? = some (Cw y k) := by
 unfold wc;rw [List.getElem?_zipWith, hy, hk]
theorem qg : ∀ {ys : List NR} {ks : List xq} {i : Nat} {k : xq}, (wc ys (ks.set i k)).eraseIdx i = (wc ys ks).eraseIdx i
 | [], _, _, _ => by unfold wc; simp
 | _ :: _, [], _, _ => by unfold wc; simp
 | y :: ys, k0 :: ks, 0, k => rfl
 | y :: ys, k0 :: ks, i + 1, k => by
  show Cw y k0 :: (wc ys (ks.set i k)).eraseIdx i = Cw y k0 :: (wc ys ks).eraseIdx i;rw [qg]
theorem z9 {xs : List NR} {m : ByteArray} {k : Nat} {x : NR} {e : UInt8} (hx : xs[k]? = some x) (he : m.data.toList[k]? = some e) : yE xs m k = x.d ^ e.toNat := by
 unfold yE;rw [hx, he]
theorem rJ {xs : List NR} {m : ByteArray} {c : Dyadic} {q : Nat} (hc : Sz q c) (hq : q ≤ 1000) (hx : ∀ x ∈ xs, Sz q x.d) (hm : dq m.data.toList = true) : ∀ k, Sz (q + 128000 * k) (yk c xs m k)
 | 0 => hc
 | k + 1 => by
  refine ((rJ hc hq hx hm k).mul (l := 128000) ?_).mono Dq;unfold yE;split
  ·rename_i x e h1 h2;have he := gO hm h2;exact ((hx x (List.mem_of_getElem? h1)).pow e.toNat).mono (by have := Nat.mul_le_mul hq (show e.toNat ≤ 127 by omega); omega)
  ·exact Sz.one.mono Dq
theorem yI {xs : List NR} {ts : List TR} {q : Nat} (hq : q ≤ 1000) (hx : ∀ x ∈ xs, Sz q x.d) (ht : gx q ts) (hm : ∀ t ∈ ts, dq t.m.data.toList = true) (hl : xs.length ≤ 12) : ∀ i, Sz (1600000 + i) (nE xs ts i)
 | 0 => Sz.zero _
 | i + 1 => by
  show Sz (1600000 + i + 1) (nE xs ts i + _);refine (yI hq hx ht hm hl i).add ?_;split
  ·rename_i t h;exact (rJ (ht t (List.mem_of_getElem? h)).2 hq hx (hm t (List.mem_of_getElem? h)) xs.length).mono Dq
  ·exact Sz.zero _
def CQ (w : World) (b : Nat) : Nat := match w.heap[b]? with | some (.stringIter _ p) => p | _ => 0
theorem yz {w0 w : World} {H : List HE} (hh : Hp w0 H w) {i b p : Nat} {s : ByteArray} (hi : H[i]? = some (.it b s p)) : CQ w b = p := by
 unfold CQ;rw [(hh.at_ hi).2]
theorem nw (p : PX) (ys : List NR) (xA : Option Addr) (xn xc : Nat) (k : Nat) (w : World) (hT : gK w) (hp : p.at_ w) (lp : p.ja k) (hS : Sl w xA xn 3 (aQ NR.cells ys)) (hl : ys.length = xn) (hy : ∀ y ∈ ys, y.ok ∧ Sz k y.d) (hk : k ≤ 1000) :
  Calls Tryz.prog 63 #[.agg #[.int .i64 p.v, .slice p.A p.n p.c], .slice xA xn xc] w fun r w' => r = .returned (.tuple #[.agg #[.bool (nt p ys).neg, .string (nt p ys).bM, .int .i64 (nt p ys).e], .int .i64 (kV p xn)]) ∧ Below w.heap.size w w' := by
 have hh := Hp.start w;subst hl;have hck := fun w1 hT1 hb => l0 p k w1 hT1 (hp.ext hb) lp;unfold nt kV;by_cases h0 : p.e = 0
 ·rw [h0] at hck;simp only [if_pos h0];by_cases h1 : (ys.length : Int) = p.v
  ·simp only [if_pos h1];obtain ⟨hf, h4, hmy, _⟩ := dk h0;replace hf := gE.1 hf;obtain ⟨pv, pA, pn, pc, ts⟩ := p;replace hpl : ts.length = pn := hp.ln;replace hp : Sl w pA pn 4 (aQ TR.cells ts) := hp;have okp : gx k ts := lp.ok;have szp : ∀ t ∈ ts, t.m.size ≤ 100000 := lp.sz;replace hmy : ∀ t ∈ ts, dY pv t = true := hmy;replace h4 : ts.length ≤ 4096 := h4;replace hf : 0 ≤ pv ∧ pv ≤ 12 := hf;replace h1 : (ys.length : Int) = pv := h1;subst h1;have hyl : ys.length ≤ 12 := Dq;have pL : ∀ i, i ≤ 4096 → Sz 1700000 (nE ys ts i) := fun i hi => (yI hk (fun y h => (hy y h).2) okp (fun t h => (Bool.and_eq_true_iff.1 (hmy t h)).1) hyl i).mono Dq;show Calls _ _ _ _ fun r w' => r = .returned (.tuple #[.agg #[.bool (nR (nE ys ts ts.length)).neg, .string (nR (nE ys ts ts.length)).bM, .int .i64 (nR (nE ys ts ts.length)).e], .int .i64 0]) ∧ Below w.heap.size w w';refine aj (N := 64) (l := [.agg #[.int .i64 ys.length, .slice pA pn pc], .slice xA ys.length xc]) Tryz.func63 rfl rfl (by simp) ?_;refine sr ?_;refine dp hh [_,_] ?_;intro b2 w2 hh;refine cj hh ?_;intro b4 w4 hh;refine aI (aa (ah (sr ?_)));refine cU hh 1 [_,_] ?_;refine bB hh (hck _ (hT.hp hh) hh.below) rfl ?_;intro w15 hh
   refine aI (aa (sr (mI ?_)));refine cz (aa (cF (ak (ai (ah (sr (mL (a4 (bG ?_)))))))));refine bI hh 1 ?_;refine cz (aa (cF (ak (ai (sr (mL (a4 ?_)))))));refine gw (n := ys.length) hh rfl rfl Dq Dq aF.out aC.out rfl Dq Dq Dr ?_;intro b28 w28 hh;refine aL (aa (sr ?_));refine cj hh ?_;intro b8 w8 hh;refine aa (ah (sr (bG ?_)));refine bI hh 3 ?_;refine a4 (mI (aa (ao ?_)));rw [n5, show List.replicate ys.length (Value.slice none 0 0) = tG (List.replicate ys.length (none, 0, 0)) by unfold tG; rw [List.map_replicate]] at hh;replace hh := (vf hh ys).perm List.perm_append_comm;simp only [List.cons_append, List.nil_append] at hh;refine bF [10, 11, 12, 13, 32, 33, 34, 35, 36, 37, 38, 39, 40, 41, 42, 43, 44, 45, 46, 47, 48, 49, 50, 51, 52, 53, 54, 55, 56, 57, 58, 59, 60, 61, 62] 32
    (fun v w' => ∃ (i : Nat) (ks : List xq), i ≤ pn ∧ v = .int .i64 i ∧ ks.length = ys.length ∧ (∀ q ∈ ks, q.2.1 ≤ 1000) ∧ Hp w (.blk b8 65 [.bool (nR (nE ys ts i)).neg, .string (nR (nE ys ts i)).bM, .int .i64 (nR (nE ys ts i)).e] (0, 0) :: .row (some ⟨b28, 0, none⟩) ys.length ys.length 168 1 (tG ks) :: .blk b4 65 [.bool false, .string (ByteArray.mk #[]), .int .i64 0] (0, 0) :: .blk b2 24 [.int .i64 ys.length, .slice pA pn pc] (0, 0) :: wc ys ks) w')
    (fun v _ => pn - (intOf v).toNat) ?_ ?_
   ·exact ⟨0, _, Nat.zero_le _, rfl, List.length_replicate, fun q hq => by rw [List.eq_of_mem_replicate hq]; exact Nat.zero_le _, hh⟩
   ·clear hh;rintro ρ' v w' ⟨i, ks, hi, rfl, hkl, hkm, hh⟩;by_cases hlt : i < pn
    ·obtain ⟨x, hx⟩ := aG (l := ts) (k := i) Dq;obtain ⟨ad, rfl, hr⟩ := hp.at_ Dq;have hxo := okp x (List.mem_of_getElem? hx);have hmx := Bool.and_eq_true_iff.1 (hmy x (List.mem_of_getElem? hx));have hxz : (x.m.size : Int) = ys.length := of_decide_eq_true hmx.2;refine sr ?_;refine a3 (aa (ah (cT (ak (ai (ah (ao (sr ?_))))))));refine aZ (k := i) aF.out aC.size rfl rfl Dq Dq Dr ?_;refine bZ (vs := [_, _, _, _]) aC.out rfl ((hr.ext hh.below).recAt TR.len hx) rfl Dr ?_;refine cj hh ?_;intro b10 w10 hh;refine bD hh 0 [_,_,_,_] ?_;intro ws hh;replace hh : Hp _ (.blk _ _ [_, _, _, _] _ :: _) _ := hh;refine aa (sr (bG ?_));refine cU hh 0 [_,_,_] ?_;refine cj hh ?_;intro b11 w11 hh;refine bD hh 0 [_,_,_] ?_;intro ws hh;replace hh : Hp _ (.blk _ _ [_, _, _] _ :: _) _ := hh;refine aa (ah (sr (bG ?_)));refine bI hh 1 ?_;refine lb hh aF.out rfl Dr ?_;intro b40 w40 hh;skip;refine aa (ao ?_);refine oT [12, 13, 41, 42, 43, 44, 45, 46, 47, 48, 49, 50, 51, 52, 53, 54, 55, 56, 57]
      (fun w' => ∃ (q : Nat) (z : NR) (ks : List xq), q ≤ ys.length ∧ z.ok ∧ z.d = yk x.c.d ys x.m q ∧ ks.length = ys.length ∧ (∀ q ∈ ks, q.2.1 ≤ 1000) ∧ Hp w (.it b40 x.m q :: .blk b11 65 [.bool z.neg, .string z.bM, .int .i64 z.e] (0, 0) :: .blk b10 96 [.string x.m, .bool x.c.neg, .string x.c.bM, .int .i64 x.c.e] (0, 0) :: .blk b8 65 [.bool (nR (nE ys ts i)).neg, .string (nR (nE ys ts i)).bM, .int .i64 (nR (nE ys ts i)).e] (0, 0) :: .row (some ⟨b28, 0, none⟩) ys.length ys.length 168 1 (tG ks) :: .blk b4 65 [.bool false, .string (ByteArray.mk #[]), .int .i64 0] (0, 0) :: .blk b2 24 [.int .i64 ys.length, .slice (some ad) pn pc] (0, 0) :: wc ys ks) w')
      (fun w' => ys.length - CQ w' b40) ?_ ?_
     ·exact ⟨0, x.c, ks, Nat.zero_le _, hxo.1, rfl, hkl, hkm, hh⟩
     ·clear hh hkl hkm;rintro ρ' w' ⟨q, z, ks, hq, hzo, hzd, hkl, hkm, hh⟩;have hit := yz hh (i := 0) rfl;have hzs : Sz 1600000 z.d := by rw [hzd]; exact (rJ hxo.2 hk (fun y h => (hy y h).2) hmx.1 q).mono Dq
      by_cases hlq : q < ys.length
      ·obtain ⟨y, hyq⟩ := aG (l := ys) (k := q) hlq;obtain ⟨⟨ka, km, kc⟩, hkq⟩ := aG (l := ks) (k := q) Dq;obtain ⟨xad, rfl, hxr⟩ := hS.at_ Dq;obtain ⟨e, he⟩ := aG (l := x.m.data.toList) (k := q) (by rw [← ca]; omega);have he8 := gO hmx.1 he;have hyo := hy y (List.mem_of_getElem? hyq);have hkm0 : km ≤ 1000 := hkm _ (List.mem_of_getElem? hkq);have hqk : q < (tG ks).length := by rw [Ak]; omega
       have zp : Sz 128000 (y.d ^ e.toNat) := (hyo.2.pow e.toNat).mono (by have := Nat.mul_le_mul hk (show e.toNat ≤ 127 by omega); omega);have hdm := fun A cc w1 hT1 hS1 => gh A 2 cc [z, nR (y.d ^ e.toNat)] w1 hT1 hS1 (by simpa using ⟨hzo, zp.ok Dr⟩) 1600000 (by simpa [dR] using ⟨hzs, zp.mono Dr⟩) Dr Dr;rw [show gM ([z, nR (y.d ^ e.toNat)].map NR.d) = z.d * y.d ^ e.toNat by show 1 * z.d * (nR _).d = _; rw [dR, Dyadic.one_mul]] at hdm;have hcq : (tG ks)[q]? = some (.slice ka km kc) := by unfold tG; rw [List.getElem?_map, hkq]; rfl
       refine sr ?_;refine lh hh (i := 0) rfl rfl he he8 Dr ?_;intro w41 hh;simp only [List.set_cons_zero] at hh;skip;refine da ?_;refine aa (ah (cT (ak (ai (ao (sr ?_))))));refine da ?_;refine da ?_;refine aI (aI (aa ?_));replace hh := hh.perm (List.perm_middle (l₁ := [_, _, _, _]));simp only [List.cons_append, List.nil_append] at hh;replace hh := hh.perm (((mC (xK hyq hkq)).append_left [_, _, _, _, _, _, _]).trans (List.perm_middle.trans (.swap _ _ _)));rw [← tn hcq] at hh;have mb11 : (.blk b11 65 [.bool z.neg, .string z.bM, .int .i64 z.e] (0, 0) : HE) ∈ (.it b40 x.m (q + 1) :: .blk b11 65 [.bool z.neg, .string z.bM, .int .i64 z.e] (0, 0) :: .blk b10 96 [.string x.m, .bool x.c.neg, .string x.c.bM, .int .i64 x.c.e] (0, 0) :: .blk b8 65 [.bool (nR (nE ys ts i)).neg, .string (nR (nE ys ts i)).bM, .int .i64 (nR (nE ys ts i)).e] (0, 0) :: .blk b4 65 [.bool false, .string (ByteArray.mk #[]), .int .i64 0] (0, 0) :: .blk b2 24 [.int .i64 ys.length, .slice (some ad) pn pc] (0, 0) :: (wc ys ks).eraseIdx q) := by simp
       refine xC 13 (fun i => [45, 46, 47, 48, 49, 50, 51, 52, 53, 54, 55, 56, 57].getD i 0) (fun i => [jb (.agg #[.bool z.neg, .string z.bM, .int .i64 z.e]), jb (.slice (some ⟨b28, 0, none⟩) ys.length ys.length), jb (.int .i64 q), jb (.pointer (some ⟨b28, q * 1, none⟩)), jb (.slice (some xad) ys.length xc), jb (.int .i64 q), jb (.pointer (some (xad.add (q * 3)))), jb (.agg #[.bool y.neg, .string y.bM, .int .i64 y.e]), jb (.int .i32 e.toNat), jb (.int .i64 e.toNat), fun v R => v = .agg #[.bool (nR (y.d ^ e.toNat)).neg, .string (nR (y.d ^ e.toNat)).bM, .int .i64 (nR (y.d ^ e.toNat)).e] ∧ ∃ (A2 : Option Addr) (m2 c3 : Nat), m2 ≤ 1000 ∧ R = [.row (some ⟨b28, 0, none⟩) ys.length ys.length 168 1 ((tG ks).set q (.slice A2 m2 c3)), .row A2 m2 c3 65 3 (aQ NR.cells (ma y.d m2))], fun v R => ∃ b : Nat, v = .slice (some ⟨b, 0, none⟩) 2 2 ∧ R = [.row (some ⟨b, 0, none⟩) 2 2 65 3 (aQ NR.cells [z, nR (y.d ^ e.toNat)])], jb (.agg #[.bool (nR (z.d * y.d ^ e.toNat)).neg, .string (nR (z.d * y.d ^ e.toNat)).bM, .int .i64 (nR (z.d * y.d ^ e.toNat)).e])].getD i (jb undef)) (fun i => [[], [], [], [], [], [], [], [], [], [], [.row (some ⟨b28, 0, none⟩) ys.length ys.length 168 1 ((tG ks).set q (.slice ka km kc)), .row ka km kc 65 3 (aQ NR.cells (ma y.d km))], [], []].getD i []) (.it b40 x.m (q + 1) :: .blk b11 65 [.bool z.neg, .string z.bM, .int .i64 z.e] (0, 0) :: .blk b10 96 [.string x.m, .bool x.c.neg, .string x.c.bM, .int .i64 x.c.e] (0, 0) :: .blk b8 65 [.bool (nR (nE ys ts i)).neg, .string (nR (nE ys ts i)).bM, .int .i64 (nR (nE ys ts i)).e] (0, 0) :: .blk b4 65 [.bool false, .string (ByteArray.mk #[]), .int .i64 0] (0, 0) :: .blk b2 24 [.int .i64 ys.length, .slice (some ad) pn pc] (0, 0) :: (wc ys ks).eraseIdx q) _ hh (List.Perm.refl _) mixed Dt rfl ⟨⟨⟨⟨⟨⟨⟨⟨⟨⟨⟨⟨⟨trivial, ?s0⟩, ?s1⟩, ?s2⟩, ?s3⟩, ?s4⟩, ?s5⟩, ?s6⟩, ?s7⟩, ?s8⟩, ?s9⟩, ?s10⟩, ?s11⟩, ?s12⟩ ?fin
       case s0 => exact ⟨_, rfl, fun ρ1 w1 F R ha hd hr (hh : Hp w F w1) => bW rfl (kQ (vs := [_, _, _]) aC.out (ha 11 Dr) (hh.uT (n := 3) (hr _ mb11) rfl) rfl) ⟨[], ⟨rfl, rfl⟩, hh⟩⟩
       case s1 => exact ⟨_, rfl, fun ρ1 w1 F R ha hd hr (hh : Hp w F w1) => bW rfl (cQ (ha 7 Dr)) ⟨[], ⟨rfl, rfl⟩, hh⟩⟩
       case s2 => exact ⟨_, rfl, fun ρ1 w1 F R ha hd hr (hh : Hp w F w1) => bW rfl (cQ (ha 12 Dr)) ⟨[], ⟨rfl, rfl⟩, hh⟩⟩
       case s3 => exact ⟨_, rfl, fun ρ1 w1 F R ha hd hr (hh : Hp w F w1) => bW rfl (kS (k := q) aF.out aC.size (show jb (.slice (some ⟨b28, 0, none⟩) ys.length ys.length) (ρ1 46) (R 1) from (hd 1 rfl).1).1 (show jb (.int .i64 q) (ρ1 47) (R 2) from (hd 2 rfl).1).1 Dq Dq) ⟨[], ⟨rfl, rfl⟩, hh⟩⟩
       case s4 => exact ⟨_, rfl, fun ρ1 w1 F R ha hd hr (hh : Hp w F w1) => bW rfl (cQ (ha 1 Dr)) ⟨[], ⟨rfl, rfl⟩, hh⟩⟩
       case s5 => exact ⟨_, rfl, fun ρ1 w1 F R ha hd hr (hh : Hp w F w1) => bW rfl (cQ (ha 12 Dr)) ⟨[], ⟨rfl, rfl⟩, hh⟩⟩
       case s6 => exact ⟨_, rfl, fun ρ1 w1 F R ha hd hr (hh : Hp w F w1) => bW rfl (eg (k := q) aF.out aC.size (show jb (.slice (some xad) ys.length xc) (ρ1 49) (R 4) from (hd 4 rfl).1).1 (show jb (.int .i64 q) (ρ1 50) (R 5) from (hd 5 rfl).1).1 Dq Dq) ⟨[], ⟨rfl, rfl⟩, hh⟩⟩
       case s7 => exact ⟨_, rfl, fun ρ1 w1 F R ha hd hr (hh : Hp w F w1) => bW rfl (kQ (vs := [_, _, _]) aC.out (show jb (.pointer (some (xad.add (q * 3)))) (ρ1 51) (R 6) from (hd 6 rfl).1).1 ((hxr.ext hh.below).recAt NR.len hyq) rfl) ⟨[], ⟨rfl, rfl⟩, hh⟩⟩
       case s8 => exact ⟨_, rfl, fun ρ1 w1 F R ha hd hr (hh : Hp w F w1) => bW rfl (cQ (ha 13 Dr)) ⟨[], ⟨rfl, rfl⟩, hh⟩⟩
       case s9 => exact ⟨_, rfl, fun ρ1 w1 F R ha hd hr (hh : Hp w F w1) => bW rfl (kG aF.out aF.out (show jb (.int .i32 e.toNat) (ρ1 53) (R 8) from (hd 8 rfl).1).1 Dq Dq) ⟨[], ⟨rfl, rfl⟩, hh⟩⟩
       case s10 => exact ⟨_, rfl, fun ρ1 w1 F R ha hd hr hh => bJ rfl (aW aq.out (ay (show jb (.pointer (some ⟨b28, q * 1, none⟩)) (ρ1 48) (R 3) from (hd 3 rfl).1).1 (ay (show jb (.agg #[.bool y.neg, .string y.bM, .int .i64 y.e]) (ρ1 52) (R 7) from (hd 7 rfl).1).1 (ay (show jb (.int .i64 e.toNat) (ρ1 54) (R 9) from (hd 9 rfl).1).1 a0)))) (pk (cE (g := b28) (m := ys.length) (c := ys.length) (i := q) (t := 168) (xs := tG ks) hqk) y e.toNat km ka kc k w1 hT hh Dq hkm0 hyo hk) fun r w2 ⟨h1, A2, m2, c3, h2, h3⟩ => ⟨_, h1, [_, _], ⟨rfl, A2, m2, c3, h2, rfl⟩, h3⟩⟩
       case s11 => exact ⟨_, rfl, fun ρ1 w1 F R ha hd hr (hh : Hp w F w1) => qI (sz := 3) (cs := aQ NR.cells [z, nR (y.d ^ e.toNat)]) hh aF.out aC.out (show pI ρ1 [(0, .tmp 45), (1, .tmp 55)] = [(0, .agg #[.bool z.neg, .string z.bM, .int .i64 z.e]), (1, .agg #[.bool (nR (y.d ^ e.toNat)).neg, .string (nR (y.d ^ e.toNat)).bM, .int .i64 (nR (y.d ^ e.toNat)).e])] from aY (show ρ1 45 = _ from (show jb (.agg #[.bool z.neg, .string z.bM, .int .i64 z.e]) (ρ1 45) (R 0) from (hd 0 rfl).1).1) (aY (show ρ1 55 = _ from (hd 10 rfl).1.1) bQ)) rfl rfl Dr Dr Dr rfl fun b w2 h2 => ⟨[_], ⟨b, rfl, rfl⟩, h2⟩⟩
       case s12 => exact ⟨_, rfl, fun ρ1 w1 F R ha hd hr (hh : Hp w F w1) => let ⟨b, e9, r9⟩ := (show ∃ b : Nat, ρ1 56 = .slice (some ⟨b, 0, none⟩) 2 2 ∧ R 11 = [.row (some ⟨b, 0, none⟩) 2 2 65 3 (aQ NR.cells [z, nR (y.d ^ e.toNat)])] from (hd 11 rfl).1); bJ rfl (aW aq.out (ay e9 a0)) (hdm _ _ w1 (hT.hp hh) (hh.xE ((hd 11 rfl).2 _ (r9 ▸ List.mem_cons_self)))) fun r w2 hq => ⟨_, hq.1, [], ⟨rfl, rfl⟩, hh.ext hq.2⟩⟩
       clear hh;rintro f R W ⟨⟨⟨⟨⟨⟨⟨⟨⟨⟨⟨⟨⟨-, s0⟩, s1⟩, s2⟩, s3⟩, s4⟩, s5⟩, s6⟩, s7⟩, s8⟩, s9⟩, s10⟩, s11⟩, s12⟩ hh;obtain ⟨e0, r0⟩ := s0;obtain ⟨e1, r1⟩ := s1;obtain ⟨e2, r2⟩ := s2;obtain ⟨e3, r3⟩ := s3;obtain ⟨e4, r4⟩ := s4;obtain ⟨e5, r5⟩ := s5;obtain ⟨e6, r6⟩ := s6;obtain ⟨e7, r7⟩ := s7;obtain ⟨e8, r8⟩ := s8;obtain ⟨e9, r9⟩ := s9;obtain ⟨e10, A2, m2, c3, hm2, r10⟩ := s10;obtain ⟨b56, e11, r11⟩ := s11;obtain ⟨e12, r12⟩ := s12;rw [show List.range 13 = [0, 1, 2, 3, 4, 5, 6, 7, 8, 9, 10, 11, 12] from rfl] at hh;simp only [List.flatMap_cons, List.flatMap_nil, r0, r1, r2, r3, r4, r5, r6, r7, r8, r9, r10, r11, r12, List.nil_append, List.append_nil, List.cons_append] at hh;refine a6 (bk (ae e12 (ae e11 (ae e10 (ae e9 (ae e8 (ae e7 (ae e6 (ae e5 (ae e4 (ae e3 (ae e2 (ae e1 (ae e0 a5)))))))))))))) ?_;dsimp only [cJ];refine bD hh 4 [_,_,_] ?_;intro ws hh;replace hh : Hp _ (_ :: _ :: _ :: _ :: .blk _ _ [_, _, _] _ :: _) _ := hh;refine aE (aX (ai ?_));have hz2 : Sz 1728000 (z.d * y.d ^ e.toNat) := (hzs.mul zp).mono Dq;have e1 : (tG ks).set q (.slice A2 m2 c3) = tG (ks.set q (A2, m2, c3)) := (AF ks q (A2, m2, c3)).symm
       have hpk := mC (xK hyq (show (ks.set q (A2, m2, c3))[q]? = some (A2, m2, c3) from List.getElem?_set_self Dq));rw [qg] at hpk;rw [e1] at hh;replace hh := hh.perm (List.perm_middle (l₁ := [_]));simp only [List.cons_append, List.nil_append] at hh;replace hh := hh.perm (List.perm_middle (l₁ := [_, _, _, _, _, _, _, _]));simp only [List.cons_append, List.nil_append] at hh;replace hh := hh.perm (List.perm_middle (l₁ := [_, _, _, _, _, _, _, _]));simp only [List.cons_append, List.nil_append] at hh;replace hh := hh.perm (List.perm_middle (l₁ := [_, _, _]));simp only [List.cons_append, List.nil_append] at hh;replace hh := hh.perm (List.perm_middle (l₁ := [_, _, _, _, _, _, _, _]));simp only [List.cons_append, List.nil_append] at hh;replace hh := hh.perm (List.perm_middle (l₁ := [_, _, _, _, _, _, _, _]));simp only [List.cons_append, List.nil_append] at hh;replace hh := hh.perm (List.perm_middle (l₁ := [_, _, _, _, _, _, _, _]));simp only [List.cons_append, List.nil_append] at hh;replace hh := hh.perm (List.perm_middle (l₁ := [_, _, _, _, _, _, _, _]));simp only [List.cons_append, List.nil_append] at hh
       replace hh := hh.sub (.cons_cons _ (.cons_cons _ (.cons_cons _ (.cons_cons _ (.cons_cons _ (.cons_cons _ (.cons_cons _ (.cons_cons _ (.cons _ (List.Sublist.refl _))))))))));have hit2 := yz hh (i := 0) rfl;refine ⟨⟨q + 1, nR (z.d * y.d ^ e.toNat), ks.set q (A2, m2, c3), Dq, hz2.ok Dr, by rw [dR]; show _ = yk x.c.d ys x.m q * yE ys x.m q; rw [← hzd, z9 hyq he], by rw [List.length_set]; exact hkl, fun r hr => ?_, hh.perm (hpk.symm.append_left [_, _, _, _, _, _, _])⟩, by rw [hit, hit2]; omega, ?_⟩
       ·rcases List.mem_or_eq_of_mem_set hr with h | rfl
        ·exact hkm r h
        ·exact hm2
       ·exact Du
      ·obtain rfl : q = ys.length := Dq;have hsm := fun A cc w1 hT1 hS1 => oF A 2 cc [nR (nE ys ts i), z] w1 hT1 hS1 (by simpa using ⟨(pL i Dq).ok Dr, hzo⟩) 1700000 (by simpa [dR] using ⟨pL i Dq, hzs.mono Dr⟩) Dr;rw [show mQ ([nR (nE ys ts i), z].map NR.d) = nE ys ts (i + 1) by simp only [List.map_cons, List.map_nil, rZ, dR]; show _ = nE ys ts i + _; rw [hx, hzd]] at hsm;refine sr ?_;refine kZ hh (i := 0) rfl rfl Dq Dr ?_;skip;refine da ?_;refine aa (ah (cF (aV (aA (aA (a8 (ai (ar ?_))))))));refine cU hh 3 [_,_,_] ?_;refine cU hh 1 [_,_,_] ?_;refine bf hh (cs := [_, _, _, _, _, _]) aF.out aC.out (aY (cK rfl) (aY (cK rfl) bQ)) rfl rfl Dr Dr Dr rfl Dr ?_;intro b60 w60 hh;refine bB hh (hsm _ _ _ (hT.hp hh) (hh.aD (i := 0) rfl)) rfl ?_;intro w61 hh;refine bD hh 4 [_,_,_] ?_;intro ws hh;replace hh : Hp _ (_ :: _ :: _ :: _ :: .blk _ _ [_, _, _] _ :: _) _ := hh;refine aE (aX (ai (ar ?_)));refine bO (mI (aE (ai ?_)));replace hh := hh.sub (List.Sublist.cons _ (List.Sublist.cons _ (List.Sublist.cons _ (List.Sublist.cons _ (List.Sublist.cons_cons _ (List.Sublist.cons_cons _ (List.Sublist.cons_cons _ (List.Sublist.cons_cons _ (List.Sublist.refl _)))))))))
       refine ⟨⟨i + 1, ks, Dq, rfl, hkl, hkm, hh⟩, by show pn - (i + 1) < pn - i; omega, ?_⟩;exact Du
    ·obtain rfl : i = pn := Dq;refine sr ?_;refine a3 (aa (ah (cF (aV (aA (aA (a8 (ai (sr ?_)))))))));refine cU hh 0 [_,_,_] ?_;refine bD hh 2 [_,_,_] ?_;intro ws hh;replace hh : Hp _ (_ :: _ :: .blk _ _ [_, _, _] _ :: _) _ := hh;refine aI (aa (al ?_));refine j0 (aN rfl (aO (vs := [_, _, _]) aC.out (hh.aw (i := 2) (n := 3) rfl rfl) rfl) (cf (cO rfl) a7)) ?_;exact ⟨by rw [hpl], hh.below⟩
  ·simp only [if_neg h1];rw [if_neg Dr];refine aj (N := 64) (l := [.agg #[.int .i64 p.v, .slice p.A p.n p.c], .slice xA ys.length xc]) Tryz.func63 rfl rfl (by simp) ?_;refine sr ?_;refine dp hh [_,_] ?_;intro b2 w2 hh;refine cj hh ?_;intro b4 w4 hh;refine aI (aa (ah (sr ?_)));refine cU hh 1 [_,_] ?_;refine bB hh (hck _ (hT.hp hh) hh.below) rfl ?_;intro w15 hh;refine aI (aa (sr (mI ?_)));refine cz (aa (cF (ak (ai (ah (sr (mL (a4 (bG ?_)))))))));refine bI hh 1 ?_;refine cz (aa (cT (sr ?_)));refine eX [_,_,_] ?_;refine bD hh 0 [_,_,_] ?_;intro ws hh;replace hh : Hp _ (.blk _ _ [_, _, _] _ :: _) _ := hh;refine aI (aa (al (aH ?_)));refine j0 (aN rfl (aO (vs := [_, _, _]) aC.out (hh.aw (i := 0) (n := 3) rfl rfl) rfl) (cf (cO rfl) a7)) ?_;exact ⟨rfl, hh.below⟩
 ·simp only [if_neg h0];generalize p.e = e at *;refine aj (N := 64) (l := [.agg #[.int .i64 p.v, .slice p.A p.n p.c], .slice xA ys.length xc]) Tryz.func63 rfl rfl (by simp) ?_;refine sr ?_;refine dp hh [_,_] ?_;intro b2 w2 hh;refine cj hh ?_;intro b4 w4 hh;refine aI (aa (ah (sr ?_)));refine cU hh 1 [_,_] ?_;refine bB hh (hck _ (hT.hp hh) hh.below) rfl ?_;intro w15 hh;refine aI (aa (sr (mI ?_)));refine cz (aa (cT (sr ?_)));refine eX [_,_,_] (mI ?_);refine bD hh 0 [_,_,_] ?_;intro ws hh;replace hh : Hp _ (.blk _ _ [_, _, _] _ :: _) _ := hh;refine aI (aa (al (aH ?_)));refine j0 (aN rfl (aO (vs := [_, _, _]) aC.out (hh.aw (i := 0) (n := 3) rfl rfl) rfl) (cf (cO rfl) a7)) ?_;exact ⟨rfl, hh.below⟩
end Go.Proofs.YteeckcbbnegmcaaGreatDoor
/- The chapter's examples of ogeelaw09, plain. -/
namespace Go.Proofs.YteeckcbbnegmcaaGreatDoor
open Go.RowKit
def qZ : ZT := [([0, 0], 2), ([2, 1], 1)]
def qS : ZT := [([0, 1], 1), ([1, 0], 1)]
theorem zQ : nE [nR ((3 : Int) : Dyadic), nR ((-1 : Int) : Dyadic)] (zT qZ) 2 = ((-7 : Int) : Dyadic) := by decide +kernel
theorem zd : fc 0 (zT qZ) = zT [([1, 1], 2)] := by kernel_rfl
theorem Aw : fc 1 (zT qZ) = zT [([2, 0], 1)] := by kernel_rfl
theorem Aq : kF 0 ((3 : Int) : Dyadic) (zT qZ) = zT [([0], 2), ([1], 9)] := by kernel_rfl
theorem BJ : iH 2 [zT qS] 0 (zT [([2], 1)]) = (0, zT [([0, 2], 1), ([1, 1], 2), ([2, 0], 1)]) := by kernel_rfl
end Go.Proofs.YteeckcbbnegmcaaGreatDoor
/- The chapter's examples of ogeelaw09, each by its contract. -/
namespace Go.Proofs.YteeckcbbnegmcaaGreatDoor
open Go.RowKit
def mX (v : Int) (n : Nat) (ts : List TR) : VP := fun x W => ∃ g : Nat, x = .agg #[.int .i64 v, .slice (some ⟨g, 0, none⟩) n n] ∧ Sl W (some ⟨g, 0, none⟩) n 4 (aQ TR.cells ts)
theorem mX.ext {v : Int} {n : Nat} {ts : List TR} (x : Value) (w w' : World) (h : mX v n ts x w) (hb : Below w.heap.size w w') : mX v n ts x w' := let ⟨g, h1, h2⟩ := h; ⟨g, h1, h2.ext hb⟩
def fv (v : Int) (n : Nat) (ts : List TR) : VP := fun x W => ∃ g : Option Addr × Nat, x = .agg #[.int .i64 v, .slice g.1 n g.2] ∧ Sl W g.1 n 4 (aQ TR.cells ts)
theorem fv.ext {v : Int} {n : Nat} {ts : List TR} (x : Value) (w w' : World) (h : fv v n ts x w) (hb : Below w.heap.size w w') : fv v n ts x w' := let ⟨g, h1, h2⟩ := h; ⟨g, h1, h2.ext hb⟩
theorem Cn : gJ 2 (zT qZ) = 0 := ra rfl rfl Dr
theorem B6 : gJ 2 (zT qS) = 0 := ra rfl rfl Dr
theorem CB : gJ 1 (zT [([2], 1)]) = 0 := ra rfl rfl Dr
theorem u6 (n : Int) (h : n.natAbs < 256) : (nR (n : Dyadic)).ok ∧ Sz 24 (nR (n : Dyadic)).d := by
 have z : Sz 24 ((n : Int) : Dyadic) := At (m := n) (e := 0) h Dr Dr;exact ⟨z.ok Dr, by rw [dR]; exact z⟩
theorem B1 (A : Option Addr) (c : Nat) (B : Option Addr) (d : Nat) (w : World) (hT : gK w) (hS : Sl w A 2 4 (aQ TR.cells (zT qZ))) (hc : 2 ≤ c) (hB : Sl w B 2 3 (aQ NR.cells [nR ((3 : Int) : Dyadic), nR ((-1 : Int) : Dyadic)])) :
  Calls Tryz.prog 63 #[.agg #[.int .i64 2, .slice A 2 c], .slice B 2 d] w fun r w' => r = .returned (.tuple #[.agg #[.bool (nR ((-7 : Int) : Dyadic)).neg, .string (nR ((-7 : Int) : Dyadic)).bM, .int .i64 (nR ((-7 : Int) : Dyadic)).e], .int .i64 0]) ∧ Below w.heap.size w w' := by
 have h := nw ⟨2, A, 2, c, zT qZ⟩ [nR ((3 : Int) : Dyadic), nR ((-1 : Int) : Dyadic)] B 2 d 24 w hT hS (mm rfl Dr hc) hB rfl (fun y hy => by
  rcases List.mem_cons.1 hy with rfl | hy
  ·exact u6 3 Dr
  ·rw [List.mem_singleton.1 hy]; exact u6 (-1) Dr) Dr
 have he : kV ⟨2, A, 2, c, zT qZ⟩ 2 = 0 := by
  unfold kV;rw [if_pos (show PX.e ⟨2, A, 2, c, zT qZ⟩ = 0 from Cn)]
  rfl
 have hv : nt ⟨2, A, 2, c, zT qZ⟩ [nR ((3 : Int) : Dyadic), nR ((-1 : Int) : Dyadic)] = nR ((-7 : Int) : Dyadic) := by
  unfold nt;rw [if_pos (show kV ⟨2, A, 2, c, zT qZ⟩ [nR ((3 : Int) : Dyadic), nR ((-1 : Int) : Dyadic)].length = 0 from he)];exact congrArg nR zQ
 rw [hv, he] at h;exact h
theorem yn (A : Option Addr) (c : Nat) (B : Option Addr) (d : Nat) (w : World) (hT : gK w) (hS : Sl w A 2 4 (aQ TR.cells (zT qS))) (hc : 2 ≤ c) (hB : Sl w B 1 3 (aQ NR.cells [nR ((1 : Int) : Dyadic)])) :
  Calls Tryz.prog 63 #[.agg #[.int .i64 2, .slice A 2 c], .slice B 1 d] w fun r w' => r = .returned (.tuple #[.agg #[.bool (nR 0).neg, .string (nR 0).bM, .int .i64 (nR 0).e], .int .i64 1]) ∧ Below w.heap.size w w' := by
 have h := nw ⟨2, A, 2, c, zT qS⟩ [nR ((1 : Int) : Dyadic)] B 1 d 24 w hT hS (mm rfl Dr hc) hB rfl (fun y hy => by
  rw [List.mem_singleton.1 hy]; exact u6 1 Dr) Dr
 have he : kV ⟨2, A, 2, c, zT qS⟩ 1 = 1 := by
  unfold kV;rw [if_pos (show PX.e ⟨2, A, 2, c, zT qS⟩ = 0 from B6)]
  rfl
 have hv : nt ⟨2, A, 2, c, zT qS⟩ [nR ((1 : Int) : Dyadic)] = nR 0 := by
  unfold nt;rw [show kV _ [nR ((1 : Int) : Dyadic)].length = 1 from he]
  rfl
 rw [hv, he] at h;exact h
theorem u2 {A : Option Addr} {c i : Nat} : i < 2 → iG ⟨2, A, 2, c, zT qZ⟩ (i : Int) = 0 := fun hi => by
 unfold iG;rw [if_pos (show PX.e ⟨2, A, 2, c, zT qZ⟩ = 0 from Cn), if_neg];show ¬ ((i : Int) < 0 ∨ (2 : Int) ≤ i);omega
theorem Cf (K : ZT) (i : Nat) (A : Option Addr) (c : Nat) (w : World) (hT : gK w) (hS : Sl w A 2 4 (aQ TR.cells (zT qZ))) (hc : 2 ≤ c) (hi : i < 2) (hd : fc i (zT qZ) = zT K) (hz : zC K = true) :
  Calls Tryz.prog 14 #[.agg #[.int .i64 2, .slice A 2 c], .int .i64 i] w fun r w' => ∃ A' c', r = .returned (.tuple #[.agg #[.int .i64 2, .slice A' K.length c'], .int .i64 0]) ∧ Hp w [.row A' K.length c' 96 4 (aQ TR.cells (zT K))] w' := by
 have h := dn ⟨2, A, 2, c, zT qZ⟩ (i : Int) 24 w hT hS (mm rfl Dr hc) Dr;rw [u2 hi, show ((i : Int)).toNat = i from rfl] at h;have e : aJ (fc i (zT qZ)) = zT K := by rw [hd, np (pj hz)]
 replace h : Calls Tryz.prog 14 #[.agg #[.int .i64 2, .slice A 2 c], .int .i64 i] w fun r w' => ∃ g : PX, dg 0 2 (aJ (fc i (zT qZ))) g ∧ r = .returned (.tuple #[.agg #[.int .i64 g.v, .slice g.A g.n g.c], .int .i64 0]) ∧ Hp w [g.row] w' := h;rw [e] at h;refine h.mono fun r w' ⟨g, og, hr, h3⟩ => ?_;obtain ⟨A', c', rfl⟩ := og.zT (h3.aD (i := 0) rfl);exact ⟨A', c', hr, h3⟩
theorem AD (w : World) (hT : gK w) : Calls Tryz.prog 14 #[.agg #[.int .i64 0, .slice none 0 0], .int .i64 0] w fun r w' => ∃ g : PX, r = .returned (.tuple #[.agg #[.int .i64 g.v, .slice g.A g.n g.c], .int .i64 1]) ∧ Below w.heap.size w w' := by
 have h := dn ⟨0, none, 0, 0, []⟩ 0 24 w hT (Sl.nil _ _ _) ⟨Dr, Nat.le_refl _, (fun _ h => nomatch h), (fun _ h => nomatch h)⟩ Dr;rw [show iG ⟨0, none, 0, 0, []⟩ 0 = 1 from rfl] at h;exact h.mono fun r w' ⟨g, _, hr, h3⟩ => ⟨g, hr, h3.below⟩
theorem B5 (A : Option Addr) (c : Nat) (w : World) (hT : gK w) (hS : Sl w A 2 4 (aQ TR.cells (zT qZ))) (hc : 2 ≤ c) :
  Calls Tryz.prog 70 #[.agg #[.int .i64 2, .slice A 2 c], .int .i64 0, .agg #[.bool (nR ((3 : Int) : Dyadic)).neg, .string (nR ((3 : Int) : Dyadic)).bM, .int .i64 (nR ((3 : Int) : Dyadic)).e]] w fun r w' => ∃ g : PX, dg 0 1 (zT [([0], 2), ([1], 9)]) g ∧ r = .returned (.tuple #[.agg #[.int .i64 g.v, .slice g.A g.n g.c], .int .i64 0]) ∧ Hp w [g.row] w' := by
 have h := tk ⟨2, A, 2, c, zT qZ⟩ ((0 : Nat) : Int) (nR ((3 : Int) : Dyadic)) 24 w hT hS (mm rfl Dr hc) (u6 3 Dr) Dr;rw [u2 Dr, dR, show (((0 : Nat) : Int)).toNat = 0 from rfl] at h;have e : aJ (kF 0 ((3 : Int) : Dyadic) (zT qZ)) = zT [([0], 2), ([1], 9)] := by rw [Aq, np (pj rfl)]
 replace h : Calls Tryz.prog 70 #[.agg #[.int .i64 2, .slice A 2 c], .int .i64 0, .agg #[.bool (nR ((3 : Int) : Dyadic)).neg, .string (nR ((3 : Int) : Dyadic)).bM, .int .i64 (nR ((3 : Int) : Dyadic)).e]] w fun r w' => ∃ g : PX, dg 0 1 (aJ (kF 0 ((3 : Int) : Dyadic) (zT qZ))) g ∧ r = .returned (.tuple #[.agg #[.int .i64 g.v, .slice g.A g.n g.c], .int .i64 0]) ∧ Hp w [g.row] w' := h;rw [e] at h;exact h
theorem CH (b d e : Nat) (w : World) (hT : gK w) (hS : Sl w (some ⟨b, 0, none⟩) 1 4 (aQ TR.cells (zT [([2], 1)]))) (hL : Sl w (some ⟨d, 0, none⟩) 1 2 (aQ PX.cells [⟨2, some ⟨e, 0, none⟩, 2, 2, zT qS⟩])) (hQ : Sl w (some ⟨e, 0, none⟩) 2 4 (aQ TR.cells (zT qS))) :
  Calls Tryz.prog 69 #[.agg #[.int .i64 1, .slice (some ⟨b, 0, none⟩) 1 1], .slice (some ⟨d, 0, none⟩) 1 1] w fun r w' => ∃ g : PX, dg 0 2 (zT [([0, 2], 1), ([1, 1], 2), ([2, 0], 1)]) g ∧ r = .returned (.tuple #[.agg #[.int .i64 g.v, .slice g.A g.n g.c], .int .i64 0]) ∧ Hp w [g.row] w' := by
 have hf : CX ⟨1, some ⟨b, 0, none⟩, 1, 1, zT [([2], 1)]⟩ [⟨2, some ⟨e, 0, none⟩, 2, 2, zT qS⟩] 24 24 2 16408 [2] := by
  refine ⟨rfl, fun i x hx => ?_, ?_, Dr, Dr, fun g hg => ?_, fun g hg => ?_⟩
  ·cases i with
   | zero =>
    cases hx
    refine ⟨Dr, fun t ht => ?_⟩;rw [List.mem_singleton.1 ht];decide
   | succ i => cases hx
  ·rw [kB, mW];decide
  ·rw [List.mem_singleton.1 hg];exact mm rfl Dr Dr
  ·rw [List.mem_singleton.1 hg];exact Nat.le_refl 2
 have h := rv ⟨1, some ⟨b, 0, none⟩, 1, 1, zT [([2], 1)]⟩ (some ⟨d, 0, none⟩) 1 [⟨2, some ⟨e, 0, none⟩, 2, 2, zT qS⟩] 24 24 2 16408 [2] w hT hS (mm rfl Dr Dr) hL (fun g hg => by rw [List.mem_singleton.1 hg]; exact hQ) (Nat.le_refl 1) hf;have he : PX.e ⟨2, some ⟨e, 0, none⟩, 2, 2, zT qS⟩ = 0 := B6;have hlk : fA [⟨2, some ⟨e, 0, none⟩, 2, 2, zT qS⟩] = 0 := by
  unfold fA;rw [gj (List.any_eq_false.2 fun x hx => by rw [List.mem_singleton.1 hx]; simp [he])]
  rfl
 have e1 : xl ⟨1, some ⟨b, 0, none⟩, 1, 1, zT [([2], 1)]⟩ [⟨2, some ⟨e, 0, none⟩, 2, 2, zT qS⟩] = (0, zT [([0, 2], 1), ([1, 1], 2), ([2, 0], 1)]) := by
  unfold xl;rw [if_neg (fun h => h (show PX.e ⟨1, some ⟨b, 0, none⟩, 1, 1, zT [([2], 1)]⟩ = 0 from CB)), if_neg (fun h => h rfl), if_neg (fun h => h.2 hlk)];exact BJ
 rw [e1] at h;exact h
theorem vq (K : ZT) (v : Int) (A : Option Addr) (n c : Nat) (B : Option Addr) (d : Nat) (w : World) (hA : Sl w A n 4 (aQ TR.cells (zT K))) (hB : Sl w B n 4 (aQ TR.cells (zT K))) (hn : n ≤ 60) :
  Calls Tryz.prog 15 #[.agg #[.int .i64 v, .slice A n c], .agg #[.int .i64 v, .slice B n d]] w fun r w' => r = .returned (.bool true) ∧ Below w.heap.size w w' :=
 (mY ⟨v, A, n, c, zT K⟩ ⟨v, B, n, d, zT K⟩ w hA hB (by show n ≤ 1000000; omega) (by show n ≤ 1000000; omega)).mono fun r w' ⟨x, hr, hv, hb⟩ => ⟨by rw [hr, hv.2 ⟨rfl, rfl⟩], hb⟩
end Go.Proofs.YteeckcbbnegmcaaGreatDoor
/- The walk through ogeelaw09.awake. -/
namespace Go.Proofs.YteeckcbbnegmcaaGreatDoor
open Go.RowKit
set_option maxRecDepth 10000 in
theorem qY (w : World) (hT : gK w) : Calls Tryz.prog 13 #[] w fun r w' => r = .returned (.bool true) ∧ Below w.heap.size w w' := by
 have hh := Hp.start w;refine aj (N := 144) (l := []) Tryz.func13 rfl rfl (by simp) ?_;refine sr (aB (aa (sr ?_)));refine bB hh (bP 2 _ Dr Dr) rfl ?_;intro w17 hh;refine eX [_,_,_,_] ?_;refine bB hh (bP 1 _ Dr Dr) rfl ?_;intro w19 hh;refine eX [_,_,_,_] ?_;refine bf hh (cs := [_, _, _, _, _, _, _, _]) aF.out aC.out (aY (cK rfl) (aY (cK rfl) bQ)) rfl rfl Dr Dr Dr rfl Dr ?_;intro b21 w21 hh;refine bB hh (eu 2 (some ⟨b21, 0, none⟩) 2 2 _) rfl ?_;intro w22 hh;refine cj hh ?_;intro b1 w1 hh;refine bD hh 0 [_,_] ?_;intro ws hh;replace hh : Hp _ (.blk _ _ [_, _] _ :: _) _ := hh;refine aa (ah ?_);replace hh := show Hp w [.blk b1 24 [.int .i64 2, .slice (some ⟨b21, 0, none⟩) 2 2] (0, 0), .row (some ⟨b21, 0, none⟩) 2 2 96 4 (aQ TR.cells (zT qZ))] _ from hh;refine cY [8] [7] [0, 0, 2, 6, 15, 31, 63, 63, 0, 383, 1023] 9 [[(1, none)], [], [], [(25, some 1), (26, some 2)], [(24, some 0), (27, some 3)], [(28, some 4)], [(23, some 5)], [(23, some 5)], []] [(8, 2), (7, 30), (6, 29), (5, 23), (4, 28), (3, 27), (2, 26), (1, 25), (0, 24)] hh mixed Dt (jV rfl aC.out dI) rfl (by repeat (first | exact bX | refine bE ?_ | refine bV ?_)) ?_;refine fX 0 [_,_] ?_;refine dC (fun _ hj => bP 3 _ Dr Dr) ?_
 refine dC (fun _ hj => bP (-1) _ Dr Dr) ?_;refine tF [_,_,_,_,_,_] ?_;refine bj (i := 4) (Is (.tuple #[.agg #[.bool (nR ((-7 : Int) : Dyadic)).neg, .string (nR ((-7 : Int) : Dyadic)).bM, .int .i64 (nR ((-7 : Int) : Dyadic)).e], .int .i64 0])) Is.ext ?_ ?_
 ·intro ρ1 w1 hj hR;obtain ⟨A27, c27, h27, s27⟩ := hR.2.1;exact bJ rfl (aW aq.out (ay (show ρ1 24 = Value.agg (List.toArray _) from hR.1) (ay h27 a0))) (B1 (some ⟨b21, 0, none⟩) 2 A27 c27 _ (hT.hp hj.hp) (hj.hp.aD (i := 1) rfl) Dr s27) (fun _ _ hq => ⟨_, hq.1, hq.2, rfl⟩)
 refine CK ?_;refine Bh ?_;refine Bh ?_;refine bj (i := 8) (cL _ 65 _) cL.ext (fun ρ1 w1 hj hR => fV aC.out hj.bl (fun v w2 h hb => ⟨hb, h⟩)) ?_;refine bq ?_;intro f W hJ hV _;have hb_2 := hJ.bl;obtain ⟨v2, v30, v29, v23, v28, v27, v26, v25, v24, _⟩ := hV;obtain ⟨A27, c27, e27, f27⟩ : Rows _ _ _ (f 3) W := v27;obtain ⟨b2, e2, hl2, hc2⟩ : cL _ _ _ (f 8) W := v2;replace hh := hJ.newVar hh hl2 hc2;refine a6 (bk (ae e2 (ae v30 (ae v29 (ae v23 (ae v28 (ae e27 (ae v26 (ae v25 (ae v24 a5)))))))))) ?_;dsimp only [cJ];clear e27 e2 hJ;refine bD hh 0 [_,_,_] ?_;intro ws hh;replace hh : Hp _ (.blk _ _ [_, _, _] _ :: _) _ := hh;refine aI (aa (sr ?_));refine cU hh 1 [_,_] ?_;refine aK (Cf [([1, 1], 2)] 0 _ 2 _ (hT.hp hh) (hh.aD (i := 2) rfl) Dr Dr zd rfl) aq.out rfl Dr ?_;rintro e_ w33 ⟨A4, c4, rfl, h2⟩;refine ⟨_, rfl, ?_⟩;replace hh := hh.join h2;simp only [List.cons_append, List.nil_append] at hh;clear h2;refine mT ?_;refine da ?_;refine da ?_;refine cj hh ?_;intro b4 w4 hh;refine bD hh 0 [_,_] ?_;intro ws hh;replace hh : Hp _ (.blk _ _ [_, _] _ :: _) _ := hh;refine aI (aa (sr ?_));refine cU hh 3 [_,_] ?_
 refine aK (Cf [([2, 0], 1)] 1 _ 2 _ (hT.hp hh) (hh.aD (i := 4) rfl) Dr Dr Aw rfl) aq.out rfl Dr ?_;rintro e_ w38 ⟨A6, c6, rfl, h2⟩;refine ⟨_, rfl, ?_⟩;replace hh := hh.join h2;simp only [List.cons_append, List.nil_append] at hh;clear h2;refine mT ?_;refine da ?_;refine da ?_;refine cj hh ?_;intro b6 w6 hh;refine bD hh 0 [_,_] ?_;intro ws hh;replace hh : Hp _ (.blk _ _ [_, _] _ :: _) _ := hh;refine aI (aa (sr ?_));refine bB hh (bP 1 _ Dr Dr) rfl ?_;intro w41 hh;refine eX [_,_,_,_] ?_;refine bB hh (bP 1 _ Dr Dr) rfl ?_;intro w43 hh;refine eX [_,_,_,_] ?_;refine bf hh (cs := [_, _, _, _, _, _, _, _]) aF.out aC.out (aY (cK rfl) (aY (cK rfl) bQ)) rfl rfl Dr Dr Dr rfl Dr ?_;intro b45 w45 hh;refine bB hh (eu 2 (some ⟨b45, 0, none⟩) 2 2 _) rfl ?_;intro w46 hh;refine cj hh ?_;intro b8 w8 hh;refine bD hh 0 [_,_] ?_;intro ws hh;replace hh : Hp _ (.blk _ _ [_, _] _ :: _) _ := hh;refine aa (ah ?_);replace hh := show Hp w (.blk b8 24 [.int .i64 2, .slice (some ⟨b45, 0, none⟩) 2 2] (0, 0) :: .row (some ⟨b45, 0, none⟩) 2 2 96 4 (aQ TR.cells (zT qS)) :: _) _ from hh
 refine cY [10] [9] [0, 1, 3, 7, 0, 16, 63, 127, 255, 255, 0, 1535, 4095] 11 [[], [(48, some 0)], [(49, some 1)], [(50, some 2)], [(8, none)], [(52, some 4)], [(51, some 3), (53, some 5)], [(54, some 6)], [(47, some 7)], [(47, some 7)], []] [(10, 9), (9, 56), (8, 55), (7, 47), (6, 54), (5, 53), (4, 52), (3, 51), (2, 50), (1, 49), (0, 48)] hh mixed Dt (jV rfl aC.out dI) rfl (by repeat (first | exact bX | refine bE ?_ | refine bV ?_)) ?_;refine dC (fun _ hj => bP (1) _ Dr Dr) ?_;refine dB [_,_,_,_] ?_;refine bj (i := 2) (fe 1 4 (aQ TR.cells (zT [([2], 1)]))) (fe.ext) ?_ ?_
 ·intro ρ1 w1 hj hR;exact fm (sz := 4) aF.out aC.out (show pI ρ1 [(0, .tmp 49)] = [(0, .agg #[.string (str [2]), .bool (nR ((1 : Int) : Dyadic)).neg, .string (nR ((1 : Int) : Dyadic)).bM, .int .i64 (nR ((1 : Int) : Dyadic)).e])] from aY (show ρ1 49 = _ from hR.1) bQ) rfl rfl Dr Dr rfl fun v w2 h hb => ⟨hb, h⟩
 refine bj (i := 3) (mX 1 1 (zT [([2], 1)])) (mX.ext) ?_ ?_
 ·intro ρ1 w1 hj hR;obtain ⟨g50, e50, o50⟩ := hR.1;exact let ⟨b, e1, s1⟩ := hR.1; bJ rfl (aW aq.out (ay rfl (ay e1 a0))) (eu 1 (some ⟨b, 0, none⟩) 1 1 w1) (fun _ _ hq => ⟨_, hq.1, hq.2, b, rfl, s1.ext hq.2⟩)
 refine fX 0 [_,_] ?_;refine bj (i := 5) (fe 1 2 (aQ PX.cells [⟨2, some ⟨b45, 0, none⟩, 2, 2, zT qS⟩])) (fe.ext) ?_ ?_
 ·intro ρ1 w1 hj hR;exact fm (sz := 2) aF.out aC.out (show pI ρ1 [(0, .tmp 52)] = [(0, .agg #[.int .i64 2, .slice (some ⟨b45, 0, none⟩) 2 2])] from aY (show ρ1 52 = _ from hR.1) bQ) rfl rfl Dr Dr rfl fun v w2 h hb => ⟨hb, h⟩
 refine bj (i := 6) (hO hh.sz 0 2 (zT [([0, 2], 1), ([1, 1], 2), ([2, 0], 1)])) (hO.ext) ?_ ?_
 ·intro ρ1 w1 hj hR;obtain ⟨g51, e51, o51⟩ := hR.1;obtain ⟨g53, e53, o53⟩ := hR.2.1;exact let ⟨b, e1, s1⟩ := hR.1; let ⟨d, e2, s2⟩ := hR.2.1; bJ rfl (aW aq.out (ay e1 (ay e2 a0))) (CH b d b45 w1 (hT.hp hj.hp) s1 s2 (hj.hp.aD (i := 1) rfl)) (fun _ _ ⟨g, og, hq, h3⟩ => ⟨_, hq, h3.below, g, w1, rfl, og, hj.bl.size, h3⟩)
 refine bj (i := 7) (hO hh.sz 0 2 (zT [([0, 2], 1), ([1, 1], 2), ([2, 0], 1)])) (hO.ext) ?_ ?_
 ·intro ρ1 w1 hj hR;exact let ⟨g, u, e1, e2⟩ := hR.1; bW rfl (cQ e1) ⟨Below.refl _ _, g, u, rfl, e2⟩
 refine bj (i := 8) (ij hh.sz 0 2 (zT [([0, 2], 1), ([1, 1], 2), ([2, 0], 1)])) (ij.ext) ?_ ?_
 ·intro ρ1 w1 hj hR;exact let ⟨g, u, e1, e2⟩ := hR.1; bW rfl (dP (vs := [_, _]) e1 rfl) ⟨Below.refl _ _, g, u, rfl, e2⟩
 refine bj (i := 9) (Is (.int .i64 0)) (Is.ext) ?_ ?_
 ·intro ρ1 w1 hj hR;exact let ⟨g, u, e1, e2⟩ := hR.1; bW rfl (dP (vs := [_, _]) e1 rfl) ⟨Below.refl _ _, rfl⟩
 refine bj (i := 10) (cL _ 24 _) cL.ext (fun ρ1 w1 hj hR => fV aC.out hj.bl (fun v w2 h hb => ⟨hb, h⟩)) ?_;refine bq ?_;intro f W hJ hV _;have hb_6 := hJ.bl;obtain ⟨v9, v56, v55, v47, v54, v53, v52, v51, v50, v49, v48, _⟩ := hV;obtain ⟨g50, e50, o50⟩ : fe 1 4 (aQ TR.cells (zT [([2], 1)])) (f 2) W := v50;obtain ⟨g51, e51, o51⟩ : mX 1 1 (zT [([2], 1)]) (f 3) W := v51;obtain ⟨g53, e53, o53⟩ : fe 1 2 (aQ PX.cells [⟨2, some ⟨b45, 0, none⟩, 2, 2, zT qS⟩]) (f 5) W := v53;obtain ⟨g54, u54, e54, -⟩ := v54;obtain ⟨g47, u47, e47, -⟩ := v47;obtain ⟨g55, u55, e55, o55, q55, h55⟩ := v55;obtain ⟨b9, e9, hl9, hc9⟩ : cL _ _ _ (f 10) W := v9;replace hh := hJ.mc hh hl9 hc9 q55 h55 (PX.ne h55 hc9 Dr);refine a6 (bk (ae e9 (ae v56 (ae e55 (ae e47 (ae e54 (ae e53 (ae v52 (ae e51 (ae e50 (ae v49 (ae v48 a5)))))))))))) ?_;dsimp only [cJ];clear e50 e51 e53 e54 e47 e55 e9 hJ;simp only [List.cons_append, List.nil_append] at hh;obtain ⟨A9, c9, rfl⟩ := o55.zT (show PX.at_ _ _ from hh.aD (i := 1) rfl);refine bD hh 0 [_,_] ?_;intro ws hh;replace hh : Hp _ (.blk _ _ [_, _] _ :: _) _ := hh;refine aI (aa (ah ?_))
 refine cY [6] [5] [0, 0, 3, 7, 15, 15, 0, 95, 255] 7 [[(1, none)], [], [(58, some 0), (59, some 1)], [(60, some 2)], [(57, some 3)], [(57, some 3)], []] [(6, 11), (5, 62), (4, 61), (3, 57), (2, 60), (1, 59), (0, 58)] hh mixed Dt (jV rfl aC.out dI) rfl (by repeat (first | exact bX | refine bE ?_ | refine bV ?_)) ?_;refine fX 9 [_,_] ?_;refine dC (fun _ hj => bP (3) _ Dr Dr) ?_;refine bj (i := 2) (hO hh.sz 0 1 (zT [([0], 2), ([1], 9)])) (hO.ext) ?_ ?_
 ·intro ρ1 w1 hj hR;exact bJ rfl (aW aq.out (ay (show ρ1 58 = Value.agg _ from hR.1) (ay rfl (ay (show ρ1 59 = Value.agg _ from hR.2.1) a0)))) (B5 (some ⟨b21, 0, none⟩) 2 w1 (hT.hp hj.hp) (hj.hp.aD (i := 10) rfl) Dr) (fun _ _ ⟨g, og, hq, h3⟩ => ⟨_, hq, h3.below, g, w1, rfl, og, hj.bl.size, h3⟩)
 refine bj (i := 3) (hO hh.sz 0 1 (zT [([0], 2), ([1], 9)])) (hO.ext) ?_ ?_
 ·intro ρ1 w1 hj hR;exact let ⟨g, u, e1, e2⟩ := hR.1; bW rfl (cQ e1) ⟨Below.refl _ _, g, u, rfl, e2⟩
 refine bj (i := 4) (ij hh.sz 0 1 (zT [([0], 2), ([1], 9)])) (ij.ext) ?_ ?_
 ·intro ρ1 w1 hj hR;exact let ⟨g, u, e1, e2⟩ := hR.1; bW rfl (dP (vs := [_, _]) e1 rfl) ⟨Below.refl _ _, g, u, rfl, e2⟩
 refine bj (i := 5) (Is (.int .i64 0)) (Is.ext) ?_ ?_
 ·intro ρ1 w1 hj hR;exact let ⟨g, u, e1, e2⟩ := hR.1; bW rfl (dP (vs := [_, _]) e1 rfl) ⟨Below.refl _ _, rfl⟩
 refine bj (i := 6) (cL _ 24 _) cL.ext (fun ρ1 w1 hj hR => fV aC.out hj.bl (fun v w2 h hb => ⟨hb, h⟩)) ?_;refine bq ?_;intro f W hJ hV _;have hb_7 := hJ.bl;obtain ⟨v11, v62, v61, v57, v60, v59, v58, _⟩ := hV;obtain ⟨g60, u60, e60, -⟩ := v60;obtain ⟨g57, u57, e57, -⟩ := v57;obtain ⟨g61, u61, e61, o61, q61, h61⟩ := v61;obtain ⟨b11, e11, hl11, hc11⟩ : cL _ _ _ (f 6) W := v11;replace hh := hJ.mc hh hl11 hc11 q61 h61 (PX.ne h61 hc11 Dr);refine a6 (bk (ae e11 (ae v62 (ae e61 (ae e57 (ae e60 (ae v59 (ae v58 a5)))))))) ?_;dsimp only [cJ];clear e60 e57 e61 e11 hJ;simp only [List.cons_append, List.nil_append] at hh;obtain ⟨A11, c11, rfl⟩ := o61.zT (show PX.at_ _ _ from hh.aD (i := 1) rfl);refine bD hh 0 [_,_] ?_;intro ws hh;replace hh : Hp _ (.blk _ _ [_, _] _ :: _) _ := hh;refine aI (aa (ah ?_));refine cY [7] [6] [0, 0, 2, 7, 15, 31, 31, 0, 191, 511] 8 [[(8, none)], [], [(65, some 1)], [(64, some 0), (66, some 2)], [(67, some 3)], [(63, some 4)], [(63, some 4)], []] [(7, 13), (6, 69), (5, 68), (4, 63), (3, 67), (2, 66), (1, 65), (0, 64)] hh mixed Dt (jV rfl aC.out dI) rfl (by repeat (first | exact bX | refine bE ?_ | refine bV ?_)) ?_;refine fX 4 [_,_] ?_
 refine dC (fun _ hj => bP 1 _ Dr Dr) ?_;refine tF [_,_,_] ?_;refine bj (i := 3) (Is (.tuple #[.agg #[.bool (nR 0).neg, .string (nR 0).bM, .int .i64 (nR 0).e], .int .i64 1])) Is.ext ?_ ?_
 ·intro ρ1 w1 hj hR;obtain ⟨A66, c66, h66, s66⟩ := hR.2.1;exact bJ rfl (aW aq.out (ay (show ρ1 64 = Value.agg (List.toArray _) from hR.1) (ay h66 a0))) (yn (some ⟨b45, 0, none⟩) 2 A66 c66 _ (hT.hp hj.hp) (hj.hp.aD (i := 5) rfl) Dr s66) (fun _ _ hq => ⟨_, hq.1, hq.2, rfl⟩)
 refine CK ?_;refine Bh ?_;refine Bh ?_;refine bj (i := 7) (cL _ 65 _) cL.ext (fun ρ1 w1 hj hR => fV aC.out hj.bl (fun v w2 h hb => ⟨hb, h⟩)) ?_;refine bq ?_;intro f W hJ hV _;have hb_8 := hJ.bl;obtain ⟨v13, v69, v68, v63, v67, v66, v65, v64, _⟩ := hV;obtain ⟨A66, c66, e66, f66⟩ : Rows _ _ _ (f 2) W := v66;obtain ⟨b13, e13, hl13, hc13⟩ : cL _ _ _ (f 7) W := v13;replace hh := hJ.newVar hh hl13 hc13;refine a6 (bk (ae e13 (ae v69 (ae v68 (ae v63 (ae v67 (ae e66 (ae v65 (ae v64 a5))))))))) ?_;dsimp only [cJ];clear e66 e13 hJ;refine bD hh 0 [_,_,_] ?_;intro ws hh;replace hh : Hp _ (.blk _ _ [_, _, _] _ :: _) _ := hh;refine aI (aa (sr ?_));refine bB hh (eu 0 none 0 0 _) rfl ?_;intro w71 hh;refine aK (AD _ (hT.hp hh)) aq.out rfl Dr ?_;rintro e_ w72 ⟨g15, rfl, hb_⟩;refine ⟨_, rfl, ?_⟩;replace hh := hh.ext hb_;refine mT ?_;refine da ?_;refine da ?_;refine cj hh ?_;intro b15 w15 hh;refine bD hh 0 [_,_] ?_;intro ws hh;replace hh : Hp _ (.blk _ _ [_, _] _ :: _) _ := hh;refine aI (aa (ah ?_))
 replace hh := show Hp w (_ :: _ :: .blk b11 24 [.int .i64 1, .slice A11 2 c11] (0, 0) :: .row A11 2 c11 96 4 (aQ TR.cells (zT [([0], 2), ([1], 9)])) :: .blk b9 24 [.int .i64 2, .slice A9 3 c9] (0, 0) :: .row A9 3 c9 96 4 (aQ TR.cells (zT [([0, 2], 1), ([1, 1], 2), ([2, 0], 1)])) :: _ :: _ :: .blk b6 24 [.int .i64 2, .slice A6 1 c6] (0, 0) :: .row A6 1 c6 96 4 (aQ TR.cells (zT [([2, 0], 1)])) :: .blk b4 24 [.int .i64 2, .slice A4 1 c4] (0, 0) :: .row A4 1 c4 96 4 (aQ TR.cells (zT [([1, 1], 2)])) :: _) _ from hh
 refine cY [] [] [0, 0, 3, 7, 15, 31, 63, 127, 255, 255, 767, 1791, 3839, 8191, 16383, 32767, 65535, 131071, 262143, 524287, 1048575, 1048575, 3145727, 7340031, 15728639, 33554431, 67108863, 134217727, 268435455, 536870911, 1073741823, 2147483647, 4294967295, 4294967295, 12884901887, 12884901887, 47244640255, 47244640255, 184683593727, 545460846591, 1095216660479, 2199023255551, 4398046511103, 8796093022207, 17592186044415, 35184372088831, 70368744177663, 140737488355327, 281474976710655, 281474976710655, 844424930131967, 844424930131967, 3096224743817215, 8725724278030335, 17732923532771327, 36028797018963967, 72057594037927935, 144115188075855871, 288230376151711743, 576460752303423487, 1152921504606846975, 2305843009213693951, 4611686018427387903, 9223372036854775807, 18446744073709551615, 36893488147419103231, 73786976294838206463, 147573952589676412927, 295147905179352825855, 590295810358705651711] 55 [[(2, none)], [], [(75, some 0), (76, some 1)], [(77, some 2)], [(3, none), (78, some 3)], [(79, some 4), (78, some 3)], [(78, some 3), (80, some 5)], [(81, some 6)], [(4, none), (82, some 7)], [(82, some 7)], [(84, some 9), (82, some 7)], [(85, some 10), (82, some 7)], [(86, some 11), (82, some 7)], [(83, some 8), (87, some 12), (82, some 7)], [(82, some 7), (88, some 13)], [(89, some 14)], [(5, none), (90, some 15)], [(91, some 16), (90, some 15)], [(90, some 15), (92, some 17)], [(93, some 18)], [(6, none), (94, some 19)], [(94, some 19)], [(96, some 21), (94, some 19)], [(97, some 22), (94, some 19)], [(98, some 23), (94, some 19)], [(95, some 20), (99, some 24), (94, some 19)], [(94, some 19), (100, some 25)], [(101, some 26)], [(7, none), (102, some 27)], [(103, some 28), (102, some 27)], [(102, some 27), (104, some 29)], [(105, some 30)], [(9, none), (106, some 31)], [(106, some 31)], [(108, some 33), (106, some 31)], [(106, some 31)], [(110, some 35), (106, some 31)], [(106, some 31)], [(112, some 37), (106, some 31)], [(109, some 34), (111, some 36), (113, some 38), (106, some 31)], [(114, some 39), (106, some 31)], [(107, some 32), (115, some 40), (106, some 31)], [(106, some 31), (116, some 41)], [(117, some 42)], [(10, none), (118, some 43)], [(119, some 44), (118, some 43)], [(118, some 43), (120, some 45)], [(121, some 46)], [(11, none), (122, some 47)], [(122, some 47)], [(124, some 49), (122, some 47)], [(122, some 47)], [(126, some 51), (122, some 47)], [(125, some 50), (127, some 52), (122, some 47)], [(128, some 53), (122, some 47)]] [(54, 129), (53, 128), (52, 127), (51, 126), (50, 125), (49, 124), (48, 123), (47, 122), (46, 121), (45, 120), (44, 119), (43, 118), (42, 117), (41, 116), (40, 115), (39, 114), (38, 113), (37, 112), (36, 111), (35, 110), (34, 109), (33, 108), (32, 107), (31, 106), (30, 105), (29, 104), (28, 103), (27, 102), (26, 101), (25, 100), (24, 99), (23, 98), (22, 97), (21, 96), (20, 95), (19, 94), (18, 93), (17, 92), (16, 91), (15, 90), (14, 89), (13, 88), (12, 87), (11, 86), (10, 85), (9, 84), (8, 83), (7, 82), (6, 81), (5, 80), (4, 79), (3, 78), (2, 77), (1, 76), (0, 75)] hh mixed Dt dI rfl (by repeat (first | exact bX | refine bE ?_ | refine bV ?_)) ?_
 refine fX 12 [_,_,_] ?_;refine dC (fun _ hj => bP (-7) _ Dr Dr) ?_;first | refine bo (i := 2) (fun ρ1 w1 hj hR => vu (show ρ1 75 = Value.agg (List.toArray _) from hR.1) (show ρ1 76 = Value.agg (List.toArray _) from hR.2.1) (by first | assumption | rfl)) ?_ | refine bo (i := 2) (fun ρ1 w1 hj hR => vd (show ρ1 75 = Value.agg (List.toArray _) from hR.1) (show ρ1 76 = Value.agg (List.toArray _) from hR.2.1) (by assumption)) ?_
 refine ky ?_;first | refine dS ?_ | refine dU ?_ | refine dG (fW ?_)
 first | refine dS ?_ | refine dU ?_ | refine dG (pR ?_)
 first | refine rh ?_ | refine rQ ?_
 refine ky ?_;first | refine dS ?_ | refine dU ?_ | refine dG (fX 10 [_,_] ?_)
 refine bR (i := 9) rfl (fun ρ1 w1 hj hR => (show ρ1 82 = Value.bool _ from hR.1)) (fun ρ1 w1 hj hR => aW aq.out (ay rfl a0)) (fun w1 hj => bP (2) _ Dr Dr) ?_;first | refine dS ?_ | refine dU ?_ | refine dG (dB [_,_,_,_] ?_)
 refine eE (i := 11) (cs := [_, _, _, _]) rfl (fun ρ1 w1 hj hR => (show ρ1 82 = Value.bool _ from hR.2.1)) aF.out aC.out (fun ρ1 w1 hj hR => (aY (show ρ1 85 = Value.agg (List.toArray _) from hR.1) bQ)) rfl rfl Dr Dr rfl ?_;refine bj (i := 12) (fv 2 1 (zT [([1, 1], 2)])) (fv.ext) ?_ ?_
 ·intro ρ1 w1 hj hR;obtain ⟨A86, c86, h86, s86⟩ := hR.1;exact cD rfl (show ρ1 82 = Value.bool _ from hR.2.1) (bJ rfl (aW aq.out (ay rfl (ay h86 a0))) (eu 2 A86 1 c86 w1) (fun _ _ hq => ⟨_, hq.1, hq.2, (A86, c86), rfl, s86.ext hq.2⟩))
 refine bj (i := 13) (Is (.bool true)) (Is.ext) ?_ ?_
 ·intro ρ1 w1 hj hR;obtain ⟨g87, e87, o87⟩ := hR.2.1;exact let ⟨p, e1, s1⟩ := hR.2.1; cD rfl (show ρ1 82 = Value.bool _ from hR.2.2.1) (bJ rfl (aW aq.out (ay (show ρ1 83 = Value.agg _ from hR.1) (ay e1 a0))) (vq [([1, 1], 2)] 2 A4 1 c4 p.1 p.2 w1 (hj.hp.aD (i := 11) rfl) s1 Dr) (fun _ _ hq => ⟨_, hq.1, hq.2, rfl⟩))
 first | refine rh ?_ | refine rQ ?_
 refine ky ?_;first | refine dS ?_ | refine dU ?_ | refine dG (fW ?_)
 first | refine dS ?_ | refine dU ?_ | refine dG (pR ?_)
 first | refine rh ?_ | refine rQ ?_
 refine ky ?_;first | refine dS ?_ | refine dU ?_ | refine dG (fX 8 [_,_] ?_)
 refine bR (i := 21) rfl (fun ρ1 w1 hj hR => (show ρ1 94 = Value.bool _ from hR.1)) (fun ρ1 w1 hj hR => aW aq.out (ay rfl a0)) (fun w1 hj => bP (1) _ Dr Dr) ?_;first | refine dS ?_ | refine dU ?_ | refine dG (dB [_,_,_,_] ?_)
 refine eE (i := 23) (cs := [_, _, _, _]) rfl (fun ρ1 w1 hj hR => (show ρ1 94 = Value.bool _ from hR.2.1)) aF.out aC.out (fun ρ1 w1 hj hR => (aY (show ρ1 97 = Value.agg (List.toArray _) from hR.1) bQ)) rfl rfl Dr Dr rfl ?_;refine bj (i := 24) (fv 2 1 (zT [([2, 0], 1)])) (fv.ext) ?_ ?_
 ·intro ρ1 w1 hj hR;obtain ⟨A98, c98, h98, s98⟩ := hR.1;exact cD rfl (show ρ1 94 = Value.bool _ from hR.2.1) (bJ rfl (aW aq.out (ay rfl (ay h98 a0))) (eu 2 A98 1 c98 w1) (fun _ _ hq => ⟨_, hq.1, hq.2, (A98, c98), rfl, s98.ext hq.2⟩))
 refine bj (i := 25) (Is (.bool true)) (Is.ext) ?_ ?_
 ·intro ρ1 w1 hj hR;obtain ⟨g99, e99, o99⟩ := hR.2.1;exact let ⟨p, e1, s1⟩ := hR.2.1; cD rfl (show ρ1 94 = Value.bool _ from hR.2.2.1) (bJ rfl (aW aq.out (ay (show ρ1 95 = Value.agg _ from hR.1) (ay e1 a0))) (vq [([2, 0], 1)] 2 A6 1 c6 p.1 p.2 w1 (hj.hp.aD (i := 9) rfl) s1 Dr) (fun _ _ hq => ⟨_, hq.1, hq.2, rfl⟩))
 first | refine rh ?_ | refine rQ ?_
 refine ky ?_;first | refine dS ?_ | refine dU ?_ | refine dG (fW ?_)
 first | refine dS ?_ | refine dU ?_ | refine dG (pR ?_)
 first | refine rh ?_ | refine rQ ?_
 refine ky ?_;first | refine dS ?_ | refine dU ?_ | refine dG (fX 4 [_,_] ?_)
 refine bR (i := 33) rfl (fun ρ1 w1 hj hR => (show ρ1 106 = Value.bool _ from hR.1)) (fun ρ1 w1 hj hR => aW aq.out (ay rfl a0)) (fun w1 hj => bP (1) _ Dr Dr) ?_;first | refine dS ?_ | refine dU ?_ | refine dG (dB [_,_,_,_] ?_)
 refine bR (i := 35) rfl (fun ρ1 w1 hj hR => (show ρ1 106 = Value.bool _ from hR.1)) (fun ρ1 w1 hj hR => aW aq.out (ay rfl a0)) (fun w1 hj => bP (2) _ Dr Dr) ?_;first | refine dS ?_ | refine dU ?_ | refine dG (dB [_,_,_,_] ?_)
 refine bR (i := 37) rfl (fun ρ1 w1 hj hR => (show ρ1 106 = Value.bool _ from hR.1)) (fun ρ1 w1 hj hR => aW aq.out (ay rfl a0)) (fun w1 hj => bP (1) _ Dr Dr) ?_;first | refine dS ?_ | refine dU ?_ | refine dG (dB [_,_,_,_] ?_)
 refine eE (i := 39) (cs := [_, _, _, _, _, _, _, _, _, _, _, _]) rfl (fun ρ1 w1 hj hR => (show ρ1 106 = Value.bool _ from hR.2.2.2.1)) aF.out aC.out (fun ρ1 w1 hj hR => (aY (show ρ1 109 = Value.agg (List.toArray _) from hR.1) (aY (show ρ1 111 = Value.agg (List.toArray _) from hR.2.1) (aY (show ρ1 113 = Value.agg (List.toArray _) from hR.2.2.1) bQ)))) rfl rfl Dr Dr rfl ?_;refine bj (i := 40) (fv 2 3 (zT [([0, 2], 1), ([1, 1], 2), ([2, 0], 1)])) (fv.ext) ?_ ?_
 ·intro ρ1 w1 hj hR;obtain ⟨A114, c114, h114, s114⟩ := hR.1;exact cD rfl (show ρ1 106 = Value.bool _ from hR.2.1) (bJ rfl (aW aq.out (ay rfl (ay h114 a0))) (eu 2 A114 3 c114 w1) (fun _ _ hq => ⟨_, hq.1, hq.2, (A114, c114), rfl, s114.ext hq.2⟩))
 refine bj (i := 41) (Is (.bool true)) (Is.ext) ?_ ?_
 ·intro ρ1 w1 hj hR;obtain ⟨g115, e115, o115⟩ := hR.2.1;exact let ⟨p, e1, s1⟩ := hR.2.1; cD rfl (show ρ1 106 = Value.bool _ from hR.2.2.1) (bJ rfl (aW aq.out (ay (show ρ1 107 = Value.agg _ from hR.1) (ay e1 a0))) (vq [([0, 2], 1), ([1, 1], 2), ([2, 0], 1)] 2 A9 3 c9 p.1 p.2 w1 (hj.hp.aD (i := 5) rfl) s1 Dr) (fun _ _ hq => ⟨_, hq.1, hq.2, rfl⟩))
 first | refine rh ?_ | refine rQ ?_
 refine ky ?_;first | refine dS ?_ | refine dU ?_ | refine dG (fW ?_)
 first | refine dS ?_ | refine dU ?_ | refine dG (pR ?_)
 first | refine rh ?_ | refine rQ ?_
 refine ky ?_;first | refine dS ?_ | refine dU ?_ | refine dG (fX 2 [_,_] ?_)
 refine bR (i := 49) rfl (fun ρ1 w1 hj hR => (show ρ1 122 = Value.bool _ from hR.1)) (fun ρ1 w1 hj hR => aW aq.out (ay rfl a0)) (fun w1 hj => bP (2) _ Dr Dr) ?_;first | refine dS ?_ | refine dU ?_ | refine dG (dB [_,_,_,_] ?_)
 refine bR (i := 51) rfl (fun ρ1 w1 hj hR => (show ρ1 122 = Value.bool _ from hR.1)) (fun ρ1 w1 hj hR => aW aq.out (ay rfl a0)) (fun w1 hj => bP (9) _ Dr Dr) ?_;first | refine dS ?_ | refine dU ?_ | refine dG (dB [_,_,_,_] ?_)
 refine eE (i := 53) (cs := [_, _, _, _, _, _, _, _]) rfl (fun ρ1 w1 hj hR => (show ρ1 122 = Value.bool _ from hR.2.2.1)) aF.out aC.out (fun ρ1 w1 hj hR => (aY (show ρ1 125 = Value.agg (List.toArray _) from hR.1) (aY (show ρ1 127 = Value.agg (List.toArray _) from hR.2.1) bQ))) rfl rfl Dr Dr rfl ?_;refine bj (i := 54) (fv 1 2 (zT [([0], 2), ([1], 9)])) (fv.ext) ?_ ?_
 ·intro ρ1 w1 hj hR;obtain ⟨A128, c128, h128, s128⟩ := hR.1;exact cD rfl (show ρ1 122 = Value.bool _ from hR.2.1) (bJ rfl (aW aq.out (ay rfl (ay h128 a0))) (eu 1 A128 2 c128 w1) (fun _ _ hq => ⟨_, hq.1, hq.2, (A128, c128), rfl, s128.ext hq.2⟩))
 refine bq ?_;intro f W hJ hV _;have hb_10 := hJ.bl;obtain ⟨v129, v128, v127, v126, v125, v124, v123, v122, v121, v120, v119, v118, v117, v116, v115, v114, v113, v112, v111, v110, v109, v108, v107, v106, v105, v104, v103, v102, v101, v100, v99, v98, v97, v96, v95, v94, v93, v92, v91, v90, v89, v88, v87, v86, v85, v84, v83, v82, v81, v80, v79, v78, v77, v76, v75, _⟩ := hV;obtain ⟨A86, c86, e86, f86⟩ : Rows _ _ _ (f 11) W := v86;obtain ⟨g87, e87, o87⟩ : fv 2 1 (zT [([1, 1], 2)]) (f 12) W := v87;obtain ⟨A98, c98, e98, f98⟩ : Rows _ _ _ (f 23) W := v98;obtain ⟨g99, e99, o99⟩ : fv 2 1 (zT [([2, 0], 1)]) (f 24) W := v99;obtain ⟨A114, c114, e114, f114⟩ : Rows _ _ _ (f 39) W := v114;obtain ⟨g115, e115, o115⟩ : fv 2 3 (zT [([0, 2], 1), ([1, 1], 2), ([2, 0], 1)]) (f 40) W := v115;obtain ⟨A128, c128, e128, f128⟩ : Rows _ _ _ (f 53) W := v128;obtain ⟨g129, e129, o129⟩ : fv 1 2 (zT [([0], 2), ([1], 9)]) (f 54) W := v129;replace hh := hJ.hp
 refine a6 (bk (ae e129 (ae e128 (ae v127 (ae v126 (ae v125 (ae v124 (ae v123 (ae v122 (ae v121 (ae v120 (ae v119 (ae v118 (ae v117 (ae v116 (ae e115 (ae e114 (ae v113 (ae v112 (ae v111 (ae v110 (ae v109 (ae v108 (ae v107 (ae v106 (ae v105 (ae v104 (ae v103 (ae v102 (ae v101 (ae v100 (ae e99 (ae e98 (ae v97 (ae v96 (ae v95 (ae v94 (ae v93 (ae v92 (ae v91 (ae v90 (ae v89 (ae v88 (ae e87 (ae e86 (ae v85 (ae v84 (ae v83 (ae v82 (ae v81 (ae v80 (ae v79 (ae v78 (ae v77 (ae v76 (ae v75 a5)))))))))))))))))))))))))))))))))))))))))))))))))))))))) ?_;dsimp only [cJ];clear e86 e87 e98 e99 e114 e115 e128 e129 hJ;refine br rfl rfl ?_;refine bB hh (vq [([0], 2), ([1], 9)] 1 A11 2 c11 g129.1 g129.2 _ (hh.aD (i := 3) rfl) o129 Dr) rfl ?_;intro w130 hh;first | refine cW ?_ | refine cX ?_
 refine mB ?_;first | refine gS ?_ | (refine gT ?_; refine mI ?_) | refine gV ?_
 first | refine gS ?_ | (refine gT ?_; refine cu ?_) | refine gV ?_
 first | refine cW ?_ | refine cX ?_
 refine mB ?_;first | refine gS ?_ | (refine gT ?_; refine mI ?_) | refine gV ?_
 first | refine gS ?_ | (refine gT ?_; refine cu ?_) | refine gV ?_
 first | refine cW ?_ | refine cX ?_
 refine mB ?_;first | refine gS ?_ | (refine gT ?_; refine mI ?_) | refine gV ?_
 first | refine gS ?_ | (refine gT ?_; refine cu ?_) | refine gV ?_
 first | refine cW ?_ | refine cX ?_
 refine aB (aa (al ?_));refine cA ?_;exact ⟨rfl, hh.below⟩
end Go.Proofs.YteeckcbbnegmcaaGreatDoor
/- Slopes of rows of terms: of a sum, of a product, by two variables. Plain, no program in sight. -/
namespace Go.Proofs.YteeckcbbnegmcaaGreatDoor
open Go.RowKit
def dM (i : Nat) (f : ByteArray → Dyadic) (m : ByteArray) : Dyadic :=
 match m.data.toList[i]? with | some e => ((e.toNat : Int) : Dyadic) * f (str (m.data.toList.set i (e - 1))) | none => 0
theorem k8 {i : Nat} {f : ByteArray → Dyadic} {m : ByteArray} {e : UInt8} (h : m.data.toList[i]? = some e) : dM i f m = ((e.toNat : Int) : Dyadic) * f (str (m.data.toList.set i (e - 1))) := by
 unfold dM; rw [h]
theorem jW {i : Nat} {f : ByteArray → Dyadic} {m : ByteArray} (h : m.data.toList[i]? = none) : dM i f m = 0 := by
 unfold dM; rw [h]
theorem gu (i : Nat) (f : ByteArray → Dyadic) (l : List TR) : wS f (fc i l) = wS (dM i f) l := by
 induction l with
 | nil => rfl
 | cons t l ih =>
  rw [wS, ← ih];unfold fc;rw [List.filterMap_cons]
  cases he : t.m.data.toList[i]? with
  | none =>
   rw [jW he, show kD i t = none by unfold kD; rw [he], Dyadic.mul_zero, Dyadic.zero_add]
  | some e =>
   rw [k8 he];by_cases h0 : e.toNat = 0
   ·rw [show kD i t = none by unfold kD; rw [he]; exact if_pos h0, h0];show _ = t.c.d * ((0 : Dyadic) * _) + _;rw [Dyadic.zero_mul, Dyadic.mul_zero, Dyadic.zero_add]
   ·rw [show kD i t = some ⟨str (t.m.data.toList.set i (e - 1)), nR (t.c.d * ((e.toNat : Int) : Dyadic))⟩ by unfold kD; rw [he]; exact if_neg h0];show wS f (_ :: _) = _;rw [wS];show (nR _).d * _ + _ = _;rw [dR, Dyadic.mul_assoc]
theorem Ap (i j : Nat) (f : ByteArray → Dyadic) (m : ByteArray) : dM i (dM j f) m = dM j (dM i f) m := by
 by_cases hij : i = j
 ·rw [hij]
 ·cases hi : m.data.toList[i]? with
  | none =>
   rw [jW hi]
   cases hj : m.data.toList[j]? with
   | none => rw [jW hj]
   | some y => rw [k8 hj, jW (by rw [bC, List.getElem?_set_ne Dq]; exact hi), Dyadic.mul_zero]
  | some x =>
   rw [k8 hi]
   cases hj : m.data.toList[j]? with
   | none => rw [jW hj, jW (by rw [bC, List.getElem?_set_ne hij]; exact hj), Dyadic.mul_zero]
   | some y =>
    rw [k8 hj, k8 (e := y) (by rw [bC, List.getElem?_set_ne hij]; exact hj), k8 (e := x) (by rw [bC, List.getElem?_set_ne Dq]; exact hi), bC, bC, List.set_comm _ _ hij];grind
theorem AX {f g : ByteArray → Dyadic} {l : List TR} (h : ∀ t ∈ l, f t.m = g t.m) : wS f l = wS g l := by
 induction l with
 | nil => rfl
 | cons t l ih => rw [wS, wS, h t List.mem_cons_self, ih fun s hs => h s (List.mem_cons_of_mem _ hs)]
theorem ym (i j : Nat) (l : List TR) : aJ (fc j (aJ (fc i l))) = aJ (fc i (aJ (fc j l))) := gR fun m => by
 unfold fj;rw [gu, ef, gu, gu, ef, gu];exact BP (fun m => Ap i j _ m) l
theorem AH (i : Nat) (p q : List TR) : aJ (fc i (aJ (p ++ q))) = aJ (aJ (fc i p) ++ aJ (fc i q)) := gR fun m => by
 unfold fj;rw [gu, ef, gY, gY, ef, ef, gu, gu]
theorem nL {a b : List UInt8} (ha : dq a = true) (hb : dq b = true) (hl : b.length = a.length) (h : (List.zipWith (· + ·) (ints a) (ints b)).all ej = true) : mulL a b = ((List.zipWith (· + ·) (ints a) (ints b)).map pV, 0) := by
 unfold mulL;rw [z8 ha hb hl];show (y6 _, Ae _) = _;rw [(nI h).1, (nI h).2]
theorem se {a b : List UInt8} (h : (mulL a b).2 = 0) : (List.zipWith (· + ·) (ints a) (ints b)).all ej = true := by
 obtain ⟨_, _, _, h4, h5⟩ := kf h;rw [← h5];exact zt h4
theorem xJ (a : List UInt8) (i : Nat) (c : UInt8) : ints (a.set i c) = (ints a).set i (c.toNat : Int) := by
 unfold ints;rw [List.map_set]
theorem zX {a b : List Int} {i : Nat} {v y : Int} (hy : b[i]? = some y) : List.zipWith (· + ·) (a.set i v) b = (List.zipWith (· + ·) a b).set i (v + y) := by
 refine List.ext_getElem? fun k => ?_;rw [List.getElem?_zipWith, List.getElem?_set, List.getElem?_set, List.getElem?_zipWith, List.length_zipWith];have hb : i < b.length := (List.getElem?_eq_some_iff.1 hy).1;by_cases hk : i = k
 ·subst hk;rw [if_pos rfl, if_pos rfl, hy];by_cases ha : i < a.length
  ·rw [if_pos ha, if_pos Dq]
  ·rw [if_neg ha, if_neg Dq]
 ·rw [if_neg hk, if_neg hk]
theorem tD {a b : ByteArray} {i : Nat} {x y : UInt8} (h : iD a b = 0) (hx : a.data.toList[i]? = some x) (hy : b.data.toList[i]? = some y) (h0 : x.toNat ≠ 0) : mulM (str (a.data.toList.set i (x - 1))) b = str ((mulM a b).data.toList.set i (pV ((x.toNat : Int) + y.toNat) - 1)) := by
 obtain ⟨h1, h2, h3, _, _⟩ := kf h;have hall := se h;have h01 : (1 : UInt8) ≤ x := by rw [UInt8.le_iff_toNat_le]; show 1 ≤ x.toNat; omega
 have hx1 : (x - 1).toNat = x.toNat - 1 := by rw [UInt8.toNat_sub_of_le _ _ h01]; rfl
 have hx8 := gO h1 hx;have hy8 := gO h2 hy;have hiy : (ints b.data.toList)[i]? = some (y.toNat : Int) := by unfold ints; rw [List.getElem?_map, hy]; rfl
 have hix : (ints a.data.toList)[i]? = some (x.toNat : Int) := by unfold ints; rw [List.getElem?_map, hx]; rfl
 have hxy : ej ((x.toNat : Int) + y.toNat) = true := List.all_eq_true.1 hall _ (List.mem_of_getElem? (uI (f := fun (x y : Int) => x + y) hix hiy));have hs : dq (a.data.toList.set i (x - 1)) = true := by
  rw [gD];intro c hc
  rcases List.mem_or_eq_of_mem_set hc with hc | rfl
  ·exact gD.1 h1 c hc
  ·omega
 have hz : List.zipWith (· + ·) (ints (a.data.toList.set i (x - 1))) (ints b.data.toList) = (List.zipWith (· + ·) (ints a.data.toList) (ints b.data.toList)).set i ((x.toNat : Int) + y.toNat - 1) := by
  rw [xJ, zX hiy, hx1];congr 1;omega
 have hxy1 : ej ((x.toNat : Int) + y.toNat - 1) = true := by
  simp only [ej, Bool.and_eq_true, decide_eq_true_eq] at hxy ⊢;omega
 unfold mulM;rw [nL h1 h2 h3 hall, bC, bC, nL hs h2 (by rw [List.length_set]; exact h3) (by
  rw [hz, List.all_eq_true];intro c hc
  rcases List.mem_or_eq_of_mem_set hc with hc | rfl
  ·exact List.all_eq_true.1 hall c hc
  ·exact hxy1), hz, List.map_set]
 refine congrArg str (congrArg (List.set _ i) ?_);have e1 := ke hxy;have e2 := ke hxy1;injection e1 with _ e1
 injection e2 with _ e2
 refine UInt8.toNat_inj.1 ?_;have h11 : (1 : UInt8) ≤ pV ((x.toNat : Int) + y.toNat) := by rw [UInt8.le_iff_toNat_le]; show 1 ≤ (pV _).toNat; omega
 rw [UInt8.toNat_sub_of_le _ _ h11];show (pV _).toNat = (pV _).toNat - 1;omega
theorem uZ {a b : ByteArray} {i : Nat} {x y : UInt8} (h : iD a b = 0) (hx : a.data.toList[i]? = some x) (hy : b.data.toList[i]? = some y) : (mulM a b).data.toList[i]? = some (pV ((x.toNat : Int) + y.toNat)) ∧ (pV ((x.toNat : Int) + y.toNat)).toNat = x.toNat + y.toNat := by
 obtain ⟨h1, h2, h3, _, _⟩ := kf h;have hall := se h;have hiy : (ints b.data.toList)[i]? = some (y.toNat : Int) := by unfold ints; rw [List.getElem?_map, hy]; rfl
 have hix : (ints a.data.toList)[i]? = some (x.toNat : Int) := by unfold ints; rw [List.getElem?_map, hx]; rfl
 have hzz := uI (f := fun (x y : Int) => x + y) hix hiy;have hxy : ej ((x.toNat : Int) + y.toNat) = true := List.all_eq_true.1 hall _ (List.mem_of_getElem? hzz);have e1 := ke hxy;injection e1 with _ e1
 refine ⟨?_, Dq⟩;unfold mulM;rw [bC, nL h1 h2 h3 hall, List.getElem?_map, hzz]
 rfl
theorem BL {i : Nat} {f : ByteArray → Dyadic} {a b : ByteArray} {x y : UInt8} (h : iD a b = 0) (hx : a.data.toList[i]? = some x) (hy : b.data.toList[i]? = some y) :
  dM i f (mulM a b) = ((x.toNat : Int) : Dyadic) * f (mulM (str (a.data.toList.set i (x - 1))) b) + ((y.toNat : Int) : Dyadic) * f (mulM a (str (b.data.toList.set i (y - 1)))) := by
 obtain ⟨hz, hzn⟩ := uZ h hx hy;rw [k8 hz, hzn];have ea : ((x.toNat : Int) : Dyadic) * f (mulM (str (a.data.toList.set i (x - 1))) b) = ((x.toNat : Int) : Dyadic) * f (str ((mulM a b).data.toList.set i (pV ((x.toNat : Int) + y.toNat) - 1))) := by
  by_cases h0 : x.toNat = 0
  ·rw [h0]; exact (Dyadic.zero_mul _).trans (Dyadic.zero_mul _).symm
  ·rw [tD h hx hy h0]
 have eb : ((y.toNat : Int) : Dyadic) * f (mulM a (str (b.data.toList.set i (y - 1)))) = ((y.toNat : Int) : Dyadic) * f (str ((mulM a b).data.toList.set i (pV ((x.toNat : Int) + y.toNat) - 1))) := by
  by_cases h0 : y.toNat = 0
  ·rw [h0]; exact (Dyadic.zero_mul _).trans (Dyadic.zero_mul _).symm
  ·rw [qx a, tD (by rw [wV]; exact h) hy hx h0, qx b, Int.add_comm]
 rw [ea, eb, show (((x.toNat + y.toNat : Nat) : Int) : Dyadic) = ((x.toNat : Int) : Dyadic) + ((y.toNat : Int) : Dyadic) by rw [Int.natCast_add, Au]];grind
theorem xZ {i : Nat} {p q : List TR} (hp : ∀ t ∈ p, ∃ e, t.m.data.toList[i]? = some e) (hq : ∀ t ∈ q, ∃ e, t.m.data.toList[i]? = some e) (h : ∀ e ∈ nn p q, e = 0) :
  aJ (fc i (aJ (cd p q))) = aJ (aJ (cd (aJ (fc i p)) q) ++ aJ (cd p (aJ (fc i q)))) := gR fun m => by
 have hm : ∀ a ∈ p, ∀ b ∈ q, iD a.m b.m = 0 := fun a ha b hb => h _ (List.mem_flatMap.2 ⟨a, ha, List.mem_map.2 ⟨b, hb, rfl⟩⟩);unfold fj;rw [gu, ef, gY, ef, ef, lS, lS, lS, ef, gu, ← yc];refine AX fun a ha => ?_;obtain ⟨x, hx⟩ := hp a ha;rw [ef, gu, k8 hx, ← BX, ← yc];refine AX fun b hb => ?_;obtain ⟨y, hy⟩ := hq b hb;rw [BL (hm a ha b hb) hx hy, k8 hy]
end Go.Proofs.YteeckcbbnegmcaaGreatDoor
/- The walks through slices.Equal of terms and poly.Same. -/
namespace Go.Proofs.YteeckcbbnegmcaaGreatDoor
open Go.RowKit
end Go.Proofs.YteeckcbbnegmcaaGreatDoor
/- The walk through the law PolyForm. -/
namespace Go.Proofs.YteeckcbbnegmcaaGreatDoor
open Go.RowKit
theorem md {g q : PX} {w : World} (h1 : g.at_ w) (h2 : q.at_ w) : ∀ p ∈ [g, q], p.at_ w := fun p hp => by
 rcases List.mem_cons.1 hp with rfl | hp
 ·exact h1
 ·rw [List.mem_singleton.1 hp]; exact h2
end Go.Proofs.YteeckcbbnegmcaaGreatDoor
/- The walk through the law PolyRing. -/
namespace Go.Proofs.YteeckcbbnegmcaaGreatDoor
open Go.RowKit
theorem wM {P : PX → Prop} {p q : PX} (h1 : P p) (h2 : P q) : ∀ g ∈ [p, q], P g := fun g hg => by
 rcases List.mem_cons.1 hg with rfl | hg
 ·exact h1
 ·rw [List.mem_singleton.1 hg]; exact h2
theorem PX.ja.mono {g : PX} {k j : Nat} (h : g.ja k) (hk : k ≤ j) : g.ja j := ⟨h.n, h.cap, h.ok.mono hk, h.sz⟩
theorem CO {p q : PX} (h : fA [p, q] = 0) : lZ [p, q] = eT p.ts q.ts := by
 unfold lZ;rw [if_pos h]
 rfl
end Go.Proofs.YteeckcbbnegmcaaGreatDoor
/- Polynomials that may be, within bounds: slopes, sums, products. Plain, no program in sight. -/
namespace Go.Proofs.YteeckcbbnegmcaaGreatDoor
open Go.RowKit
theorem xt {v : Int} {x y : TR} (hx : dY v x = true) (hy : dY v y = true) (bx : ∀ c ∈ x.m.data.toList, c.toNat ≤ 60) (by_ : ∀ c ∈ y.m.data.toList, c.toNat ≤ 60) : iD x.m y.m = 0 := by
 unfold dY at hx hy;rw [Bool.and_eq_true, decide_eq_true_eq] at hx hy;unfold iD;rw [nL hx.1 hy.1 (by rw [← ca, ← ca]; omega)];rw [List.all_eq_true];intro z hz;obtain ⟨i, hi⟩ := List.mem_iff_getElem?.1 hz;rw [List.getElem?_zipWith] at hi;unfold ints at hi;rw [List.getElem?_map, List.getElem?_map] at hi
 cases ha : x.m.data.toList[i]? with
 | none => rw [ha] at hi; cases hi
 | some a =>
  cases hb : y.m.data.toList[i]? with
  | none => rw [ha, hb] at hi; cases hi
  | some b =>
   rw [ha, hb] at hi;have e : (a.toNat : Int) + b.toNat = z := Option.some.inj hi;have h1 := bx a (List.mem_of_getElem? ha);have h2 := by_ b (List.mem_of_getElem? hb);simp only [ej, Bool.and_eq_true, decide_eq_true_eq];omega
structure fh (v : Int) (k n D : Nat) (ts : List TR) : Prop where
 e : gJ v ts = 0
 ok : gx k ts
 sz : ∀ t ∈ ts, t.m.size ≤ 100000
 len : ts.length ≤ n
 ex : ∀ t ∈ ts, ∀ c ∈ t.m.data.toList, c.toNat ≤ D
theorem fh.at_ {v : Int} {k n D i : Nat} {ts : List TR} (h : fh v k n D ts) (hi : (i : Int) < v) : ∀ t ∈ ts, ∃ e, t.m.data.toList[i]? = some e := fun t ht => by
 have h1 := (dk h.e).2.2.1 t ht;unfold dY at h1;rw [Bool.and_eq_true, decide_eq_true_eq] at h1;exact aG (by rw [← ca]; omega)
theorem rD {D : Nat} {l : List TR} (h : ∀ t ∈ l, ∀ c ∈ t.m.data.toList, c.toNat ≤ D) : ∀ t ∈ aJ l, ∀ c ∈ t.m.data.toList, c.toNat ≤ D := fun t ht => by
 obtain ⟨s, hs, e⟩ := hZ t ht;rw [← e];exact h s hs
theorem gB {v : Int} {k n D : Nat} {ts : List TR} (i : Nat) (h : fh v k n D ts) (hk : k ≤ 50000) (hn : n ≤ 1000) : fh v (k + 24 + n) n D (aJ (fc i ts)) := by
 obtain ⟨h1, h2, h3⟩ := vM (i := i) h.e h.ok h.sz Dq;obtain ⟨m1, m2, m3⟩ := Ar h1;have hl : (fc i ts).length ≤ n := Nat.le_trans (List.length_filterMap_le _ _) h.len;refine ⟨fK m1 m3 m2, jf h2 Dq Dq, kR h3, Nat.le_trans (eR _) hl, rD fun s hs c hc => ?_⟩;obtain ⟨t, ht, hd⟩ := List.mem_filterMap.1 hs;obtain ⟨e, he, h0, rfl⟩ := mK hd;replace hc : c ∈ (str (t.m.data.toList.set i (e - 1))).data.toList := hc;rw [bC] at hc
 rcases List.mem_or_eq_of_mem_set hc with hc | rfl
 ·exact h.ex t ht c hc
 ·have h1 : (1 : UInt8) ≤ e := by rw [UInt8.le_iff_toNat_le]; show 1 ≤ e.toNat; omega
  rw [UInt8.toNat_sub_of_le _ _ h1];have := h.ex t ht e (List.mem_of_getElem? he);omega
theorem oI {v : Int} {k n m D : Nat} {p q : List TR} (hp : fh v k n D p) (hq : fh v k m D q) (hk : k ≤ 50000) (hn : n + m ≤ 1000) : fh v (k + (n + m)) (n + m) D (aJ (p ++ q)) := by
 obtain ⟨f1, f2, f3, f4⟩ := dk hp.e;obtain ⟨g1, g2, g3, g4⟩ := dk hq.e;have hl : (p ++ q).length ≤ n + m := by rw [List.length_append]; exact Nat.add_le_add hp.len hq.len
 have hm : ∀ {P : TR → Prop}, (∀ t ∈ p, P t) → (∀ t ∈ q, P t) → ∀ t ∈ p ++ q, P t := fun h1 h2 t ht => (List.mem_append.1 ht).elim (h1 t) (h2 t);have hg := eR (p ++ q);exact ⟨fK f1 Dq (hm f3 g3), jf (hm hp.ok hq.ok) Dq Dq, kR (hm hp.sz hq.sz), Dq, rD (hm hp.ex hq.ex)⟩
theorem pd {v : Int} {k j n m D : Nat} {p q : List TR} (hp : fh v k n D p) (hq : fh v j m D q) (hD : D ≤ 60) (hn : n * m ≤ 4096) : eT p q = 0 ∧ ∀ e ∈ nn p q, e = 0 := by
 have hl : p.length * q.length ≤ n * m := Nat.mul_le_mul hp.len hq.len;have he : ∀ e ∈ nn p q, e = 0 := fun e he => by
  obtain ⟨x, hx, he⟩ := List.mem_flatMap.1 he;obtain ⟨y, hy, rfl⟩ := List.mem_map.1 he;exact xt ((dk hp.e).2.2.1 x hx) ((dk hq.e).2.2.1 y hy) (fun c hc => Nat.le_trans (hp.ex x hx c hc) hD) (fun c hc => Nat.le_trans (hq.ex y hy c hc) hD)
 refine ⟨?_, he⟩;rw [tr Dq he];exact pE (by rw [iX]; omega)
theorem ml {v : Int} {k j n m D : Nat} {p q : List TR} (hp : fh v k n D p) (hq : fh v j m D q) (hD : D ≤ 60) (hn : n * m ≤ 1000) (hk : k + j ≤ 50000) : fh v (k + j + n * m) (n * m) (2 * D) (aJ (cd p q)) := by
 obtain ⟨h0, he⟩ := pd hp hq hD Dq;obtain ⟨f1, f2, f3, f4⟩ := dk hp.e;have hl : (cd p q).length ≤ n * m := by rw [iX]; exact Nat.mul_le_mul hp.len hq.len
 have h1 := sW hp.ok hq.ok hq.sz h0 Dq;have hg := eR (cd p q);refine ⟨fK f1 (kW h0).2.2 (qa f3 he), jf (l7 hp.ok hq.ok Dq) Dq Dq, h1.2, Dq, rD fun t ht c hc => ?_⟩;obtain ⟨x, hx, ht⟩ := List.mem_flatMap.1 ht;obtain ⟨y, hy, rfl⟩ := List.mem_map.1 ht;have hz : iD x.m y.m = 0 := he _ (List.mem_flatMap.2 ⟨x, hx, List.mem_map.2 ⟨y, hy, rfl⟩⟩);obtain ⟨i, hi⟩ := List.mem_iff_getElem?.1 hc;have hll := uF hz;replace hi : (mulM x.m y.m).data.toList[i]? = some c := hi;have hil := (List.getElem?_eq_some_iff.1 hi).1;unfold mulM at hil;rw [bC, hll] at hil;obtain ⟨_, _, h3, _, _⟩ := kf hz;obtain ⟨a, ha⟩ := aG (l := x.m.data.toList) (k := i) hil;obtain ⟨b, hb⟩ := aG (l := y.m.data.toList) (k := i) Dq;obtain ⟨e1, e2⟩ := uZ hz ha hb;rw [hi] at e1;rw [Option.some.inj e1, e2];have := hp.ex x hx a (List.mem_of_getElem? ha);have := hq.ex y hy b (List.mem_of_getElem? hb);omega
theorem j5 {g : PX} {k n D : Nat} {v i : Int} (hv : g.v = v) (h : fh v k n D g.ts) (h0 : 0 ≤ i) (h1 : i < v) : iG g i = 0 := by
 unfold iG PX.e;rw [hv, h.e, if_pos rfl, if_neg Dq]
theorem fh.ja {g : PX} {v : Int} {k n D : Nat} {w : World} (h : fh v k n D g.ts) (ha : g.at_ w) (hc : g.n ≤ g.c) (hn : n ≤ 1000) : g.ja k := ⟨by have := ha.ln; have := h.len; omega, hc, h.ok, h.sz⟩
theorem mh {p q : PX} {v : Int} {k j n m D F : Nat} (pv : p.v = v) (qv : q.v = v) (hp : fh v k n D p.ts) (hq : fh v j m F q.ts) (hn : n + m ≤ 1000) : xa [p, q] = 0 ∧ gL [p, q] = v ∧ qm [p, q] = p.ts ++ q.ts := by
 have hl : fA [p, q] = 0 := lB (by unfold PX.e; rw [pv]; exact hp.e) (by unfold PX.e; rw [qv]; exact hq.e) (qv.trans pv.symm);have h1 := hp.len;have h2 := hq.len;refine ⟨?_, pv, yN p q⟩;unfold xa;rw [if_pos hl, yN];exact pE (by rw [List.length_append]; omega)
end Go.Proofs.YteeckcbbnegmcaaGreatDoor
/- The walk through the law CalcSlopes. -/
namespace Go.Proofs.YteeckcbbnegmcaaGreatDoor
open Go.RowKit
theorem mN {p q : PX} {v : Int} {k j n m D : Nat} (pv : p.v = v) (qv : q.v = v) (hp : fh v k n D p.ts) (hq : fh v j m D q.ts) (hD : D ≤ 60) (hn : n * m ≤ 4096) : lZ [p, q] = 0 ∧ gL [p, q] = v ∧ (zO [p, q]).1 = aJ (cd p.ts q.ts) := by
 have hl : fA [p, q] = 0 := lB (by unfold PX.e; rw [pv]; exact hp.e) (by unfold PX.e; rw [qv]; exact hq.e) (qv.trans pv.symm);exact ⟨by rw [CO hl]; exact (pd hp hq hD hn).1, pv, rfl⟩
set_option maxRecDepth 10000 in
theorem mG (p q : PX) (which other : Int) (w : World) (hT : gK w) (hp : p.at_ w) (hpc : p.n ≤ p.c) (hq : q.at_ w) (hqc : q.n ≤ q.c) :
  Calls Tryz.prog 3 #[.agg #[.int .i64 p.v, .slice p.A p.n p.c], .agg #[.int .i64 q.v, .slice q.A q.n q.c], .int .i64 which, .int .i64 other] w fun r w' => r = .returned (.bool true) ∧ Below w.heap.size w w' := by
 have hh := Hp.start w;have haw := fun w1 hT1 => qY w1 hT1;refine aj (N := 199) (l := [.agg #[.int .i64 p.v, .slice p.A p.n p.c], .agg #[.int .i64 q.v, .slice q.A q.n q.c], .int .i64 which, .int .i64 other]) Tryz.func3 rfl rfl (by simp) ?_;refine sr ?_;refine dp hh [_,_] ?_;intro b4 w4 hh;refine dp hh [_,_] ?_;intro b5 w5 hh;refine aB (aa (ah (sr ?_)));refine cU hh 1 [_,_] ?_;refine aK (k9 p.v p.A p.n p.c p.ts _ (hp.ext hh.below)) aq.out rfl Dr ?_;rintro e_ w36 ⟨b, rfl, hb, hb_⟩;refine ⟨_, rfl, ?_⟩;replace hh := hh.ext hb_
 cases b with
 | true =>
  refine mB ?_;first | refine gS ?_ | (refine gT ?_; refine cU hh 0 [_,_] ?_) | refine gV ?_
  refine cb Dr rfl rfl Dr ?_;first | refine cW ?_ | refine cX ?_
  refine aa (cT (sr ?_));refine bB hh (haw _ (hT.hp hh)) rfl ?_;intro w41 hh;refine aB (aa (al (aH ?_)));refine cA ?_;exact ⟨rfl, hh.below⟩
 | false =>
  have sp := hb rfl;clear hb;refine mB ?_;first | refine gS ?_ | (refine gT ?_; refine cU hh 0 [_,_] ?_) | refine gV ?_
  refine br rfl rfl ?_;refine aK (k9 q.v q.A q.n q.c q.ts _ (hq.ext hh.below)) aq.out rfl Dr ?_;rintro e_ w39 ⟨b, rfl, hb, hb_⟩;refine ⟨_, rfl, ?_⟩;replace hh := hh.ext hb_
  cases b with
  | true =>
   first | refine cW ?_ | refine cX ?_
   refine aa (cT (sr ?_));refine bB hh (haw _ (hT.hp hh)) rfl ?_;intro w41 hh;refine aB (aa (al (aH ?_)));refine cA ?_;exact ⟨rfl, hh.below⟩
  | false =>
   have sq := hb rfl;clear hb;have lp := sp.ja hp hpc;have lq := sq.ja hq hqc;have hd1 := fun w1 hT1 ha => dn p which 124 w1 hT1 ha lp Dr;have hd2 := fun w1 hT1 ha => dn q which 124 w1 hT1 ha lq Dr;have hd3 := fun w1 hT1 ha => dn p other 124 w1 hT1 ha lp Dr;have hE0 := fun h => lr (p := p) (i := which) h;have hF0 := fun h => lr (p := q) (i := which) h;have hG0 := fun h => lr (p := p) (i := other) h;generalize iG p which = E at *;generalize iG q which = F at *;generalize iG p other = G at *;have gp : p.e = 0 → fh p.v 124 10 6 p.ts := fun h => ⟨h, lp.ok, lp.sz, sp.n, sp.ex⟩;have gq : q.e = 0 → fh q.v 124 10 6 q.ts := fun h => ⟨h, lq.ok, lq.sz, sq.n, sq.ex⟩;clear sp sq;first | refine cW ?_ | refine cX ?_
   refine aa (cF (ak (ai (sr ?_))));refine cU hh 1 [_,_] (mI ?_);refine aK (hd1 _ (hT.hp hh) (hp.ext hh.below)) aq.out rfl Dr ?_;rintro e_ w45 ⟨a, oa, rfl, h4⟩;refine ⟨_, rfl, ?_⟩;have hac : a.n ≤ a.c := h4.gC (i := 0) rfl;replace hh := hh.join h4;clear h4;simp only [List.cons_append, List.nil_append] at hh;replace hh := show Hp w (.row a.A a.n a.c 96 4 (aQ TR.cells a.ts) :: _) _ from hh;refine mT ?_;refine da ?_;refine da ?_;refine cj hh ?_;intro b9 w9 hh;refine bD hh 0 [_,_] ?_;intro ws hh;replace hh : Hp _ (.blk _ _ [_, _] _ :: _) _ := hh;refine aI (aa (sr ?_));refine cU hh 2 [_,_] (mI ?_);refine aK (hd2 _ (hT.hp hh) (hq.ext hh.below)) aq.out rfl Dr ?_;rintro e_ w51 ⟨b, ob, rfl, h4⟩;refine ⟨_, rfl, ?_⟩;have hbc : b.n ≤ b.c := h4.gC (i := 0) rfl;replace hh := hh.join h4;clear h4;simp only [List.cons_append, List.nil_append] at hh;replace hh := show Hp w (.row b.A b.n b.c 96 4 (aQ TR.cells b.ts) :: _) _ from hh;refine mT ?_;refine da ?_;refine da ?_;refine cj hh ?_;intro b11 w11 hh;refine bD hh 0 [_,_] ?_;intro ws hh;replace hh : Hp _ (.blk _ _ [_, _] _ :: _) _ := hh;refine aI (aa (sr ?_));refine cU hh 5 [_,_] (mI ?_);refine aK (hd3 _ (hT.hp hh) (hp.ext hh.below)) aq.out rfl Dr ?_
   rintro e_ w57 ⟨c, oc, rfl, h4⟩;refine ⟨_, rfl, ?_⟩;have hcc : c.n ≤ c.c := h4.gC (i := 0) rfl;replace hh := hh.join h4;clear h4;simp only [List.cons_append, List.nil_append] at hh;replace hh := show Hp w (.row c.A c.n c.c 96 4 (aQ TR.cells c.ts) :: _) _ from hh;clear hd1 hd2 hd3;refine mT ?_;refine da ?_;refine da ?_;refine cj hh ?_;intro b13 w13 hh;refine bD hh 0 [_,_] ?_;intro ws hh;replace hh : Hp _ (.blk _ _ [_, _] _ :: _) _ := hh;refine aI (aa ?_);refine qb [8, 15, 16, 17, 18, 60, 61, 62, 63, 64, 65, 66, 67, 68, 69, 70, 71, 72, 73, 74, 75, 76, 77, 78, 79, 80, 81, 82, 83, 84, 85, 86, 87, 88, 89]
    (fun w' => Hp w [.blk b11 24 [.int .i64 b.v, .slice b.A b.n b.c] (0, 0), .row b.A b.n b.c 96 4 (aQ TR.cells b.ts), .blk b9 24 [.int .i64 a.v, .slice a.A a.n a.c] (0, 0), .row a.A a.n a.c 96 4 (aQ TR.cells a.ts), .blk b5 24 [.int .i64 q.v, .slice q.A q.n q.c] (0, 0), .blk b4 24 [.int .i64 p.v, .slice p.A p.n p.c] (0, 0)] w') ?_ ?_
   ·by_cases hE : E = 0
    ·subst hE;by_cases hG : G = 0
     ·subst hG;obtain ⟨pe, w0, w1⟩ := hE0 rfl;obtain ⟨_, x0, x1⟩ := hG0 rfl;have g1 := gB which.toNat (gp pe) Dr Dr;have g2 := gB other.toNat (gp pe) Dr Dr;have av := oa.v0;have cv := oc.v0;rw [← oa.t0] at g1;rw [← oc.t0] at g2;have hd4 := fun w1 hT1 ha => dn a other 158 w1 hT1 ha (g1.ja ha hac Dr) Dr;have hd5 := fun w1 hT1 ha => dn c which 158 w1 hT1 ha (g2.ja ha hcc Dr) Dr;rw [j5 av g1 x0 x1] at hd4;rw [j5 cv g2 w0 w1] at hd5;have hxy : a.v = c.v ∧ aJ (fc other.toNat a.ts) = aJ (fc which.toNat c.ts) := ⟨av.trans cv.symm, by rw [oa.t0, oc.t0]; exact ym _ _ _⟩;have n1 := (gB other.toNat g1 Dr Dr).len;have n2 := (gB which.toNat g2 Dr Dr).len;refine sr (mI ?_);refine cu (mB ?_);first | refine gS ?_ | (refine gT ?_; refine mI ?_) | refine gV ?_
      first | refine gS ?_ | (refine gT ?_; refine cu ?_) | refine gV ?_
      first | refine cW ?_ | refine cX ?_
      refine aa (cT (sr ?_));refine cU hh 4 [_,_] (mI ?_);refine aK (hd4 _ (hT.hp hh) (hh.aD (i := 5) rfl)) aq.out rfl Dr ?_;rintro e_ w69 ⟨x, ox, rfl, h4⟩;refine ⟨_, rfl, ?_⟩;replace hh := hh.join h4;clear h4;simp only [List.cons_append, List.nil_append] at hh;replace hh := show Hp w (.row x.A x.n x.c 96 4 (aQ TR.cells x.ts) :: _) _ from hh;have nx := ox.len (hh.aD (i := 0) rfl);refine mT ?_;refine da ?_;refine da ?_;refine cj hh ?_;intro b15 w15 hh;refine bD hh 0 [_,_] ?_;intro ws hh;replace hh : Hp _ (.blk _ _ [_, _] _ :: _) _ := hh;refine aI (aa (sr ?_));refine cU hh 2 [_,_] (mI ?_);refine aK (hd5 _ (hT.hp hh) (hh.aD (i := 3) rfl)) aq.out rfl Dr ?_;rintro e_ w75 ⟨y, oy, rfl, h4⟩;refine ⟨_, rfl, ?_⟩;replace hh := hh.join h4;clear h4;simp only [List.cons_append, List.nil_append] at hh;replace hh := show Hp w (.row y.A y.n y.c 96 4 (aQ TR.cells y.ts) :: _) _ from hh;have ny := oy.len (hh.aD (i := 0) rfl);refine mT ?_;refine da ?_;refine da ?_;refine cj hh ?_;intro b17 w17 hh;refine bD hh 0 [_,_] ?_;intro ws hh;replace hh : Hp _ (.blk _ _ [_, _] _ :: _) _ := hh;refine aI (aa (sr (mI ?_)));refine cz (mB ?_);first | refine gS ?_ | (refine gT ?_; refine mI ?_) | refine gV ?_
      first | refine gS ?_ | (refine gT ?_; refine cz ?_) | refine gV ?_
      first | refine cW ?_ | refine cX ?_
      refine mB ?_;first | refine gS ?_ | (refine gT ?_; refine cU hh 2 [_,_] ?_) | refine gV ?_
      first | refine gS ?_ | (refine gT ?_; refine cU hh 0 [_,_] ?_) | refine gV ?_
      refine br rfl rfl ?_;refine bB hh (jK (g := x) (h := y) _ (hh.aD (i := 3) rfl) (hh.aD (i := 1) rfl) ⟨by rw [ox.v0, oy.v0]; exact hxy.1, by rw [ox.t0, oy.t0]; exact hxy.2⟩ Dq Dq) rfl ?_;intro w87 hh;first | refine gS ?_ | (refine gT ?_; refine gd ?_) | refine gV ?_
      first | refine cW ?_ | refine cX ?_
      refine aa (cF (ak (ai ?_)));replace hh := hh.sub (List.Sublist.cons _ (List.Sublist.cons _ (List.Sublist.cons _ (List.Sublist.cons _ (List.Sublist.cons _ (List.Sublist.cons _ (List.Sublist.cons_cons _ (List.Sublist.cons_cons _ (List.Sublist.cons_cons _ (List.Sublist.cons_cons _ (List.Sublist.cons_cons _ (List.Sublist.cons_cons _ List.Sublist.slnil))))))))))));refine ⟨hh, ?_⟩;exact Dv
     ·refine sr (mI ?_);refine cu (mB ?_);first | refine gS ?_ | (refine gT ?_; refine mI ?_) | refine gV ?_
      first | refine gS ?_ | (refine gT ?_; refine cu ?_) | refine gV ?_
      first | refine cW ?_ | refine cX ?_
      refine aa (cF (ak (ai ?_)));replace hh := hh.sub (List.Sublist.cons _ (List.Sublist.cons _ (List.Sublist.cons_cons _ (List.Sublist.cons_cons _ (List.Sublist.cons_cons _ (List.Sublist.cons_cons _ (List.Sublist.cons_cons _ (List.Sublist.cons_cons _ List.Sublist.slnil))))))));refine ⟨hh, ?_⟩;exact Dv
    ·refine sr (mI ?_);refine cu (mB ?_);first | refine gS ?_ | (refine gT ?_; refine mI ?_) | refine gV ?_
     first | refine gS ?_ | (refine gT ?_; refine cu ?_) | refine gV ?_
     first | refine cW ?_ | refine cX ?_
     refine aa (cF (ak (ai ?_)));replace hh := hh.sub (List.Sublist.cons _ (List.Sublist.cons _ (List.Sublist.cons_cons _ (List.Sublist.cons_cons _ (List.Sublist.cons_cons _ (List.Sublist.cons_cons _ (List.Sublist.cons_cons _ (List.Sublist.cons_cons _ List.Sublist.slnil))))))));refine ⟨hh, ?_⟩;exact Dv
   ·skip;clear hh;rintro ρ' w' hh;by_cases hE : E = 0
    ·subst hE;by_cases hF : F = 0
     ·subst hF;by_cases hv : p.v = q.v
      ·obtain ⟨pe, w0, w1⟩ := hE0 rfl;obtain ⟨qe, _, _⟩ := hF0 rfl;replace gp := gp pe;replace gq := gq qe;rw [← hv] at gq;have ga := gB which.toNat gp Dr Dr;have gb := gB which.toNat gq Dr Dr;rw [← oa.t0] at ga;rw [← ob.t0] at gb;have av := oa.v0;have bv : b.v = p.v := by rw [ob.v0, hv]
       obtain ⟨e1, e2, e3⟩ := mh (p := p) (q := q) rfl hv.symm gp gq Dr;obtain ⟨m1, m2, m3⟩ := mN (p := p) (q := q) rfl hv.symm gp gq Dr Dr;obtain ⟨e4, e5, e6⟩ := mh (p := a) (q := b) av bv ga gb Dr;obtain ⟨m4, m5, m6⟩ := mN (p := a) (q := q) av hv.symm ga gq Dr Dr;obtain ⟨m7, m8, m9⟩ := mN (p := p) (q := b) rfl bv gp gb Dr Dr;have s1 := oI gp gq Dr Dr;have s2 := ml gp gq Dr Dr Dr;have s3 := ml ga gq Dr Dr Dr;have s4 := ml gp gb Dr Dr Dr;have s5 := oI ga gb Dr Dr;have hi : ((which.toNat : Nat) : Int) < p.v := Dq;have law1 := AH which.toNat p.ts q.ts;have law2 := xZ (i := which.toNat) (gp.at_ hi) (gq.at_ hi) (pd gp gq Dr Dr).2;rw [← oa.t0, ← ob.t0] at law1 law2;have hA1 := fun A w1 hT1 hS1 h1 h2 => jc A 2 2 [p, q] 124 w1 hT1 hS1 Dr (md h1 h2) (wM lp lq) Dr;have hM1 := fun A w1 hT1 hS1 h1 h2 => kI A 2 2 [p, q] 124 w1 hT1 hS1 Dr Dr (md h1 h2) (wM lp lq) Dr;have hA2 := fun A w1 hT1 hS1 h1 h2 => jc A 2 2 [a, b] 158 w1 hT1 hS1 Dr (md h1 h2) (wM (ga.ja h1 hac Dr) (gb.ja h2 hbc Dr)) Dr;have hM2 := fun A w1 hT1 hS1 h1 h2 => kI A 2 2 [a, q] 158 w1 hT1 hS1 Dr Dr (md h1 h2) (wM (ga.ja h1 hac Dr) (lq.mono Dr)) Dr
       have hM3 := fun A w1 hT1 hS1 h1 h2 => kI A 2 2 [p, b] 158 w1 hT1 hS1 Dr Dr (md h1 h2) (wM (lp.mono Dr) (gb.ja h2 hbc Dr)) Dr;rw [e1, e2, e3] at hA1;rw [m1, m2, m3] at hM1;rw [e4, e5, e6] at hA2;rw [m4, m5, m6] at hM2;rw [m7, m8, m9] at hM3;clear e1 e2 e3 m1 m2 m3 e4 e5 e6 m4 m5 m6 m7 m8 m9 hE0 hF0 hG0 oc;refine ah (sr (mI ?_));refine cz (mB ?_);first | refine gS ?_ | (refine gT ?_; refine mI ?_) | refine gV ?_
       first | refine gS ?_ | (refine gT ?_; refine cz ?_) | refine gV ?_
       first | refine cW ?_ | refine cX ?_
       refine mB ?_;first | refine gS ?_ | (refine gT ?_; refine bG ?_) | refine gV ?_
       first | refine gS ?_ | (refine gT ?_; refine bI hh 5 ?_) | refine gV ?_
       first | refine gS ?_ | (refine gT ?_; refine bG ?_) | refine gV ?_
       first | refine gS ?_ | (refine gT ?_; refine bI hh 4 ?_) | refine gV ?_
       first | refine gS ?_ | (refine gT ?_; refine cz ?_) | refine gV ?_
       first | refine cW ?_ | refine cX ?_
       refine aa (cF (ak (ai (sr ?_))));refine cU hh 5 [_,_] ?_;refine cU hh 4 [_,_] ?_;refine bf hh (cs := [_, _, _, _]) aF.out aC.out (aY (cK rfl) (aY (cK rfl) bQ)) rfl rfl Dr Dr Dr rfl Dr ?_;intro b107 w107 hh;refine aK (hA1 _ _ (hT.hp hh) (hh.aD (i := 0) rfl) (hp.ext hh.below) (hq.ext hh.below)) aq.out rfl Dr ?_;rintro e_ w108 ⟨s, os, rfl, h4⟩;refine ⟨_, rfl, ?_⟩;have hsc : s.n ≤ s.c := h4.gC (i := 0) rfl;replace hh := hh.join h4;clear h4;simp only [List.cons_append, List.nil_append] at hh;replace hh := show Hp w (.row s.A s.n s.c 96 4 (aQ TR.cells s.ts) :: _) _ from hh;replace hh := hh.sub (List.Sublist.cons_cons _ (List.Sublist.cons _ (List.Sublist.cons_cons _ (List.Sublist.cons_cons _ (List.Sublist.cons_cons _ (List.Sublist.cons_cons _ (List.Sublist.cons_cons _ (List.Sublist.cons_cons _ List.Sublist.slnil))))))));rw [← os.t0] at s1;have sv := os.v0;refine mT ?_;refine da ?_;refine da ?_;refine cj hh ?_;intro b19 w19 hh;refine bD hh 0 [_,_] ?_;intro ws hh;replace hh : Hp _ (.blk _ _ [_, _] _ :: _) _ := hh;refine aI (aa (sr ?_));refine cU hh 7 [_,_] ?_;refine cU hh 6 [_,_] ?_
       refine bf hh (cs := [_, _, _, _]) aF.out aC.out (aY (cK rfl) (aY (cK rfl) bQ)) rfl rfl Dr Dr Dr rfl Dr ?_;intro b114 w114 hh;refine aK (hM1 _ _ (hT.hp hh) (hh.aD (i := 0) rfl) (hp.ext hh.below) (hq.ext hh.below)) aq.out rfl Dr ?_;rintro e_ w115 ⟨t, ot, rfl, h4⟩;refine ⟨_, rfl, ?_⟩;have htc : t.n ≤ t.c := h4.gC (i := 0) rfl;replace hh := hh.join h4;clear h4;simp only [List.cons_append, List.nil_append] at hh;replace hh := show Hp w (.row t.A t.n t.c 96 4 (aQ TR.cells t.ts) :: _) _ from hh;replace hh := hh.sub (List.Sublist.cons_cons _ (List.Sublist.cons _ (List.Sublist.cons_cons _ (List.Sublist.cons_cons _ (List.Sublist.cons_cons _ (List.Sublist.cons_cons _ (List.Sublist.cons_cons _ (List.Sublist.cons_cons _ (List.Sublist.cons_cons _ (List.Sublist.cons_cons _ List.Sublist.slnil))))))))));rw [← ot.t0] at s2;have tv := ot.v0;have hd6 := fun w1 hT1 ha => dn s which 144 w1 hT1 ha (s1.ja ha hsc Dr) Dr;have hd7 := fun w1 hT1 ha => dn t which 348 w1 hT1 ha (s2.ja ha htc Dr) Dr;rw [j5 sv s1 w0 w1] at hd6;rw [j5 tv s2 w0 w1] at hd7;have n6 := (gB which.toNat s1 Dr Dr).len;have n7 := (gB which.toNat s2 Dr Dr).len;refine mT ?_;refine da ?_;refine da ?_;refine cj hh ?_;intro b21 w21 hh
       refine bD hh 0 [_,_] ?_;intro ws hh;replace hh : Hp _ (.blk _ _ [_, _] _ :: _) _ := hh;refine aI (aa (sr ?_));refine cU hh 2 [_,_] (mI ?_);refine aK (hd6 _ (hT.hp hh) (hh.aD (i := 3) rfl)) aq.out rfl Dr ?_;rintro e_ w121 ⟨d, od, rfl, h4⟩;refine ⟨_, rfl, ?_⟩;replace hh := hh.join h4;clear h4;simp only [List.cons_append, List.nil_append] at hh;replace hh := show Hp w (.row d.A d.n d.c 96 4 (aQ TR.cells d.ts) :: _) _ from hh;have nd := od.len (hh.aD (i := 0) rfl);replace hh := hh.sub (List.Sublist.cons_cons _ (List.Sublist.cons_cons _ (List.Sublist.cons_cons _ (List.Sublist.cons _ (List.Sublist.cons _ (List.Sublist.cons_cons _ (List.Sublist.cons_cons _ (List.Sublist.cons_cons _ (List.Sublist.cons_cons _ (List.Sublist.cons_cons _ (List.Sublist.cons_cons _ List.Sublist.slnil)))))))))));refine mT ?_;refine da ?_;refine da ?_;refine cj hh ?_;intro b23 w23 hh;refine bD hh 0 [_,_] ?_;intro ws hh;replace hh : Hp _ (.blk _ _ [_, _] _ :: _) _ := hh;refine aI (aa (sr ?_));refine cU hh 2 [_,_] (mI ?_);refine aK (hd7 _ (hT.hp hh) (hh.aD (i := 3) rfl)) aq.out rfl Dr ?_;rintro e_ w127 ⟨e, oe, rfl, h4⟩;refine ⟨_, rfl, ?_⟩;replace hh := hh.join h4;clear h4
       simp only [List.cons_append, List.nil_append] at hh;replace hh := show Hp w (.row e.A e.n e.c 96 4 (aQ TR.cells e.ts) :: _) _ from hh;have ne := oe.len (hh.aD (i := 0) rfl);replace hh := hh.sub (List.Sublist.cons_cons _ (List.Sublist.cons_cons _ (List.Sublist.cons_cons _ (List.Sublist.cons _ (List.Sublist.cons _ (List.Sublist.cons_cons _ (List.Sublist.cons_cons _ (List.Sublist.cons_cons _ (List.Sublist.cons_cons _ (List.Sublist.cons_cons _ (List.Sublist.cons_cons _ List.Sublist.slnil)))))))))));refine mT ?_;refine da ?_;refine da ?_;refine cj hh ?_;intro b25 w25 hh;refine bD hh 0 [_,_] ?_;intro ws hh;replace hh : Hp _ (.blk _ _ [_, _] _ :: _) _ := hh;refine aI (aa (sr ?_));refine cU hh 6 [_,_] ?_;refine cU hh 4 [_,_] ?_;refine bf hh (cs := [_, _, _, _]) aF.out aC.out (aY (cK rfl) (aY (cK rfl) bQ)) rfl rfl Dr Dr Dr rfl Dr ?_;intro b133 w133 hh;refine aK (hA2 _ _ (hT.hp hh) (hh.aD (i := 0) rfl) (hh.aD (i := 8) rfl) (hh.aD (i := 6) rfl)) aq.out rfl Dr ?_;rintro e_ w134 ⟨u, ou, rfl, h4⟩;refine ⟨_, rfl, ?_⟩;replace hh := hh.join h4;clear h4;simp only [List.cons_append, List.nil_append] at hh;replace hh := show Hp w (.row u.A u.n u.c 96 4 (aQ TR.cells u.ts) :: _) _ from hh
       have nu := ou.len (hh.aD (i := 0) rfl);have nu2 := s5.len;replace hh := hh.sub (List.Sublist.cons_cons _ (List.Sublist.cons _ (List.Sublist.cons_cons _ (List.Sublist.cons_cons _ (List.Sublist.cons_cons _ (List.Sublist.cons_cons _ (List.Sublist.cons_cons _ (List.Sublist.cons_cons _ (List.Sublist.cons_cons _ (List.Sublist.cons_cons _ (List.Sublist.cons_cons _ (List.Sublist.cons_cons _ List.Sublist.slnil))))))))))));refine mT ?_;refine da ?_;refine da ?_;refine cj hh ?_;intro b27 w27 hh;refine bD hh 0 [_,_] ?_;intro ws hh;replace hh : Hp _ (.blk _ _ [_, _] _ :: _) _ := hh;refine aI (aa (sr ?_));refine cU hh 8 [_,_] ?_;refine cU hh 10 [_,_] ?_;refine bf hh (cs := [_, _, _, _]) aF.out aC.out (aY (cK rfl) (aY (cK rfl) bQ)) rfl rfl Dr Dr Dr rfl Dr ?_;intro b140 w140 hh;refine aK (hM2 _ _ (hT.hp hh) (hh.aD (i := 0) rfl) (hh.aD (i := 10) rfl) (hq.ext hh.below)) aq.out rfl Dr ?_;rintro e_ w141 ⟨x, ox, rfl, h4⟩;refine ⟨_, rfl, ?_⟩;have hxc : x.n ≤ x.c := h4.gC (i := 0) rfl;replace hh := hh.join h4;clear h4;simp only [List.cons_append, List.nil_append] at hh;replace hh := show Hp w (.row x.A x.n x.c 96 4 (aQ TR.cells x.ts) :: _) _ from hh
       replace hh := hh.sub (List.Sublist.cons_cons _ (List.Sublist.cons _ (List.Sublist.cons_cons _ (List.Sublist.cons_cons _ (List.Sublist.cons_cons _ (List.Sublist.cons_cons _ (List.Sublist.cons_cons _ (List.Sublist.cons_cons _ (List.Sublist.cons_cons _ (List.Sublist.cons_cons _ (List.Sublist.cons _ (List.Sublist.cons _ (List.Sublist.cons_cons _ (List.Sublist.cons_cons _ List.Sublist.slnil))))))))))))));rw [← ox.t0] at s3 law2;have xv := ox.v0;refine mT ?_;refine da ?_;refine da ?_;refine cj hh ?_;intro b29 w29 hh;refine bD hh 0 [_,_] ?_;intro ws hh;replace hh : Hp _ (.blk _ _ [_, _] _ :: _) _ := hh;refine aI (aa (sr ?_));refine cU hh 11 [_,_] ?_;refine cU hh 8 [_,_] ?_;refine bf hh (cs := [_, _, _, _]) aF.out aC.out (aY (cK rfl) (aY (cK rfl) bQ)) rfl rfl Dr Dr Dr rfl Dr ?_;intro b147 w147 hh;refine aK (hM3 _ _ (hT.hp hh) (hh.aD (i := 0) rfl) (hp.ext hh.below) (hh.aD (i := 10) rfl)) aq.out rfl Dr ?_;rintro e_ w148 ⟨y, oy, rfl, h4⟩;refine ⟨_, rfl, ?_⟩;have hyc : y.n ≤ y.c := h4.gC (i := 0) rfl;replace hh := hh.join h4;clear h4;simp only [List.cons_append, List.nil_append] at hh;replace hh := show Hp w (.row y.A y.n y.c 96 4 (aQ TR.cells y.ts) :: _) _ from hh
       replace hh := hh.sub (List.Sublist.cons_cons _ (List.Sublist.cons _ (List.Sublist.cons_cons _ (List.Sublist.cons_cons _ (List.Sublist.cons_cons _ (List.Sublist.cons_cons _ (List.Sublist.cons_cons _ (List.Sublist.cons_cons _ (List.Sublist.cons_cons _ (List.Sublist.cons_cons _ (List.Sublist.cons _ (List.Sublist.cons _ (List.Sublist.cons _ (List.Sublist.cons _ List.Sublist.slnil))))))))))))));rw [← oy.t0] at s4 law2;have yv := oy.v0;obtain ⟨e1, e2, e3⟩ := mh (p := x) (q := y) xv yv s3 s4 Dr;have s6 := oI (k := 382) ⟨s3.e, s3.ok, s3.sz, s3.len, s3.ex⟩ ⟨s4.e, s4.ok, s4.sz, s4.len, s4.ex⟩ Dr Dr;have hA3 := fun A w1 hT1 hS1 h1 h2 => jc A 2 2 [x, y] 382 w1 hT1 hS1 Dr (md h1 h2) (wM (s3.ja h1 hxc Dr) (s4.ja h2 hyc Dr)) Dr;rw [e1, e2, e3] at hA3;clear e1 e2 e3;refine mT ?_;refine da ?_;refine da ?_;refine cj hh ?_;intro b31 w31 hh;refine bD hh 0 [_,_] ?_;intro ws hh;replace hh : Hp _ (.blk _ _ [_, _] _ :: _) _ := hh;refine aI (aa (sr ?_));refine cU hh 2 [_,_] ?_;refine cU hh 0 [_,_] ?_;refine bf hh (cs := [_, _, _, _]) aF.out aC.out (aY (cK rfl) (aY (cK rfl) bQ)) rfl rfl Dr Dr Dr rfl Dr ?_;intro b154 w154 hh
       refine aK (hA3 _ _ (hT.hp hh) (hh.aD (i := 0) rfl) (hh.aD (i := 4) rfl) (hh.aD (i := 2) rfl)) aq.out rfl Dr ?_;rintro e_ w155 ⟨z, oz, rfl, h4⟩;refine ⟨_, rfl, ?_⟩;replace hh := hh.join h4;clear h4;simp only [List.cons_append, List.nil_append] at hh;replace hh := show Hp w (.row z.A z.n z.c 96 4 (aQ TR.cells z.ts) :: _) _ from hh;have nz := oz.len (hh.aD (i := 0) rfl);have nz2 := s6.len;replace hh := hh.sub (List.Sublist.cons_cons _ (List.Sublist.cons _ (List.Sublist.cons _ (List.Sublist.cons _ (List.Sublist.cons _ (List.Sublist.cons _ (List.Sublist.cons_cons _ (List.Sublist.cons_cons _ (List.Sublist.cons_cons _ (List.Sublist.cons_cons _ (List.Sublist.cons_cons _ (List.Sublist.cons_cons _ List.Sublist.slnil))))))))))));have q1 : d.v = u.v ∧ d.ts = u.ts := ⟨by rw [od.v0, ou.v0, sv], by rw [od.t0, ou.t0, os.t0]; exact law1⟩;have q2 : e.v = z.v ∧ e.ts = z.ts := ⟨by rw [oe.v0, oz.v0, tv], by rw [oe.t0, oz.t0, ot.t0]; exact law2⟩;refine mT ?_;refine da ?_;refine da ?_;refine cj hh ?_;intro b33 w33 hh;refine bD hh 0 [_,_] ?_;intro ws hh;replace hh : Hp _ (.blk _ _ [_, _] _ :: _) _ := hh;refine aI (aa (ah (sr (mI ?_))));refine cz (mB ?_)
       first | refine gS ?_ | (refine gT ?_; refine mI ?_) | refine gV ?_
       first | refine gS ?_ | (refine gT ?_; refine cz ?_) | refine gV ?_
       first | refine cW ?_ | refine cX ?_
       refine mB ?_;first | refine gS ?_ | (refine gT ?_; refine mI ?_) | refine gV ?_
       first | refine gS ?_ | (refine gT ?_; refine cz ?_) | refine gV ?_
       first | refine cW ?_ | refine cX ?_
       refine mB ?_;first | refine gS ?_ | (refine gT ?_; refine mI ?_) | refine gV ?_
       first | refine gS ?_ | (refine gT ?_; refine cz ?_) | refine gV ?_
       first | refine cW ?_ | refine cX ?_
       refine mB ?_;first | refine gS ?_ | (refine gT ?_; refine mI ?_) | refine gV ?_
       first | refine gS ?_ | (refine gT ?_; refine cz ?_) | refine gV ?_
       first | refine cW ?_ | refine cX ?_
       refine mB ?_;first | refine gS ?_ | (refine gT ?_; refine mI ?_) | refine gV ?_
       first | refine gS ?_ | (refine gT ?_; refine cz ?_) | refine gV ?_
       first | refine cW ?_ | refine cX ?_
       refine mB ?_;first | refine gS ?_ | (refine gT ?_; refine mI ?_) | refine gV ?_
       first | refine gS ?_ | (refine gT ?_; refine cz ?_) | refine gV ?_
       first | refine cW ?_ | refine cX ?_
       refine mB ?_;first | refine gS ?_ | (refine gT ?_; refine mI ?_) | refine gV ?_
       first | refine gS ?_ | (refine gT ?_; refine cz ?_) | refine gV ?_
       first | refine cW ?_ | refine cX ?_
       refine aa (cF (ak (ai (sr ?_))));refine cU hh 6 [_,_] ?_;refine cU hh 2 [_,_] ?_;refine bB hh (jK (g := d) (h := u) _ (hh.aD (i := 7) rfl) (hh.aD (i := 3) rfl) q1 Dq Dq) rfl ?_;intro w190 hh;refine mB ?_;first | refine gS ?_ | (refine gT ?_; refine cU hh 4 [_,_] ?_) | refine gV ?_
       first | refine gS ?_ | (refine gT ?_; refine cU hh 0 [_,_] ?_) | refine gV ?_
       refine br rfl rfl ?_;refine bB hh (jK (g := e) (h := z) _ (hh.aD (i := 5) rfl) (hh.aD (i := 1) rfl) q2 Dq Dq) rfl ?_;intro w194 hh;first | refine cW ?_ | refine cX ?_
       refine mB ?_;refine br rfl rfl ?_;refine bB hh (haw _ (hT.hp hh)) rfl ?_;intro w197 hh;first | refine cW ?_ | refine cX ?_
       refine aB (aa (al ?_));refine cA ?_;exact ⟨rfl, hh.below⟩
      ·refine ah (sr (mI ?_));refine cz (mB ?_);first | refine gS ?_ | (refine gT ?_; refine mI ?_) | refine gV ?_
       first | refine gS ?_ | (refine gT ?_; refine cz ?_) | refine gV ?_
       first | refine cW ?_ | refine cX ?_
       refine mB ?_;first | refine gS ?_ | (refine gT ?_; refine bG ?_) | refine gV ?_
       first | refine gS ?_ | (refine gT ?_; refine bI hh 5 ?_) | refine gV ?_
       first | refine gS ?_ | (refine gT ?_; refine bG ?_) | refine gV ?_
       first | refine gS ?_ | (refine gT ?_; refine bI hh 4 ?_) | refine gV ?_
       first | refine gS ?_ | (refine gT ?_; refine cz ?_) | refine gV ?_
       first | refine cW ?_ | refine cX ?_
       refine aa (cT (sr ?_));refine bB hh (haw _ (hT.hp hh)) rfl ?_;intro w103 hh;refine aB (aa (al (aH ?_)));refine cA ?_;exact ⟨rfl, hh.below⟩
     ·refine ah (sr (mI ?_));refine cz (mB ?_);first | refine gS ?_ | (refine gT ?_; refine mI ?_) | refine gV ?_
      first | refine gS ?_ | (refine gT ?_; refine cz ?_) | refine gV ?_
      first | refine cW ?_ | refine cX ?_
      refine mB ?_;first | refine gS ?_ | (refine gT ?_; refine bG ?_) | refine gV ?_
      first | refine gS ?_ | (refine gT ?_; refine bI hh 5 ?_) | refine gV ?_
      first | refine gS ?_ | (refine gT ?_; refine bG ?_) | refine gV ?_
      first | refine gS ?_ | (refine gT ?_; refine bI hh 4 ?_) | refine gV ?_
      first | refine gS ?_ | (refine gT ?_; refine cz ?_) | refine gV ?_
      first | refine cW ?_ | refine cX ?_
      refine aa (cT (sr ?_));refine bB hh (haw _ (hT.hp hh)) rfl ?_;intro w103 hh;refine aB (aa (al (aH ?_)));refine cA ?_;exact ⟨rfl, hh.below⟩
    ·refine ah (sr (mI ?_));refine cz (mB ?_);first | refine gS ?_ | (refine gT ?_; refine mI ?_) | refine gV ?_
     first | refine gS ?_ | (refine gT ?_; refine cz ?_) | refine gV ?_
     first | refine cW ?_ | refine cX ?_
     refine mB ?_;first | refine gS ?_ | (refine gT ?_; refine bG ?_) | refine gV ?_
     first | refine gS ?_ | (refine gT ?_; refine bI hh 5 ?_) | refine gV ?_
     first | refine gS ?_ | (refine gT ?_; refine bG ?_) | refine gV ?_
     first | refine gS ?_ | (refine gT ?_; refine bI hh 4 ?_) | refine gV ?_
     first | refine gS ?_ | (refine gT ?_; refine cz ?_) | refine gV ?_
     first | refine cW ?_ | refine cX ?_
     refine aa (cT (sr ?_));refine bB hh (haw _ (hT.hp hh)) rfl ?_;intro w103 hh;refine aB (aa (al (aH ?_)));refine cA ?_;exact ⟨rfl, hh.below⟩
end Go.Proofs.YteeckcbbnegmcaaGreatDoor
/- The row and the card of CalcSlopes. -/
namespace Go.Proofs.YteeckcbbnegmcaaGreatDoor.calcSlopes
open Go.ChangeShapes Go.WideShapes Go.ChangeAt Go.RowKit Go.ChangeMaps
theorem own : ownKnob Tryz.prog.godebug = none := by kernel_rfl
set_option maxRecDepth 100000 in
theorem lifted (os : Os) (started : os.Started) (H : Type) (enc : TypeId × Value → H) :
  ReturnsInHanded {} Tryz.checked os 3 .any (fun w args => (Rows.calcSlopesSpec.pre enc Tryz.prog Tryz.f3 Rows.calcSlopesRow.domain false w args ∧ laidMetH Tryz.prog Rows.calcSlopesRow.laid w) ∧ sizedMet enc Tryz.prog Tryz.f3 (OpenSpec.ofChange Rows.calcSlopesSpec) false w args)
   (Rows.calcSlopesSpec.post enc Tryz.prog Tryz.f3 false true false false) := by
 refine returnsInHanded_of_change_and (C := Tryz.checked) (X := fun w _ => laidMetH Tryz.prog Rows.calcSlopesRow.laid w) (fun _ _ _ hh h => h.of_heap hh) own started Dt Tryz.func3
  (ChangeSpec.witness_shaped (enc := enc) (C := Tryz.checked) (os := os) (X := fun w _ => laidMetH Tryz.prog Rows.calcSlopesRow.laid w) false (World.laidAll Tryz.prog os Rows.calcSlopesRow.laid) #[.agg #[.int .i64 0, .slice none 0 0], .agg #[.int .i64 0, .slice none 0 0], .int .i64 0, .int .i64 0] 8 (World.laidAll_os _ _ _)
   (World.shaped_of_ZipB Dt Dt) Dt Dt Dt
   (by rw [MakeChecks.laidMetH_plain _ _ _ Dt]; exact laidMet_laidAll _ Dt Dt)) ?_
 intro W base args ds gs before hval0 hW hc _ hL _;have hval : ∀ (j : Nat) t v, Tryz.f3.params[j]? = some t → args[j]? = some v → Value.okWide Tryz.prog W .any base t v := hval0;have hW' := hW;obtain ⟨p, q, hA0, hV, rfl, hfz, hnd⟩ := hW;have hA : DataW.TrodAll enc Tryz.prog W 0 (fun _ => true) true Tryz.f3.params.toList args.toList ds p := hA0;rw [Tryz.params3] at hA hval;obtain ⟨v0, vs0, d0, ds0, p0, q0, hargs, rfl, rfl, h0, r0⟩ := trodAll_cons hA;obtain ⟨v1, vs1, d1, ds1, p1, q1, rfl, rfl, rfl, h1, r1⟩ := trodAll_cons r0;obtain ⟨v2, vs2, d2, ds2, p2, q2, rfl, rfl, rfl, h2, r2⟩ := trodAll_cons r1;obtain ⟨v3, vs3, d3, ds3, p3, q3, rfl, rfl, rfl, h3, r3⟩ := trodAll_cons r2;obtain ⟨rfl, rfl, rfl⟩ := trodAll_nil r3;obtain rfl : args = #[v0, v1, v2, v3] := by cases args; simp_all
 obtain ⟨rfl, rfl⟩ := trodVars_none hV;obtain ⟨f0, rfl, hS0, hR0⟩ := qo (hval 0 24 v0 rfl rfl) h0;obtain ⟨f1, rfl, hS1, hR1⟩ := qo (hval 1 24 v1 rfl rfl) h1;obtain ⟨x2, rfl, rfl, rfl, b2⟩ := open_int Tryz.underlying3 (hval 2 3 v2 rfl rfl) h2;obtain ⟨x3, rfl, rfl, rfl, b3⟩ := open_int Tryz.underlying3 (hval 3 3 v3 rfl rfl) h3;refine (mG f0 f1 x2 x3 W (sk hL) hS0 hR0 hS1 hR1).mono fun e W' ⟨he, hb⟩ => ?_;subst he;exact ⟨_, rfl, yq hW' rfl Dt (by rw [Tryz.params3]; exact of_decide_eq_true Dt) Dt Tryz.underlying4 rfl rfl rfl hb⟩
set_option maxHeartbeats 8000000 in
theorem row_holds : Rows.CalcSlopesSaid :=
 OpenClaim.holds_of_wide 3 Tryz.f3 rfl rfl rfl rfl rfl rfl rfl ⟨rfl, rfl, rfl, rfl, rfl⟩ rfl rfl rfl rfl rfl (by as_aux_lemma => kernel_rfl) Tryz.func3 (by rw [joinedFacts]; simp only [Bool.and_eq_true]; and_intros <;> as_aux_lemma => kernel_rfl)
  (of_decide_eq_true (by as_aux_lemma => kernel_rfl)) (by unfold Func.isWrapper; first | (rw [if_pos (by decide +kernel)]; kernel_rfl) | (rw [if_neg (by decide +kernel)]; exact ⟨rfl, rfl⟩))
  (fun os started H enc _ => lifted os started H enc)
set_option maxHeartbeats 8000000 in
theorem holds : Rows.CalcSlopesCardSaid :=
 Claim7.holds_tied_plain_at .later [] [.data, .data, .pinned] true (true, "2e00f90462f683c83fa0963bfbbf790e29f51abb4608f860dd030f3668376368") false row_holds (fun _ h => by cases h) (by as_aux_lemma => kernel_rfl) (fun _ h => by cases h) calcSlopes_row_tie rfl ⟨rfl, rfl⟩ (by as_aux_lemma => kernel_rfl) rfl
  (fun f fn hf hfn => by
   obtain rfl : f = 3 := Option.some.inj ((show Tryz.prog.funcNamed "ogee/ogeelaw09.CalcSlopes" = some 3 by as_aux_lemma => kernel_rfl).symm.trans hf) |>.symm;obtain rfl : fn = Tryz.f3 := (Option.some.inj (Tryz.func3.symm.trans hfn)).symm;exact ⟨by as_aux_lemma => kernel_rfl, fun j t ht => by
    rw [Tryz.params3] at ht;have hm : t ∈ [24, 24, 3, 3] := by simpa using Array.mem_of_getElem? ht
    have hall : ([24, 24, 3, 3].all fun u => !Tryz.prog.wantsStandIn u) = true := by as_aux_lemma => kernel_rfl
    exact (show Tryz.prog.wantsStandIn t = false by simpa using List.all_eq_true.1 hall t hm)⟩)
  (by as_aux_lemma => kernel_rfl)
#print axioms holds
end Go.Proofs.YteeckcbbnegmcaaGreatDoor.calcSlopes
