/- The row and the card of BernSlopes. -/
import Derived.Test.YteeckcbbnegmcaaGreatDoorCards
import Derived.Test.YteeckcbbnegmcaaGreatDoorTie
import Derived.SevenTiedAt
import Derived.Test.YteeckcbbnegmcaaGreatDoorZ6
namespace Go.Proofs.YteeckcbbnegmcaaGreatDoor
open Go.RowKit
instance : aM Tryz.prog 148 1 false 8 [.nilFunc] := {}
theorem Ba (fx : FX) (L : Option Addr) (m2 c2 : Nat) (tn : List NR) (k q G : Nat) (w : World) (hT : eb w) (hf : fx.at_ w) (hl : fx.kO k) (hcap : fx.m ≤ fx.b) (hS : Sl w L m2 3 (az NR.cells tn)) (hv : ∀ s ∈ tn, N5 q s s.d ∧ Sz q (1 - s.d)) (hq : q ≤ 2000)
  (hG : fx.e = 0 → ∀ d ∈ fx.ns, 2 + 2 * (q * d) + (d + 1) ≤ G) (hk : k + fx.n * G ≤ 500000) :
  Calls Tryz.prog 39 #[.agg #[.slice fx.A fx.n fx.a, .slice fx.B fx.m fx.b], .slice L m2 c2] w fun r w' => r = .returned (.tuple #[.agg #[.bool (nR (MO fx tn)).neg, .string (nR (MO fx tn)).bA, .int .i64 (nR (MO fx tn)).e], .int .i64 (Jt fx m2)]) ∧ Below w.heap.size w w' := by
 have hh := Hp.start w;have hck := fun w1 hT1 hb => yZ fx k w1 hT1 (hf.ext hb) hl;have hlt := hS.bq NR.len UA;have hev0 : Jt fx m2 ≠ 0 → MO fx tn = 0 := fun h => by unfold MO; rw [hlt, UE h]
 by_cases h0 : fx.e = 0
 ·by_cases h1 : m2 = fx.n
  ·have hE : Jt fx m2 = 0 := by unfold Jt; rw [UE Uz, UE Uz]
   have hV : MO fx tn = gB fx.ns.reverse (fx.cs.map NR.d) (tn.map NR.d).reverse := by unfold MO; rw [hlt, hE, UF rfl]
   rw [hE, hV];obtain ⟨hdeg, hnum, h12, hlow, hcnt, hmax⟩ := FX.fv h0;have hln : fx.ds.length = fx.n := hf.ln.1;have hlm := hf.ln.2;have hnl : fx.ns.length = fx.n := by unfold FX.ns; rw [US]; exact hln
   have hm : fx.m = au fx.ns := by rw [← hlm, hcnt]
   have hdg : Sl w fx.A fx.n 1 (bL (bI fx.ns)) := by rw [← hdeg]; exact hf.dg
   have hxz : ∀ x ∈ fx.cs.map NR.d, Sz k x := fun x h => by
    obtain ⟨c, hc, rfl⟩ := UY.1 h;exact (hl.num c hc).2
   have hxl : (fx.cs.map NR.d).length = au fx.ns := by rw [US, hcnt]
   have hval := wX fx.ns.reverse (tn.map NR.d).reverse (fx.cs.map NR.d) (by rw [Vn, Vn, US]; omega) (by rw [hxl, cx]);have hnm : Sl w fx.B (au fx.ns) 3 (az NR.cells ((fx.cs.map NR.d).map nR)) := by rw [← hm, ← hnum]; exact hf.nm
   have hG := hG h0;rw [hm] at hcap;refine Jl ?_;refine jJ fun D_ => ?_;refine ao ?_;refine cz hh [_,_] ?_;intro b2 w2 hh;refine bW hh ?_;intro b4 w4 hh;refine aI (aa ?_);refine jJ fun D_ => ?_;refine sr ?_;refine cE hh 1 [_,_] ?_;refine eA ?_;intro w13 hh;refine aI (aa (sr (mI ?_)));refine dk (aa (cF (ar (ai ?_))));refine jJ fun D_ => ?_;refine sr (mL (aJ (bH ?_)));refine bG hh 1 ?_;refine aJ ?_;refine dk (aa (cF (ar (ai ?_))));refine jJ fun D_ => ?_;refine ao (bH ?_);refine bG hh 1 ?_;refine aL (aa ?_);refine xW ?_;refine jJ fun D_ => ?_;refine ao (mL (aJ ?_));refine dW (aI (aa ?_));rw [hm];have hst : ∀ (H : List HE) (w1 : World), Hp w (H ++ []) w1 → Sl w1 fx.B (au fx.ns) 3 (az NR.cells ((fx.cs.map NR.d).map nR)) := fun H w1 h => hnm.ext h.below;generalize fx.cs.map NR.d = xs at *;refine uT (I8 [7, 8, 9, 10, 11, 30, 31, 32, 33, 34, 35, 36, 37, 38, 39, 40, 41, 42, 43, 44, 45, 46, 47, 48, 49, 50, 51, 52, 53, 54] 7 8
    (fun M v7 v8 w' => ∃ (j : Nat) (z : Int) (X : List Dyadic) (A : Option Addr) (a : Nat) (R : List HE), j ≤ fx.n ∧ v8 = .int .i64 z ∧ z = (j : Int) - 1 ∧ v7 = .slice A (au (fx.ns.take j)) a ∧ au (fx.ns.take j) ≤ a ∧ X.length = au (fx.ns.take j) ∧ (∀ x ∈ X, Sz (k + (fx.n - j) * G) x) ∧ od (fx.ns.take j).reverse ((tn.map NR.d).take j).reverse X = od fx.ns.reverse (tn.map NR.d).reverse xs ∧ (∀ x ∈ R, x.QX = true) ∧ (∀ (H : List HE) (w1 : World), Hp w (H ++ R) w1 → Sl w1 A (au (fx.ns.take j)) 3 (az NR.cells (X.map nR))) ∧ Hp w (.blk b4 65 [.bool false, .string (ByteArray.mk #[]), .int .i64 0] (0, 0) :: .blk b2 39 [.slice fx.A fx.n fx.a, .slice fx.B fx.m fx.b] (0, 0) :: (R ++ p9 M)) w')
    (fun _ v _ => (intOf v + 1).toNat) ?_ ?_)
   ·refine ⟨fx.n, _, xs, _, _, [], UH _, rfl, Uz, by rw [UQ Uz]; rfl, by rw [UQ Uz]; exact hcap, by rw [UQ Uz]; exact hxl, fun x h => (hxz x h).mono Uz, by rw [UQ Uz, UQ (by rw [US]; omega)], fun x h => (by cases h), by rw [UQ Uz]; exact hst, hh⟩
   ·clear hh hst;rintro M ρ' v7 v8 w' ⟨j, z, X, A, a, R, hj, rfl, hz, rfl, hca, hXl, hXz, hXe, hcR, hrd, hh⟩;by_cases hj0 : j = 0
    ·subst hj0;obtain rfl : z = -1 := Uz;have hX : X = [gB fx.ns.reverse xs (tn.map NR.d).reverse] := by
      rw [← hval, ← hXe];simp [od]
     subst hX;have hh1 : Hp w ([_, _] ++ R) w' := hh.sub (.cons_cons _ (.cons_cons _ (Xa R _)));have hsl := hrd _ _ hh1;rw [WY] at hsl;obtain ⟨ac, rfl, sc⟩ := hsl.at_ (show 0 < au [] by decide);have hx0 : ([gB fx.ns.reverse xs (tn.map NR.d).reverse].map nR)[0]? = some (nR (gB fx.ns.reverse xs (tn.map NR.d).reverse)) := rfl;generalize gB fx.ns.reverse xs (tn.map NR.d).reverse = V at *;rw [WY];refine jJ fun D_ => ?_;refine sr (mI ?_);refine dL (aa (cF (a9 (aE ?_))));refine K7 ?_;refine jJ fun D_ => ?_;refine ao (mL ?_);refine df (k := 0) bk.out aM.size rfl rfl Uz (show 0 < au [] by decide) UA ?_;refine cw (vs := [_, _, _]) aM.out rfl (sc.recAt NR.len hx0) rfl UA ?_;refine bX hh 0 [_,_,_] ?_;intro ws hh;replace hh : Hp _ (.blk _ _ [_, _, _] _ :: _) _ := hh;refine aI (aa ?_);refine D5 fun D_ => ?_;refine av ?_;refine qV (M := M) (vs := [.agg #[.bool (nR V).neg, .string (nR V).bA, .int .i64 (nR V).e], .int .i64 0]) (hh.perm (List.perm_append_comm (l₁ := _ :: _ :: R))) (.inr rfl) rfl ?_;exact P9
    ·obtain ⟨i, rfl⟩ : ∃ i, j = i + 1 := ⟨j - 1, Uz⟩;obtain rfl : z = (i : Int) := Uz;obtain ⟨tq, htq⟩ := ak (l := tn) (k := i) Uz;obtain ⟨vt, ht1⟩ := hv tq (UJ htq);obtain ⟨d, hd⟩ := ak (l := fx.ns) (k := i) Uz;have hmd := UJ hd;have hdl := hlow d hmd;have hGd := hG d hmd;have hgd := cu (jk hd);obtain ⟨adL, rfl, sL⟩ := hS.at_ Uz;obtain ⟨adD, hAD, sD⟩ := hdg.at_ Uz;have gO : Value.slice fx.A fx.n fx.a = .slice (some adD) fx.n fx.a := by rw [hAD]
     have hh1 : Hp w ([_, _] ++ R) w' := hh.sub (.cons_cons _ (.cons_cons _ (Xa R _)));obtain ⟨ac, rfl, -⟩ := (hrd _ _ hh1).at_ (cM _);clear hh1;have hcs : au (fx.ns.take (i + 1)) = au (fx.ns.take i) * (d + 1) := by rw [ay hd, du]; simp [au]
     have hct := jn fx.ns (i + 1);have hcp := cM (fx.ns.take i);have hc4 := jn fx.ns i;have hd1c : d + 1 ≤ au (fx.ns.take (i + 1)) := by rw [hcs]; exact Nat.le_mul_of_pos_left _ hcp
     have hKG : k + (fx.n - (i + 1)) * G + G = k + (fx.n - i) * G := by
      rw [show fx.n - i = fx.n - (i + 1) + 1 by omega, WJ, Wr];omega
     have hKle : k + (fx.n - (i + 1)) * G ≤ 500000 := by
      have := VG G (show fx.n - (i + 1) ≤ fx.n by omega);omega
     have eD : (d : Int) + 1 = ((d + 1 : Nat) : Int) := Uz;refine jJ fun D_ => ?_;refine sr (mI ?_);refine dL (aa (cT (ar (ai ?_))));refine xW (uT ?_);refine jJ fun D_ => ?_;refine ao (mL (mI ?_));refine ct ?_;refine cw (vs := [_, _, _]) aM.out rfl ((sL.ext hh.below).recAt NR.len htq) rfl UA ?_;refine aF (yo tq tq.d q _ (hT.hp hh) vt hq) al.out rfl UA ?_;rintro e_ w38 ⟨b1, b3, rfl, h2⟩;refine ⟨_, rfl, ?_⟩;replace hh := hh.join h2;simp only [UP, UN] at hh;clear h2;refine bW hh ?_;intro b9 w9 hh;refine bX hh 0 [_] ?_;intro ws hh;replace hh : Hp _ (.blk _ _ [_] _ :: _) _ := hh;refine aa ?_;refine jJ fun D_ => ?_;refine ao ?_;refine bW hh ?_;intro b10 w10 hh;refine aa ?_;refine xW ?_;refine jJ fun D_ => ?_;refine ao (mL (bH ?_));refine bG hh 5 ?_;refine mI ?_;refine df (k := i) bk.out aM.size gO rfl Uz Uz UA ?_;refine bV aM.out rfl ((sD.ext hh.below).ya hgd) UA ?_;refine bo ?_;rw [eD];refine aF (Bp (some ac) (au (fx.ns.take (i + 1))) a (d + 1) _ Uz) al.out rfl UA ?_;rintro e_ w46 ⟨c2, c1, rfl, h2⟩;refine ⟨_, rfl, ?_⟩;replace hh := hh.join h2;simp only [UP, UN] at hh;clear h2;replace hh := hh.perm (VH (l₁ := [_, _]))
     simp only [UP, UN] at hh;replace hh := hh.cY 65 3;refine aa ?_;have hmk := hh.Qq (M := M) (by repeat (first | exact XU _ _ | apply UL));have hmlt := hmk.lt;replace hh := hh.sub (H' := _ :: _ :: _ :: _ :: _ :: _ :: _ :: _ :: _ :: R) (by repeat (first | exact Xa _ _ | apply UG));have hc2 := hh.dN (i := 3) (o := 0) rfl rfl;have hc1 := hh.dN (i := 2) (o := 0) rfl rfl;have hseq := GB c2 c1 ac (au (fx.ns.take (i + 1))) a (d + 1) (au (fx.ns.take i)) _ hc2 hc1 hcs Uz hca Uz Uz
     have hcel : ∀ (A1 : Option Addr) (n1 k1 : Nat) (cs vs : List Value), ∀ x ∈ (HE.row A1 n1 k1 65 3 cs :: .blk b10 37 vs (0, 0) :: .blk c1 3 [.int .i64 ((d + 1 : Nat) : Int)] (0, 0) :: .blk c2 37 [.slice (some ac) (au (fx.ns.take (i + 1))) a] (0, 0) :: .blk b9 148 [.func (.func 191) #[] #[.pointer (some ⟨b1, 0, none⟩), .pointer (some ⟨b3, 0, none⟩)]] (0, 0) :: .blk b3 65 [.bool (nR (1 - tq.d)).neg, .string (nR (1 - tq.d)).bA, .int .i64 (nR (1 - tq.d)).e] (0, 0) :: .blk b1 65 [.bool tq.neg, .string tq.bA, .int .i64 tq.e] (0, 0) :: .blk b4 65 [.bool false, .string (ByteArray.mk #[]), .int .i64 0] (0, 0) :: .blk b2 39 [.slice fx.A fx.n fx.a, .slice fx.B fx.m fx.b] (0, 0) :: R), x.QX = true := fun A1 n1 k1 cs vs x hx => by
      simp only [UZ] at hx
      rcases hx with rfl | rfl | rfl | rfl | rfl | rfl | rfl | rfl | rfl | hx
      all_goals first | rfl | exact hcR x hx
     trace_state
     refine uT (FK (α := Fin (au (fx.ns.take i))) (enc := fun jj : Fin (au (fx.ns.take i)) => .slice (some (ac.add (jj.val * (d + 1) * 3))) (d + 1) (d + 1)) 11 UA UA rfl (enters_of Tryz.func192 UB rfl) hseq L0 (fun W l o o' h _ _ _ => LW (lQ hc2) (lQ hc1) W l o o' h)
      (fun bs W => ∃ (Y : List Dyadic) (A1 : Option Addr) (k1 : Nat), Y.length = bs.length ∧ (∀ y ∈ Y, Sz (k + (fx.n - i) * G) y) ∧ (bs = (List.finRange (au (fx.ns.take i))).take bs.length → Y = (lj d tq.d (au (fx.ns.take i)) X).take bs.length) ∧ Marks w M W ∧ Hp w (.row A1 bs.length k1 65 3 (az NR.cells (Y.map nR)) :: .blk b10 37 [.slice A1 bs.length k1] (0, 0) :: .blk c1 3 [.int .i64 ((d + 1 : Nat) : Int)] (0, 0) :: .blk c2 37 [.slice (some ac) (au (fx.ns.take (i + 1))) a] (0, 0) :: .blk b9 148 [.func (.func 191) #[] #[.pointer (some ⟨b1, 0, none⟩), .pointer (some ⟨b3, 0, none⟩)]] (0, 0) :: .blk b3 65 [.bool (nR (1 - tq.d)).neg, .string (nR (1 - tq.d)).bA, .int .i64 (nR (1 - tq.d)).e] (0, 0) :: .blk b1 65 [.bool tq.neg, .string tq.bA, .int .i64 tq.e] (0, 0) :: .blk b4 65 [.bool false, .string (ByteArray.mk #[]), .int .i64 0] (0, 0) :: .blk b2 39 [.slice fx.A fx.n fx.a, .slice fx.B fx.m fx.b] (0, 0) :: R) W)
      ?own ?zero ?asg ?body ?done)
     case own =>
      intro s W W' row ⟨Y, A1, k1, h1, h2, h3, h4, h5⟩ hg hr;exact ⟨Y, A1, k1, h1, h2, h3, h4.grown hmlt hg (fun r e => (hr r e).1), h5.QM (hcel _ _ _ _ _) hg fun r e => ⟨U1 hh.size (hr r e).1, (hr r e).2⟩⟩
     case zero => exact ⟨[], none, 0, rfl, fun y h => (by cases h), fun _ => rfl, hmk, hh⟩
     case asg =>
      intro l x W;refine ao (aL (aC ?_));exact ⟨rfl, rfl⟩
     case body =>
      rintro l bs qq W ⟨Y, A1, k1, hYl, hYz, hYe, hmk2, hh0⟩ hbl;have hqm := qq.isLt;have hh := hh0.LG;simp only [UP, UN] at hh;generalize hO : C2 _ _ _ = O at hh;have hq1 : qq.val * (d + 1) + (d + 1) ≤ au (fx.ns.take (i + 1)) := by
       have := VG (d + 1) (show qq.val + 1 ≤ au (fx.ns.take i) from hqm);rw [VO] at this;omega
      have hline := (hrd [_, _, _, _, _, _, _, _, _] W hh0).part (qq.val * (d + 1)) (d + 1) hq1 Uz;rw [wG] at hline;have hfo := fun w1 hT1 hS1 hb1 hb2 => vH tq tq.d ⟨b1, 0, none⟩ ⟨b3, 0, none⟩ (some (ac.add (qq.val * (d + 1) * 3))) (d + 1) (d + 1) d (mR (d + 1) qq.val X) (k + (fx.n - (i + 1)) * G) q w1 hT1 hS1 rfl hdl (fun x hx => hXz x (q8 hx)) vt ht1 hb1 hb2 hKle hq;have hfz := xN (d := d) (i := d + 1) (fun x hx => hXz x (q8 (K := d + 1) (q := qq.val) hx)) vt.sz ht1 (UH _);have hfa := I4 (d := d) (m := au (fx.ns.take i)) tq.d X hqm;generalize l0 d tq.d (mR (d + 1) qq.val X) (d + 1) = y at *;refine aq ?_;refine Ib hh mixed fun W2 hJ2 => ?_;have hst2 := hJ2.hp
      refine Iv (I := fun c x1 x2 e g ρ w' => ρ 9 = .pointer (some ⟨b9, 0, none⟩) ∧ ρ 10 = .pointer (some ⟨b10, 0, none⟩) ∧ ρ 11 = .slice (some (ac.add (qq.val * (d + 1) * 3))) (d + 1) (d + 1) ∧ (c = true → ρ 48 = .slice A1 bs.length k1) ∧ (x1 = true → ρ 49 = .func (.func 191) #[] #[.pointer (some ⟨b1, 0, none⟩), .pointer (some ⟨b3, 0, none⟩)]) ∧ (x2 = true → ρ 50 = .slice (some (ac.add (qq.val * (d + 1) * 3))) (d + 1) (d + 1)) ∧ (e = true → ρ 51 = .agg #[.bool (nR y).neg, .string (nR y).bA, .int .i64 (nR y).e]) ∧ ∃ R52 : List HE, Hp w (R52 ++ (.row A1 bs.length k1 65 3 (az NR.cells (Y.map nR)) :: .blk b10 37 [.slice A1 bs.length k1] (0, 0) :: .blk c1 3 [.int .i64 ((d + 1 : Nat) : Int)] (0, 0) :: .blk c2 37 [.slice (some ac) (au (fx.ns.take (i + 1))) a] (0, 0) :: .blk b9 148 [.func (.func 191) #[] #[.pointer (some ⟨b1, 0, none⟩), .pointer (some ⟨b3, 0, none⟩)]] (0, 0) :: .blk b3 65 [.bool (nR (1 - tq.d)).neg, .string (nR (1 - tq.d)).bA, .int .i64 (nR (1 - tq.d)).e] (0, 0) :: .blk b1 65 [.bool tq.neg, .string tq.bA, .int .i64 tq.e] (0, 0) :: .blk b4 65 [.bool false, .string (ByteArray.mk #[]), .int .i64 0] (0, 0) :: .blk b2 39 [.slice fx.A fx.n fx.a, .slice fx.B fx.m fx.b] (0, 0) :: (R ++ O))) w' ∧ (g = true → ∃ g52, ρ 52 = .slice (some ⟨g52, 0, none⟩) 1 1 ∧ R52 = [.row (some ⟨g52, 0, none⟩) 1 1 65 3 [.bool (nR y).neg, .string (nR y).bA, .int .i64 (nR y).e]]))
       (J := fun ρ w' => ρ 10 = .pointer (some ⟨b10, 0, none⟩) ∧ ∃ (A3 : Option Addr) (k3 : Nat), ρ 53 = .slice A3 (bs.length + 1) k3 ∧ Hp w (.row A3 (bs.length + 1) k3 65 3 (az NR.cells (Y.map nR) ++ [.bool (nR y).neg, .string (nR y).bA, .int .i64 (nR y).e]) :: .blk b10 37 [.slice A1 bs.length k1] (0, 0) :: .blk c1 3 [.int .i64 ((d + 1 : Nat) : Int)] (0, 0) :: .blk c2 37 [.slice (some ac) (au (fx.ns.take (i + 1))) a] (0, 0) :: .blk b9 148 [.func (.func 191) #[] #[.pointer (some ⟨b1, 0, none⟩), .pointer (some ⟨b3, 0, none⟩)]] (0, 0) :: .blk b3 65 [.bool (nR (1 - tq.d)).neg, .string (nR (1 - tq.d)).bA, .int .i64 (nR (1 - tq.d)).e] (0, 0) :: .blk b1 65 [.bool tq.neg, .string tq.bA, .int .i64 tq.e] (0, 0) :: .blk b4 65 [.bool false, .string (ByteArray.mk #[]), .int .i64 0] (0, 0) :: .blk b2 39 [.slice fx.A fx.n fx.a, .slice fx.B fx.m fx.b] (0, 0) :: (R ++ O)) w')
       (K := fun _ w' => ∃ (A3 : Option Addr) (k3 : Nat), Hp w (.row A3 (bs.length + 1) k3 65 3 (az NR.cells (Y.map nR) ++ [.bool (nR y).neg, .string (nR y).bA, .int .i64 (nR y).e]) :: .blk b10 37 [.slice A3 (bs.length + 1) k3] (0, 0) :: .blk c1 3 [.int .i64 ((d + 1 : Nat) : Int)] (0, 0) :: .blk c2 37 [.slice (some ac) (au (fx.ns.take (i + 1))) a] (0, 0) :: .blk b9 148 [.func (.func 191) #[] #[.pointer (some ⟨b1, 0, none⟩), .pointer (some ⟨b3, 0, none⟩)]] (0, 0) :: .blk b3 65 [.bool (nR (1 - tq.d)).neg, .string (nR (1 - tq.d)).bA, .int .i64 (nR (1 - tq.d)).e] (0, 0) :: .blk b1 65 [.bool tq.neg, .string tq.bA, .int .i64 tq.e] (0, 0) :: .blk b4 65 [.bool false, .string (ByteArray.mk #[]), .int .i64 0] (0, 0) :: .blk b2 39 [.slice fx.A fx.n fx.a, .slice fx.B fx.m fx.b] (0, 0) :: (R ++ O)) w')
       rfl rfl rfl rfl rfl rfl rfl UB UB UB UB UB UB UB UB UB UB UB UB UB UB ?s0 ?s1 ?s2 ?s3 ?s4 ?s5 ?s6 ?fin ?st
      case st => exact ⟨rfl, rfl, rfl, fun h => (by cases h), fun h => (by cases h), fun h => (by cases h), fun h => (by cases h), [], hst2, fun h => (by cases h)⟩
      case s0 =>
       rintro a b e g ρ w3 ⟨h9, h10, h11, -, h49, h50, h51, R52, hp, h52⟩;have hp2 := hp.sub (XU R52 _);refine bV aM.out h10 (hp2.dN (i := 1) (o := 0) rfl rfl) UA (aa ?_);refine ⟨(bp _ UA _).trans h9, (bp _ UA _).trans h10, (bp _ UA _).trans h11, fun _ => iE _ _ _, fun h => (bp _ UA _).trans (h49 h), fun h => (bp _ UA _).trans (h50 h), fun h => (bp _ UA _).trans (h51 h), R52, hp, fun h => ?_⟩;obtain ⟨g52, h1, h2⟩ := h52 h;exact ⟨g52, (bp _ UA _).trans h1, h2⟩
      case s1 =>
       rintro c b ρ w3 ⟨h9, h10, h11, h48, -, h50, h51, R52, hp, h52⟩;have hp2 := hp.sub (XU R52 _);refine bV aM.out h9 (hp2.dN (i := 4) (o := 0) rfl rfl) UA (aa ?_);exact ⟨(bp _ UA _).trans h9, (bp _ UA _).trans h10, (bp _ UA _).trans h11, fun h => (bp _ UA _).trans (h48 h), fun _ => iE _ _ _, fun h => (bp _ UA _).trans (h50 h), fun h => (by cases h), R52, hp, fun h => (by cases h)⟩
      case s2 =>
       rintro c a ρ w3 ⟨h9, h10, h11, h48, h49, -, h51, R52, hp, h52⟩;refine aQ rfl rfl UA (eJ h11) (aa ?_);exact ⟨(bp _ UA _).trans h9, (bp _ UA _).trans h10, (bp _ UA _).trans h11, fun h => (bp _ UA _).trans (h48 h), fun h => (bp _ UA _).trans (h49 h), fun _ => iE _ _ _, fun h => (by cases h), R52, hp, fun h => (by cases h)⟩
      case s3 =>
       rintro c ρ w3 ⟨h9, h10, h11, h48, h49, h50, -, R52, hp, h52⟩;have hp2 := hp.sub (XU R52 _);have hp3 : Hp w ([_, _, _, _, _, _, _, _, _] ++ R) w3 := hp2.sub (by repeat (first | exact Xa _ _ | apply UG));have hl3 := (hrd _ w3 hp3).part (qq.val * (d + 1)) (d + 1) hq1 Uz;rw [wG] at hl3;refine gy (first := []) (cap := [_, _]) (hfo w3 (hT.hp hp2) hl3 (hp2.cn (i := 6) (n := 3) rfl rfl) (hp2.cn (i := 5) (n := 3) rfl rfl)) al.out (h49 rfl) (VJ (fun l => [] ++ (l ++ [_, _])) (aw (show ev ρ (Operand.tmp 50) = _ from h50 rfl) aW)) UA ?_;rintro e_ w5 ⟨rfl, hb_⟩;refine ⟨_, rfl, aa ?_⟩;exact ⟨(bp _ UA _).trans h9, (bp _ UA _).trans h10, (bp _ UA _).trans h11, fun h => (bp _ UA _).trans (h48 h), fun h => (bp _ UA _).trans (h49 h), fun h => (bp _ UA _).trans (h50 h), fun _ => iE _ _ _, R52, hp.ext hb_, fun h => (by cases h)⟩
      case s4 =>
       rintro c ρ w3 ⟨h9, h10, h11, h48, h49, h50, h51, R52, hp, -⟩;have hp2 := hp.sub (XU R52 _);refine cR hp2 (cs := [_, _, _]) bk.out aM.out (aN (show ev ρ (Operand.tmp 51) = _ from h51 rfl) bZ) rfl rfl UA UA UA rfl UA ?_;intro g52 w5 hp5;refine aa ?_;exact ⟨(bp _ UA _).trans h9, (bp _ UA _).trans h10, (bp _ UA _).trans h11, fun h => (bp _ UA _).trans (h48 h), fun h => (bp _ UA _).trans (h49 h), fun h => (bp _ UA _).trans (h50 h), fun h => (bp _ UA _).trans (h51 h), [_], hp5, fun _ => ⟨g52, iE _ _ _, rfl⟩⟩
      case s5 =>
       rintro ρ w3 ⟨h9, h10, h11, h48, h49, h50, h51, R52, hp, h52⟩;obtain ⟨g52, h52', rfl⟩ := h52 rfl;refine cH hp (i := 1) rfl (show ev ρ (Operand.tmp 48) = _ from h48 rfl) (show ev ρ (Operand.tmp 52) = _ from h52') (hp.aA (i := 0) rfl) bk.out aM.out rfl UA (ck NR.one [nR y]) Uz Uz UA ?_;intro A3 k3 w5 hp5;refine aa ⟨(bp _ UA _).trans h10, A3, k3, iE _ _ _, ?_⟩;exact hp5.sub (Vs _ _)
      case s6 =>
       rintro ρ w3 ⟨h10, A3, k3, h53, hp⟩;refine vp hp h10 (i := 1) rfl h53 rfl aM.out rfl (by simp) rfl ?_;intro w5 hp5;exact aa ⟨A3, k3, hp5⟩
      case fin =>
       rintro ρ ws ⟨A3, k3, hh⟩;refine bE ?_;subst hO;obtain ⟨gr, rfl⟩ := hh.cN (i := 0) rfl Uz;have hkeep := Hp.P7 (T' := _ :: _ :: _ :: _ :: _ :: _ :: _ :: _ :: R) hh0 (hcel _ _ _ _ _) hh rfl rfl;have el : (bs ++ [qq]).length = bs.length + 1 := by simp
       refine ⟨hkeep, ⟨by rw [hh.dN (i := 3) (o := 0) rfl rfl, hh0.dN (i := 3) (o := 0) rfl rfl], by rw [hh.dN (i := 2) (o := 0) rfl rfl, hh0.dN (i := 2) (o := 0) rfl rfl]⟩, Y ++ [y], some ⟨gr, 0, none⟩, k3, ?_, ?_, ?_, hmk2.keeps hkeep, ?_⟩
       ·rw [el, UM, hYl]; rfl
       ·intro x hx
        rcases Vk.1 hx with hx | hx
        ·exact hYz x hx
        ·obtain rfl := U4.1 hx;exact hfz.mono Uz
       ·intro h;obtain ⟨h1, h2⟩ := Gz h hbl;rw [el, hYe h1, ← h2, ay hfa]
       ·rw [el, VC, bU];exact hh.sub (by repeat (first | exact Xa _ _ | apply UG))
     case done =>
      rintro D bs W hD2 rfl ⟨Y, A1, k1, hYl, hYz, hYe, hmk2, hh0⟩ hDo;have hA2 := hYe (by rw [UQ (UH _)]);rw [UQ (by rw [rz, XH]; exact UH _)] at hA2;rw [XH] at hh0;subst hA2;have hmk3 := hmk2.cons hmlt hh.size hD2 hDo;have hroom := hh0.eM (i := 0) rfl;replace hh := hh0.QJ (hcel _ _ _ _ _) hmk3;simp only [UP, UN] at hh;refine D5 fun D_ => ?_;refine ao ?_;refine bG hh 1 ?_;refine aL (aC ?_);refine Qy ?_;refine D5 fun D_ => ?_;refine ao (mI ?_);refine dW (aI (aC ?_));refine Ii ?_;replace hh := hh.sub (UG _ (UL _ (UL _ (UL _ (UL _ (UL _ (UL _ (UG _ (UG _ (VX _))))))))));replace hh := hh.perm (VH (l₁ := [_, _]));simp only [UP, UN] at hh;replace hh := hh.perm (VH (l₁ := [_, _]));simp only [UP, UN] at hh
      refine ⟨⟨i, (i : Int) - 1, lj d tq.d (au (fx.ns.take i)) X, A1, k1, .row A1 (au (fx.ns.take i)) k1 65 3 (az NR.cells ((lj d tq.d (au (fx.ns.take i)) X).map nR)) :: R, Uz, rfl, rfl, rfl, hroom, rz _ _ _ _, fun x hx => (Kt hXz vt.sz ht1 x hx).mono Uz, ?_, fun x hx => ?_, fun H w1 h1 => ?_, hh⟩, ?_, ?_⟩
      ·rw [← B9 X hd (by rw [UO, htq]; rfl)];exact hXe
      ·rcases UZ.1 hx with rfl | hx
       ·rfl
       ·exact hcR x hx
      ·exact lT (h1.own (.row A1 (au (fx.ns.take i)) k1 65 3 (az NR.cells ((lj d tq.d (au (fx.ns.take i)) X).map nR))) (Wp _ UR))
      ·show ((i : Int) - 1 + 1).toNat < ((i : Int) + 1).toNat;omega
      ·exact dQ
  ·have hE : Jt fx m2 = 1 := by unfold Jt; rw [UE Uz, UF h1]
   rw [hev0 (by rw [hE]; decide), hE];refine Jl ?_;refine jJ fun D_ => ?_;refine ao ?_;refine cz hh [_,_] ?_;intro b2 w2 hh;refine bW hh ?_;intro b4 w4 hh;refine aI (aa ?_);refine jJ fun D_ => ?_;refine sr ?_;refine cE hh 1 [_,_] ?_;refine eA ?_;intro w13 hh;refine aI (aa (sr (mI ?_)));refine dk (aa (cF (ar (ai ?_))));refine jJ fun D_ => ?_;refine sr (mL (aJ (bH ?_)));refine bG hh 1 ?_;refine aJ ?_;refine dk (aa (cT (sr ?_)));refine gH [_,_,_] ?_;refine bX hh 0 [_,_,_] ?_;intro ws hh;replace hh : Hp _ (.blk _ _ [_, _, _] _ :: _) _ := hh;refine aI (aa (av (aH ?_)));refine qV (M := []) (vs := [.agg #[.bool false, .string (ByteArray.mk #[]), .int .i64 0], .int .i64 1]) hh (.inr rfl) rfl ?_;exact P9
 ·have hE : Jt fx m2 = fx.e := by unfold Jt; rw [UF h0]
  rw [hev0 (by rw [hE]; exact h0), hE];refine Jl ?_;refine jJ fun D_ => ?_;refine ao ?_;refine cz hh [_,_] ?_;intro b2 w2 hh;refine bW hh ?_;intro b4 w4 hh;refine aI (aa ?_);refine jJ fun D_ => ?_;refine sr ?_;refine cE hh 1 [_,_] ?_;refine eA ?_;intro w13 hh;refine aI (aa (sr (mI ?_)));refine dk (aa (cT (sr ?_)));refine gH [_,_,_] (mI ?_);refine bX hh 0 [_,_,_] ?_;intro ws hh;replace hh : Hp _ (.blk _ _ [_, _, _] _ :: _) _ := hh;refine aI (aa (av (aH ?_)));refine qV (M := []) (vs := [.agg #[.bool false, .string (ByteArray.mk #[]), .int .i64 0], .int .i64 fx.e]) hh (.inr rfl) rfl ?_;exact P9
variable {z : Int}
def er (es : List UInt8) (z : Int) : VP := fun v W => ∃ g : Option Addr × Nat, v = .agg #[.int .i64 es.length, .slice g.1 1 g.2] ∧ 1 ≤ g.2 ∧ Sl W g.1 1 4 (az TR.cells [⟨str es, eB z⟩])
theorem er.ext {es : List UInt8} (v : Value) (w w' : World) (h : er es z v w) (hb : Below w.heap.size w w') : er es z v w' := let ⟨g, h1, h2, h3⟩ := h; ⟨g, h1, h2, h3.ext hb⟩
def Sc (l : List Int) : Bool := l.all fun z => decide (z.natAbs < 256)
theorem mD {l : List Int} (h : Sc l = true) : ∀ z ∈ l, z.natAbs < 256 := fun z hz => V9 (Vb.1 h z hz)
theorem Sv (l : List Int) (A : Option Addr) (n c : Nat) (w : World) (hS : Sl w A n 1 (bL l)) (hl : Sc l = true) (hn : n ≤ 1000) : Calls Tryz.prog 104 #[.slice A n c] w fun r w' => ∃ v, r = .returned v ∧ Rows n 3 (az NR.cells (l.map eB)) v w' ∧ Below w.heap.size w w' :=
 (l3 l A n c w hS (mD hl) hn).mono fun r w' ⟨B, c', hr, h3⟩ => ⟨_, hr, ⟨B, c', rfl, h3.aA (i := 0) rfl⟩, h3.below⟩
theorem G4 (l : List Int) (A : Option Addr) (n c : Nat) (w : World) (hS : Sl w A n 1 (bL l)) (hl : Sc l = true) (hn : n ≤ 1000) : Calls Tryz.prog 105 #[.slice A n c] w fun r w' => ∃ v, r = .returned v ∧ Rows n 6 (az SR.cells (kf l)) v w' ∧ Below w.heap.size w w' :=
 (CQ l A n c w hS (mD hl) hn).mono fun r w' ⟨B, c', hr, h3⟩ => ⟨_, hr, ⟨B, c', rfl, h3.aA (i := 0) rfl⟩, h3.below⟩
theorem qN (z : Int) (es : List UInt8) (A : Option Addr) (n c : Nat) (w : World) (hS : Sl w A n 1 (jQ es)) (hz : z.natAbs < 256) (hn : es.length = n) (hn2 : n ≤ 1000) : Calls Tryz.prog 107 #[.int .i64 z, .slice A n c] w fun r w' => ∃ v, r = .returned v ∧ er es z v w' ∧ Below w.heap.size w w' :=
 (yD z es A n c w hS hz hn hn2).mono fun r w' ⟨B, c', hr, h3⟩ => ⟨_, hr, ⟨(B, c'), by rw [hn], h3.eM (i := 0) rfl, h3.aA (i := 0) rfl⟩, h3.below⟩
def Mu (es : List UInt8) (z : Int) : PX := ⟨es.length, none, 0, 0, [⟨str es, eB z⟩]⟩
theorem Jh {p q : PX} (hv : p.v = q.v) (ht : p.ts = q.ts) (b : List SR) (ds : List Int) : mv p b ds = mv q b ds ∧ Lb p ds = Lb q ds ∧ cV p (bj b) = cV q (bj b) := by
 obtain ⟨pv, pA, pn, pc, pt⟩ := p;obtain ⟨qv, qA, qn, qc, qt⟩ := q;replace hv : pv = qv := hv;replace ht : pt = qt := ht;subst hv ht;exact ⟨rfl, rfl, rfl⟩
def TL (z : Int) (es : List UInt8) (bl ds l : List Int) : Bool := decide (z.natAbs < 256 ∧ es.length ≤ 12 ∧ mv (Mu es z) (kf bl) ds = 0 ∧ qb (Lb (Mu es z) ds) (cV (Mu es z) (bj (kf bl))).2 = l.map (fun z : Int => (z : Dyadic)) ∧ ff (124 + 124 + 16394) (cS es.length [⟨str es, eB z⟩]) (124 + 1) ≤ 440000) && Sc bl && Sc l
theorem RH (z : Int) (es : List UInt8) (bl ds l : List Int) (A : Option Addr) (c : Nat) (B : Option Addr) (n bc : Nat) (M : Option Addr) (m mc : Nat) (D : Option Addr) (k dc : Nat) (w : World) (hT : eb w) (o : 1 ≤ c ∧ Sl w A 1 4 (az TR.cells [⟨str es, eB z⟩])) (hB : Sl w B n 6 (az SR.cells (kf bl))) (hM : Sl w M m 1 (bL ds)) (hmc : m ≤ mc) (hS : Sl w D k 1 (bL l))
  (hn : n ≤ 1000) (hm : m ≤ 1000) (hk : k ≤ 1000) (hc : TL z es bl ds l = true) :
  Calls Tryz.prog 106 #[.agg #[.int .i64 es.length, .slice A 1 c], .slice B n bc, .slice M m mc, .slice D k dc] w fun r w' => r = .returned (.bool true) ∧ Below w.heap.size w w' := by
 unfold TL at hc;rw [UX, UX] at hc;obtain ⟨⟨hc, hbl⟩, hl⟩ := hc;obtain ⟨hz, hes, hE, hX, hg⟩ := V9 hc;have hk1 := Jh (p := ⟨es.length, A, 1, c, [⟨str es, eB z⟩]⟩) (q := Mu es z) rfl rfl (kf bl) ds;refine Hi ⟨es.length, A, 1, c, [⟨str es, eB z⟩]⟩ B n bc (kf bl) M m mc ds D k dc l w hT o.2 ⟨by show 1 ≤ 1000000; decide, o.1, fun t ht => ?_, fun t ht => ?_⟩ hB (fun s hs => ?_) hn hM hm hmc hg hS (mD hl) hk (hk1.1.trans hE) (by rw [hk1.2.1, hk1.2.2]; exact hX)
 ·rw [U4.1 ht];exact ⟨(pQ hz).1, (pQ hz).2.mono UA⟩
 ·rw [U4.1 ht];show (str es).size ≤ 100000;rw [jC];omega
 ·obtain ⟨y, hy, rfl⟩ := UY.1 hs;have h1 := pQ (mD hbl y hy);exact ⟨⟨(Sz.zero 124).ok UA, by show Sz 124 (nR 0).d; rw [bY]; exact Sz.zero _⟩, ⟨h1.1, h1.2.mono UA⟩⟩
abbrev fZ (A : Option Addr) (a : Nat) (B : Option Addr) (b : Nat) : FX := ⟨A, 1, a, B, 3, b, [2], [0, 0, 4].map eB⟩
theorem Cb (A : Option Addr) (a : Nat) (B : Option Addr) (b : Nat) : (fZ A a B b).kO 24 := ⟨by show 1 ≤ 1000; decide, by show 3 ≤ 100000; decide, fun c hc => by
 obtain ⟨z, hz, rfl⟩ := UY.1 hc;exact pQ (mD (l := [0, 0, 4]) UA z hz)⟩
theorem Lm (A : Option Addr) (a : Nat) (B : Option Addr) (b : Nat) (L : Option Addr) (lc : Nat) (w : World) (hT : eb w) (hf : (fZ A a B b).at_ w) (hb : 3 ≤ b) (hS : Sl w L 1 3 (az NR.cells [nR (((1 : Int) : Dyadic) * pf (-1))])) :
  Calls Tryz.prog 39 #[.agg #[.slice A 1 a, .slice B 3 b], .slice L 1 lc] w fun r w' => r = .returned (.tuple #[.agg #[.bool (nR ((1 : Int) : Dyadic)).neg, .string (nR ((1 : Int) : Dyadic)).bA, .int .i64 (nR ((1 : Int) : Dyadic)).e], .int .i64 0]) ∧ Below w.heap.size w w' := by
 have z : Sz 25 (((1 : Int) : Dyadic) * pf (-1)) := (show Sz 24 ((1 : Int) : Dyadic) from Gk (m := 1) (e := 0) UA UA UA).mul (show Sz 1 (pf (-1)) from ⟨1, by decide +kernel, UA⟩);have hE : Jt (fZ none 0 none 0) 1 = 0 := by decide +kernel
 have hV : MO (fZ none 0 none 0) [nR (((1 : Int) : Dyadic) * pf (-1))] = ((1 : Int) : Dyadic) := by decide +kernel
 have hns : (fZ A a B b).ns = [2] := rfl;have := Ba (fZ A a B b) L 1 lc [nR (((1 : Int) : Dyadic) * pf (-1))] 24 30 (2 + 2 * (30 * 2) + (2 + 1)) w hT hf (Cb A a B b) hb hS (fun s hs => by
  rw [U4.1 hs, bY];exact ⟨N5.of (z.mono UA) UA, ((show Sz 25 (1 : Dyadic) from Sz.one.mono UA).sub z).mono UA⟩) UA (fun _ d hd => by
  rw [hns, U4] at hd;subst hd;decide) (by show 24 + 1 * _ ≤ 500000; decide)
 rw [show Jt (fZ A a B b) 1 = 0 from hE, show MO (fZ A a B b) [nR (((1 : Int) : Dyadic) * pf (-1))] = ((1 : Int) : Dyadic) from hV] at this;exact this
theorem Tc (A : Option Addr) (a : Nat) (B : Option Addr) (b : Nat) (w : World) (hT : eb w) (hf : (fZ A a B b).at_ w) (ha : 1 ≤ a) :
  Calls Tryz.prog 55 #[.agg #[.slice A 1 a, .slice B 3 b], .int .i64 0] w fun r w' => ∃ g : FX, Out 0 [1] ([0, 8].map fun z : Int => (z : Dyadic)) g ∧ r = .returned (.tuple #[.agg #[.slice g.A g.n g.a, .slice g.B g.m g.b], .int .i64 0]) ∧ Hp w [g.vO, g.uE] w' := by
 have hE : kY (fZ none 0 none 0) 0 = 0 := by decide +kernel
 have hN : jb [2] 0 = [1] := by decide +kernel
 have hX : vr [2] 0 (([0, 0, 4].map eB).map NR.d) = [0, 8].map fun z : Int => (z : Dyadic) := by decide +kernel
 have := p8 (fZ A a B b) 0 24 w hT hf (Cb A a B b) ha UA;rw [show kY (fZ A a B b) 0 = 0 from hE, show jb (fZ A a B b).ns (0 : Int).toNat = [1] from hN, show vr (fZ A a B b).ns (0 : Int).toNat ((fZ A a B b).cs.map NR.d) = _ from hX] at this;exact this
theorem RV (A : Option Addr) (a : Nat) (B : Option Addr) (b : Nat) (L : Option Addr) (lc : Nat) (w : World) (hT : eb w) (hf : (fZ A a B b).at_ w) (ha : 1 ≤ a) (hL : Sl w L 1 6 (az SR.cells (kf [2]))) :
  Calls Tryz.prog 37 #[.agg #[.slice A 1 a, .slice B 3 b], .slice L 1 lc] w fun r w' => ∃ g : PX, fg 0 1 [⟨str [2], eB 4⟩] g ∧ r = .returned (.tuple #[.agg #[.int .i64 g.v, .slice g.A g.n g.c], .int .i64 0]) ∧ Hp w [g.row] w' := by
 have hE : q9 (fZ none 0 none 0) (kf [2]) = 0 := by decide +kernel
 have hR : (Ac (fZ none 0 none 0) (kf [2])).2 = [⟨str [2], eB 4⟩] := by kernel_rfl
 have hG : sC 1 24 24 [2] ≤ 400000 ∧ ff (24 + 16394) [2] (sC 1 24 24 [2] + 4097) ≤ 440000 := by decide +kernel
 have := AJ (fZ A a B b) L 1 lc (kf [2]) 24 24 w hT hf (Cb A a B b) ha hL (fun s hs => by
  obtain ⟨y, hy, rfl⟩ := UY.1 hs;have h1 := pQ (mD (l := [2]) UA y hy);exact ⟨⟨(Sz.zero 24).ok UA, by show Sz 24 (nR 0).d; rw [bY]; exact Sz.zero _⟩, ⟨h1.1, h1.2⟩⟩) UA UA (fun _ _ => hG.1) (fun _ _ => hG.2)
 rw [show q9 (fZ A a B b) (kf [2]) = 0 from hE, show (Ac (fZ A a B b) (kf [2])).2 = _ from hR] at this;exact this
theorem Tu (ns : List Nat) (l : List Int) (A : Option Addr) (n c : Nat) (w : World) (hT : eb w) (hS : Sl w A n 1 (bL (bI ns))) (h : (decide (ns.length ≤ 12 ∧ au ns ≤ 4096) && ns.all (fun d => decide (d ≤ 127)) && decide ((CS ns).map (fun k : Nat => (k : Int)) = l)) = true) :
  Calls Tryz.prog 46 #[.slice A n c] w fun r w' => ∃ v, r = .returned v ∧ Rows (au ns) 3 (az NR.cells (l.map eB)) v w' ∧ Below w.heap.size w w' := by
 rw [UX, UX] at h;obtain ⟨⟨h1, h2⟩, h3⟩ := h;have h1 := V9 h1;have e : l.map eB = K0 ns := by
  rw [← V9 h3, VE]
  rfl
 rw [e];exact (tB A n c ns w hT hS h1.1 (fun d hd => V9 (Vb.1 h2 d hd)) h1.2).mono fun r w' ⟨B, c', hr, ho, hb⟩ => ⟨_, hr, ⟨B, c', rfl, lT ho⟩, hb⟩
theorem QS (g : FX) (h : FX) (w : World) (og : Out 0 [1] ([0, 8].map fun z : Int => (z : Dyadic)) g) (hg : g.at_ w) (oh : h.ds = [1] ∧ h.cs = [0, 8].map eB ∧ h.at_ w) :
  Calls Tryz.prog 23 #[.agg #[.slice g.A g.n g.a, .slice g.B g.m g.b], .agg #[.slice h.A h.n h.a, .slice h.B h.m h.b]] w fun r w' => r = .returned (.bool true) ∧ Below w.heap.size w w' :=
 rV g h w hg oh.2.2 ⟨og.ds.trans oh.1.symm, og.cs.trans oh.2.1.symm⟩ og.n og.m
theorem Pc (p : PX) (q : Option Addr × Nat) (w : World) (op : fg 0 1 [⟨str [2], eB 4⟩] p) (hp : p.at_ w) (hq : 1 ≤ q.2 ∧ Sl w q.1 1 4 (az TR.cells [⟨str [2], eB 4⟩])) :
  Calls Tryz.prog 15 #[.agg #[.int .i64 p.v, .slice p.A p.n p.c], .agg #[.int .i64 1, .slice q.1 1 q.2]] w fun r w' => r = .returned (.bool true) ∧ Below w.heap.size w w' := by
 have hv : p.v = 1 := op.v;have ht : p.ts = [⟨str [2], eB 4⟩] := op.ts;have hn : p.n = 1 := by have := hp.ln; rw [ht] at this; exact this.symm
 refine (Bz p ⟨1, q.1, 1, q.2, [⟨str [2], eB 4⟩]⟩ w hp hq.2 Uz (by show 1 ≤ 1000000; decide)).mono fun r w' ⟨v, hr, hi, hb⟩ => ?_;rw [hr, hi.2 ⟨hv, ht⟩];exact ⟨rfl, hb⟩
set_option maxRecDepth 100000 in
theorem l4 (w : World) (hT : eb w) : Calls Tryz.prog 30 #[] w fun r w' => r = .returned (.bool true) ∧ Below w.heap.size w w' := by
 have hh := Hp.start w;refine aj (N := 116) (l := []) Tryz.func30 rfl rfl (by simp) ?_;refine sr (aB (aa (sr ?_)));refine cR hh (cs := [_]) bk.out aM.out (aN rfl bZ) rfl rfl UA UA UA rfl UA ?_;intro b8 w8 hh;refine cR hh (cs := [_, _, _]) bk.out aM.out (aN rfl (aN rfl (aN rfl bZ))) rfl rfl UA UA UA rfl UA ?_;intro b9 w9 hh;refine aF (l3 [0, 0, 4] _ 3 _ _ (hh.aA (i := 0) rfl) (mD UA) UA) al.out rfl UA ?_;rintro e_ w10 ⟨A1, c1, rfl, h2⟩;refine ⟨_, rfl, ?_⟩;have hc1 : 3 ≤ c1 := h2.eM (i := 0) rfl;replace hh := hh.join h2;simp only [UP, UN] at hh;clear h2;replace hh := hh.sub (UG _ (UL _ (UG _ Ve)));refine gH [_,_] ?_;refine bW hh ?_;intro b1 w1 hh;refine bX hh 0 [_,_] ?_;intro ws hh;replace hh : Hp _ (.blk _ _ [_, _] _ :: _) _ := hh;refine aa (ah ?_)
 refine dX [8] [7] [0, 0, 2, 6, 15, 31, 63, 63, 0, 383, 1023] 9 [[(1, none)], [], [(14, some 1)], [(15, some 2)], [(13, some 0), (16, some 3)], [(17, some 4)], [(12, some 5)], [(12, some 5)], []] [(8, 2), (7, 19), (6, 18), (5, 12), (4, 17), (3, 16), (2, 15), (1, 14), (0, 13)] hh mixed UB (qJ rfl aM.out eO) rfl (by repeat (first | exact cA | refine bR ?_ | refine cB ?_)) ?_;refine fS 0 [_,_] ?_;refine dC (fun _ hj => lC 1 _ UA UA) ?_;refine dC (fun _ hj => x9 (nR ((1 : Int) : Dyadic)) (-1) _ (by decide +kernel) (by decide +kernel) (by decide +kernel) UA UA) ?_;refine sA [_,_,_] ?_;refine aP (i := 4) (Is (.tuple #[.agg #[.bool (nR ((1 : Int) : Dyadic)).neg, .string (nR ((1 : Int) : Dyadic)).bA, .int .i64 (nR ((1 : Int) : Dyadic)).e], .int .i64 0])) Is.ext ?_ ?_
 ·intro ρ1 w1 hj hR;obtain ⟨A16, c16, h16, s16⟩ := hR.2.1;exact a7 rfl (aK al.out (aw (show ρ1 13 = Value.agg (List.toArray _) from hR.1) (aw h16 aW))) (Lm (some ⟨b8, 0, none⟩) 1 A1 c1 A16 c16 _ (hT.hp hj.hp) ⟨hj.hp.aA (i := 2) rfl, hj.hp.aA (i := 1) rfl⟩ hc1 s16) (fun _ _ hq => ⟨_, hq.1, hq.2, rfl⟩)
 refine TH ?_;refine Sh ?_;refine Sh ?_;refine aP (i := 8) (dw _ 65 _) dw.ext (fun ρ1 w1 hj hR => kd aM.out hj.bl (fun v w2 h hb => ⟨hb, h⟩)) ?_;refine aT ?_;intro f W hJ hV _;have hb_2 := hJ.bl;obtain ⟨v2, v19, v18, v12, v17, v16, v15, v14, v13, _⟩ := hV;obtain ⟨A16, c16, e16, f16⟩ : Rows _ _ _ (f 3) W := v16;obtain ⟨b2, e2, hl2, hc2⟩ : dw _ _ _ (f 8) W := v2;replace hh := hJ.newVar hh hl2 hc2;refine aY (br (ae e2 (ae v19 (ae v18 (ae v12 (ae v17 (ae e16 (ae v15 (ae v14 (ae v13 aX)))))))))) ?_;dsimp only [cg];clear e16 e2 hJ;refine bX hh 0 [_,_,_] ?_;intro ws hh;replace hh : Hp _ (.blk _ _ [_, _, _] _ :: _) _ := hh;refine aI (aa (sr ?_));refine cE hh 1 [_,_] ?_;refine aF (Tc (some ⟨b8, 0, none⟩) 1 A1 c1 _ (hT.hp hh) ⟨hh.aA (i := 3) rfl, hh.aA (i := 2) rfl⟩ (UH _)) al.out rfl UA ?_;rintro e_ w22 ⟨g, og, rfl, h4⟩;refine ⟨_, rfl, ?_⟩;replace hh := hh.join h4;clear h4;simp only [UP, UN] at hh;replace hh := show Hp w (.row g.B g.m g.b 65 3 (az NR.cells g.cs) :: .row g.A g.n g.a 3 1 (bL g.ds) :: _) _ from hh;refine mT ?_;refine dt ?_;refine dt ?_;refine bW hh ?_;intro b4 w4 hh;refine bX hh 0 [_,_] ?_;intro ws hh
 replace hh : Hp _ (.blk _ _ [_, _] _ :: _) _ := hh;refine aI (aa (ah ?_));refine dX [7] [6] [0, 0, 2, 7, 15, 31, 31, 0, 191, 511] 8 [[(1, none)], [], [(27, some 1)], [(26, some 0), (28, some 2)], [(29, some 3)], [(25, some 4)], [(25, some 4)], []] [(7, 6), (6, 31), (5, 30), (4, 25), (3, 29), (2, 28), (1, 27), (0, 26)] hh mixed UB (qJ rfl aM.out eO) rfl (by repeat (first | exact cA | refine bR ?_ | refine cB ?_)) ?_;refine fS 4 [_,_] ?_;refine sA [_] ?_;refine aP (i := 2) (Rows 1 6 (az SR.cells (kf [2]))) Rows.ext ?_ ?_
 ·intro ρ1 w1 hj hR;obtain ⟨A27, c27, h27, s27⟩ := hR.1;exact a7 rfl (aK al.out (aw h27 aW)) (G4 [2] A27 1 c27 _ s27 UA UA) (fun _ _ ⟨v, hq, hp, hb⟩ => ⟨v, hq, hb, hp⟩)
 refine aP (i := 3) (iG hh.sz 0 1 [⟨str [2], eB 4⟩]) (iG.ext) ?_ ?_
 ·intro ρ1 w1 hj hR;obtain ⟨A28, c28, h28, s28⟩ := hR.2.1;exact a7 rfl (aK al.out (aw (show ρ1 26 = Value.agg (List.toArray _) from hR.1) (aw h28 aW))) (RV (some ⟨b8, 0, none⟩) 1 A1 c1 A28 c28 w1 (hT.hp hj.hp) ⟨hj.hp.aA (i := 6) rfl, hj.hp.aA (i := 5) rfl⟩ (UH _) s28) (fun _ _ ⟨g, og, hq, h3⟩ => ⟨_, hq, h3.below, g, w1, rfl, og, hj.bl.size, h3⟩)
 refine aP (i := 4) (iG hh.sz 0 1 [⟨str [2], eB 4⟩]) (iG.ext) ?_ ?_
 ·exact Ln
 refine aP (i := 5) (j2 hh.sz 0 1 [⟨str [2], eB 4⟩]) (j2.ext) ?_ ?_
 ·exact M4
 refine aP (i := 6) (Is (.int .i64 0)) (Is.ext) ?_ ?_
 ·exact MN
 refine aP (i := 7) (dw _ 24 _) dw.ext (fun ρ1 w1 hj hR => kd aM.out hj.bl (fun v w2 h hb => ⟨hb, h⟩)) ?_;refine aT ?_;intro f W hJ hV _;have hb_4 := hJ.bl;obtain ⟨v6, v31, v30, v25, v29, v28, v27, v26, _⟩ := hV;obtain ⟨A27, c27, e27, f27⟩ : Rows _ _ _ (f 1) W := v27;obtain ⟨A28, c28, e28, f28⟩ : Rows _ _ _ (f 2) W := v28;obtain ⟨g29, u29, e29, -⟩ := v29;obtain ⟨g25, u25, e25, -⟩ := v25;obtain ⟨g30, u30, e30, o30, q30, h30⟩ := v30;obtain ⟨b6, e6, hl6, hc6⟩ : dw _ _ _ (f 7) W := v6;replace hh := hJ.rf hh hl6 hc6 q30 h30 (PX.ne h30 hc6 UA);refine aY (br (ae e6 (ae v31 (ae e30 (ae e25 (ae e29 (ae e28 (ae e27 (ae v26 aX))))))))) ?_;dsimp only [cg];clear e27 e28 e29 e25 e30 e6 hJ;refine bX hh 0 [_,_] ?_;intro ws hh;replace hh : Hp _ (.blk _ _ [_, _] _ :: _) _ := hh;refine aI (aa (ah ?_))
 refine dX [] [] [0, 1, 0, 7, 0, 31, 63, 127, 255, 127, 1023, 127, 4095, 8191, 16383, 32767, 65535, 32767, 262143, 32767, 1048575, 2097151, 4194303, 8388607, 16777215, 8388607, 67108863, 8388607, 8388607, 536870911, 1073741823, 2147483647, 4294967295, 8589934591, 4294967295, 34359738367, 4294967295, 137438953471, 274877906943, 549755813887, 1099511627775, 1099511627775, 4398046511103, 8796093022207, 17592186044415, 35184372088831, 70368744177663, 140737488355327, 281474976710655, 562949953421311, 562949953421311, 562949953421311, 2814749767106559, 8444249301319679, 18014398509481983, 36028797018963967, 72057594037927935, 144115188075855871, 288230376151711743, 576460752303423487, 1152921504606846975, 2305843009213693951, 2305843009213693951, 6917529027641081855, 18446744073709551615, 36893488147419103231, 73786976294838206463, 147573952589676412927, 295147905179352825855, 590295810358705651711, 1180591620717411303423, 2361183241434822606847, 4722366482869645213695, 2361183241434822606847, 18889465931478580854783, 37778931862957161709567, 75557863725914323419135, 151115727451828646838271, 302231454903657293676543, 604462909807314587353087, 302231454903657293676543, 2417851639229258349412351, 4835703278458516698824703, 9671406556917033397649407, 19342813113834066795298815] 81 [[], [(32, some 0)], [], [(34, some 2)], [], [(33, some 1), (35, some 3), (36, some 4)], [(37, some 5)], [(38, some 6)], [(39, some 7), (38, some 6)], [(38, some 6)], [(41, some 9), (38, some 6)], [(38, some 6)], [(40, some 8), (42, some 10), (43, some 11), (38, some 6)], [(38, some 6), (44, some 12)], [(45, some 13)], [(46, some 14)], [(47, some 15), (46, some 14)], [(46, some 14)], [(49, some 17), (46, some 14)], [(46, some 14)], [(48, some 16), (50, some 18), (51, some 19), (46, some 14)], [(46, some 14), (52, some 20)], [(53, some 21)], [(54, some 22)], [(55, some 23), (54, some 22)], [(54, some 22)], [(57, some 25), (54, some 22)], [(54, some 22)], [(54, some 22)], [(56, some 24), (58, some 26), (59, some 27), (60, some 28), (54, some 22)], [(54, some 22), (61, some 29)], [(62, some 30)], [(63, some 31)], [(64, some 32), (63, some 31)], [(63, some 31)], [(66, some 34), (63, some 31)], [(63, some 31)], [(65, some 33), (67, some 35), (68, some 36), (63, some 31)], [(63, some 31), (69, some 37)], [(70, some 38)], [(2, none), (71, some 39)], [(71, some 39)], [(72, some 40), (73, some 41), (71, some 39)], [(71, some 39), (74, some 42)], [(75, some 43)], [(3, none), (76, some 44)], [(77, some 45), (76, some 44)], [(76, some 44), (78, some 46)], [(79, some 47)], [(4, none), (80, some 48)], [(80, some 48)], [(80, some 48)], [(83, some 51), (80, some 48)], [(82, some 50), (84, some 52), (80, some 48)], [(81, some 49), (85, some 53), (80, some 48)], [(80, some 48), (86, some 54)], [(87, some 55)], [(5, none), (88, some 56)], [(89, some 57), (88, some 56)], [(88, some 56), (90, some 58)], [(91, some 59)], [(6, none), (92, some 60)], [(92, some 60)], [(94, some 62), (92, some 60)], [(93, some 61), (95, some 63), (92, some 60)], [(92, some 60), (96, some 64)], [(97, some 65)], [(7, none), (98, some 66)], [(99, some 67), (98, some 66)], [(98, some 66), (100, some 68)], [(101, some 69)], [(102, some 70)], [(103, some 71), (102, some 70)], [(102, some 70)], [(105, some 73), (102, some 70)], [(104, some 72), (106, some 74), (102, some 70)], [(102, some 70), (107, some 75)], [(108, some 76)], [(109, some 77)], [(110, some 78), (109, some 77)], [(109, some 77)]] [(80, 112), (79, 111), (78, 110), (77, 109), (76, 108), (75, 107), (74, 106), (73, 105), (72, 104), (71, 103), (70, 102), (69, 101), (68, 100), (67, 99), (66, 98), (65, 97), (64, 96), (63, 95), (62, 94), (61, 93), (60, 92), (59, 91), (58, 90), (57, 89), (56, 88), (55, 87), (54, 86), (53, 85), (52, 84), (51, 83), (50, 82), (49, 81), (48, 80), (47, 79), (46, 78), (45, 77), (44, 76), (43, 75), (42, 74), (41, 73), (40, 72), (39, 71), (38, 70), (37, 69), (36, 68), (35, 67), (34, 66), (33, 65), (32, 64), (31, 63), (30, 62), (29, 61), (28, 60), (27, 59), (26, 58), (25, 57), (24, 56), (23, 55), (22, 54), (21, 53), (20, 52), (19, 51), (18, 50), (17, 49), (16, 48), (15, 47), (14, 46), (13, 45), (12, 44), (11, 43), (10, 42), (9, 41), (8, 40), (7, 39), (6, 38), (5, 37), (4, 36), (3, 35), (2, 34), (1, 33), (0, 32)] hh mixed UB eO rfl (by repeat (first | exact cA | refine bR ?_ | refine cB ?_)) ?_
 refine sA [_] ?_;refine aP (i := 1) (er [1] 1) er.ext ?_ ?_
 ·intro ρ1 w1 hj hR;obtain ⟨A32, c32, h32, s32⟩ := hR.1;exact a7 rfl (aK al.out (aw rfl (aw h32 aW))) (qN 1 [1] A32 1 c32 _ s32 UA rfl UA) (fun _ _ ⟨v, hq, hp, hb⟩ => ⟨v, hq, hb, hp⟩)
 refine sA [_] ?_;refine aP (i := 3) (Rows 1 6 (az SR.cells (kf [1]))) Rows.ext ?_ ?_
 ·intro ρ1 w1 hj hR;obtain ⟨A34, c34, h34, s34⟩ := hR.1;exact a7 rfl (aK al.out (aw h34 aW)) (G4 [1] A34 1 c34 _ s34 rfl UA) (fun _ _ ⟨v, hq, hp, hb⟩ => ⟨v, hq, hb, hp⟩)
 refine sA [_,_] ?_;refine aP (i := 5) (Is (.bool true)) Is.ext ?_ ?_
 ·intro ρ1 w1 hj hR;obtain ⟨A35, c35, h35, s35⟩ := hR.2.1;obtain ⟨A36, c36, h36, s36⟩ := hR.2.2.1;obtain ⟨g33, e33, o33⟩ := hR.1;exact a7 rfl (aK al.out (aw e33 (aw h35 (aw rfl (aw h36 aW))))) (RH 1 [1] [1] [] [0, 1] g33.1 g33.2 A35 1 c35 none 0 0 A36 2 c36 _ (hT.hp hj.hp) o33 s35 (Sl.nil _ _ _) UA s36 UA UA UA (by decide +kernel)) (fun _ _ hq => ⟨_, hq.1, hq.2, rfl⟩)
 refine oK ?_;refine a6 (i := 7) (cs := [_]) rfl (fun ρ1 w1 hj hR => (show ρ1 38 = Value.bool _ from hR.1)) bk.out aM.out (fun ρ1 w1 hj hR => (aN rfl bZ)) rfl rfl UA UA rfl ?_;refine aP (i := 8) (er [1] 1) er.ext ?_ ?_
 ·intro ρ1 w1 hj hR;obtain ⟨A39, c39, h39, s39⟩ := hR.1;refine bf rfl ((show ρ1 38 = Value.bool _ from hR.2.1)) ?_;exact a7 rfl (aK al.out (aw rfl (aw h39 aW))) (qN 1 [1] A39 1 c39 _ s39 UA rfl UA) (fun _ _ ⟨v, hq, hp, hb⟩ => ⟨v, hq, hb, hp⟩)
 refine a6 (i := 9) (cs := [_]) rfl (fun ρ1 w1 hj hR => (show ρ1 38 = Value.bool _ from hR.1)) bk.out aM.out (fun ρ1 w1 hj hR => (aN rfl bZ)) rfl rfl UA UA rfl ?_;refine aP (i := 10) (Rows 1 6 (az SR.cells (kf [4]))) Rows.ext ?_ ?_
 ·intro ρ1 w1 hj hR;obtain ⟨A41, c41, h41, s41⟩ := hR.1;refine bf rfl ((show ρ1 38 = Value.bool _ from hR.2.1)) ?_;exact a7 rfl (aK al.out (aw h41 aW)) (G4 [4] A41 1 c41 _ s41 rfl UA) (fun _ _ ⟨v, hq, hp, hb⟩ => ⟨v, hq, hb, hp⟩)
 refine a6 (i := 11) (cs := [_, _]) rfl (fun ρ1 w1 hj hR => (show ρ1 38 = Value.bool _ from hR.1)) bk.out aM.out (fun ρ1 w1 hj hR => (aN rfl (aN rfl bZ))) rfl rfl UA UA rfl ?_;refine aP (i := 12) (Is (.bool true)) Is.ext ?_ ?_
 ·intro ρ1 w1 hj hR;obtain ⟨A42, c42, h42, s42⟩ := hR.2.1;obtain ⟨A43, c43, h43, s43⟩ := hR.2.2.1;obtain ⟨g40, e40, o40⟩ := hR.1;refine bf rfl ((show ρ1 38 = Value.bool _ from hR.2.2.2.1)) ?_;exact a7 rfl (aK al.out (aw e40 (aw h42 (aw rfl (aw h43 aW))))) (RH 1 [1] [4] [] [0, 4] g40.1 g40.2 A42 1 c42 none 0 0 A43 2 c43 _ (hT.hp hj.hp) o40 s42 (Sl.nil _ _ _) UA s43 UA UA UA (by decide +kernel)) (fun _ _ hq => ⟨_, hq.1, hq.2, rfl⟩)
 refine Gj ?_;refine oK ?_;refine a6 (i := 15) (cs := [_]) rfl (fun ρ1 w1 hj hR => (show ρ1 46 = Value.bool _ from hR.1)) bk.out aM.out (fun ρ1 w1 hj hR => (aN rfl bZ)) rfl rfl UA UA rfl ?_;refine aP (i := 16) (er [2] 1) er.ext ?_ ?_
 ·intro ρ1 w1 hj hR;obtain ⟨A47, c47, h47, s47⟩ := hR.1;refine bf rfl ((show ρ1 46 = Value.bool _ from hR.2.1)) ?_;exact a7 rfl (aK al.out (aw rfl (aw h47 aW))) (qN 1 [2] A47 1 c47 _ s47 UA rfl UA) (fun _ _ ⟨v, hq, hp, hb⟩ => ⟨v, hq, hb, hp⟩)
 refine a6 (i := 17) (cs := [_]) rfl (fun ρ1 w1 hj hR => (show ρ1 46 = Value.bool _ from hR.1)) bk.out aM.out (fun ρ1 w1 hj hR => (aN rfl bZ)) rfl rfl UA UA rfl ?_;refine aP (i := 18) (Rows 1 6 (az SR.cells (kf [2]))) Rows.ext ?_ ?_
 ·intro ρ1 w1 hj hR;obtain ⟨A49, c49, h49, s49⟩ := hR.1;refine bf rfl ((show ρ1 46 = Value.bool _ from hR.2.1)) ?_;exact a7 rfl (aK al.out (aw h49 aW)) (G4 [2] A49 1 c49 _ s49 rfl UA) (fun _ _ ⟨v, hq, hp, hb⟩ => ⟨v, hq, hb, hp⟩)
 refine a6 (i := 19) (cs := [_, _, _]) rfl (fun ρ1 w1 hj hR => (show ρ1 46 = Value.bool _ from hR.1)) bk.out aM.out (fun ρ1 w1 hj hR => (aN rfl (aN rfl (aN rfl bZ)))) rfl rfl UA UA rfl ?_;refine aP (i := 20) (Is (.bool true)) Is.ext ?_ ?_
 ·intro ρ1 w1 hj hR;obtain ⟨A50, c50, h50, s50⟩ := hR.2.1;obtain ⟨A51, c51, h51, s51⟩ := hR.2.2.1;obtain ⟨g48, e48, o48⟩ := hR.1;refine bf rfl ((show ρ1 46 = Value.bool _ from hR.2.2.2.1)) ?_;exact a7 rfl (aK al.out (aw e48 (aw h50 (aw rfl (aw h51 aW))))) (RH 1 [2] [2] [] [0, 0, 4] g48.1 g48.2 A50 1 c50 none 0 0 A51 3 c51 _ (hT.hp hj.hp) o48 s50 (Sl.nil _ _ _) UA s51 UA UA UA (by decide +kernel)) (fun _ _ hq => ⟨_, hq.1, hq.2, rfl⟩)
 refine Gj ?_;refine oK ?_;refine a6 (i := 23) (cs := [_]) rfl (fun ρ1 w1 hj hR => (show ρ1 54 = Value.bool _ from hR.1)) bk.out aM.out (fun ρ1 w1 hj hR => (aN rfl bZ)) rfl rfl UA UA rfl ?_;refine aP (i := 24) (er [0] 3) er.ext ?_ ?_
 ·intro ρ1 w1 hj hR;obtain ⟨A55, c55, h55, s55⟩ := hR.1;refine bf rfl ((show ρ1 54 = Value.bool _ from hR.2.1)) ?_;exact a7 rfl (aK al.out (aw rfl (aw h55 aW))) (qN 3 [0] A55 1 c55 _ s55 UA rfl UA) (fun _ _ ⟨v, hq, hp, hb⟩ => ⟨v, hq, hb, hp⟩)
 refine a6 (i := 25) (cs := [_]) rfl (fun ρ1 w1 hj hR => (show ρ1 54 = Value.bool _ from hR.1)) bk.out aM.out (fun ρ1 w1 hj hR => (aN rfl bZ)) rfl rfl UA UA rfl ?_;refine aP (i := 26) (Rows 1 6 (az SR.cells (kf [1]))) Rows.ext ?_ ?_
 ·intro ρ1 w1 hj hR;obtain ⟨A57, c57, h57, s57⟩ := hR.1;refine bf rfl ((show ρ1 54 = Value.bool _ from hR.2.1)) ?_;exact a7 rfl (aK al.out (aw h57 aW)) (G4 [1] A57 1 c57 _ s57 rfl UA) (fun _ _ ⟨v, hq, hp, hb⟩ => ⟨v, hq, hb, hp⟩)
 refine aP (i := 27) (iQ 1 1 (bL [2])) (iQ.ext) ?_ ?_
 ·intro ρ1 w1 hj hR;exact bf rfl (show ρ1 54 = Value.bool _ from hR.1) (ji (sz := 1) bk.out aM.out (show xn ρ1 [(0, .const (.int .i64 2))] = [(0, .int .i64 2)] from rfl) rfl rfl UA UA rfl fun v w2 h hb => ⟨hb, h⟩)
 refine a6 (i := 28) (cs := [_, _, _]) rfl (fun ρ1 w1 hj hR => (show ρ1 54 = Value.bool _ from hR.1)) bk.out aM.out (fun ρ1 w1 hj hR => (aN rfl (aN rfl (aN rfl bZ)))) rfl rfl UA UA rfl ?_;refine aP (i := 29) (Is (.bool true)) Is.ext ?_ ?_
 ·intro ρ1 w1 hj hR;obtain ⟨A58, c58, h58, s58⟩ := hR.2.1;obtain ⟨A60, c60, h60, s60⟩ := hR.2.2.2.1;obtain ⟨g56, e56, o56⟩ := hR.1;obtain ⟨g59, e59, o59⟩ := hR.2.2.1;refine bf rfl ((show ρ1 54 = Value.bool _ from hR.2.2.2.2.1)) ?_;exact a7 rfl (aK al.out (aw e56 (aw h58 (aw e59 (aw h60 aW))))) (RH 3 [0] [1] [2] [3, 6, 3] g56.1 g56.2 A58 1 c58 (some ⟨g59, 0, none⟩) 1 1 A60 3 c60 _ (hT.hp hj.hp) o56 s58 o59 UA s60 UA UA UA (by decide +kernel)) (fun _ _ hq => ⟨_, hq.1, hq.2, rfl⟩)
 refine Gj ?_;refine oK ?_;refine a6 (i := 32) (cs := [_, _]) rfl (fun ρ1 w1 hj hR => (show ρ1 63 = Value.bool _ from hR.1)) bk.out aM.out (fun ρ1 w1 hj hR => (aN rfl (aN rfl bZ))) rfl rfl UA UA rfl ?_;refine aP (i := 33) (er [1, 1] 1) er.ext ?_ ?_
 ·intro ρ1 w1 hj hR;obtain ⟨A64, c64, h64, s64⟩ := hR.1;refine bf rfl ((show ρ1 63 = Value.bool _ from hR.2.1)) ?_;exact a7 rfl (aK al.out (aw rfl (aw h64 aW))) (qN 1 [1, 1] A64 2 c64 _ s64 UA rfl UA) (fun _ _ ⟨v, hq, hp, hb⟩ => ⟨v, hq, hb, hp⟩)
 refine a6 (i := 34) (cs := [_, _]) rfl (fun ρ1 w1 hj hR => (show ρ1 63 = Value.bool _ from hR.1)) bk.out aM.out (fun ρ1 w1 hj hR => (aN rfl (aN rfl bZ))) rfl rfl UA UA rfl ?_;refine aP (i := 35) (Rows 2 6 (az SR.cells (kf [1, 1]))) Rows.ext ?_ ?_
 ·intro ρ1 w1 hj hR;obtain ⟨A66, c66, h66, s66⟩ := hR.1;refine bf rfl ((show ρ1 63 = Value.bool _ from hR.2.1)) ?_;exact a7 rfl (aK al.out (aw h66 aW)) (G4 [1, 1] A66 2 c66 _ s66 rfl UA) (fun _ _ ⟨v, hq, hp, hb⟩ => ⟨v, hq, hb, hp⟩)
 refine a6 (i := 36) (cs := [_, _, _, _]) rfl (fun ρ1 w1 hj hR => (show ρ1 63 = Value.bool _ from hR.1)) bk.out aM.out (fun ρ1 w1 hj hR => (aN rfl (aN rfl (aN rfl (aN rfl bZ))))) rfl rfl UA UA rfl ?_;refine aP (i := 37) (Is (.bool true)) Is.ext ?_ ?_
 ·intro ρ1 w1 hj hR;obtain ⟨A67, c67, h67, s67⟩ := hR.2.1;obtain ⟨A68, c68, h68, s68⟩ := hR.2.2.1;obtain ⟨g65, e65, o65⟩ := hR.1;refine bf rfl ((show ρ1 63 = Value.bool _ from hR.2.2.2.1)) ?_;exact a7 rfl (aK al.out (aw e65 (aw h67 (aw rfl (aw h68 aW))))) (RH 1 [1, 1] [1, 1] [] [0, 0, 0, 1] g65.1 g65.2 A67 2 c67 none 0 0 A68 4 c68 _ (hT.hp hj.hp) o65 s67 (Sl.nil _ _ _) UA s68 UA UA UA (by decide +kernel)) (fun _ _ hq => ⟨_, hq.1, hq.2, rfl⟩)
 refine Gj ?_;refine oK ?_;refine dG (fS 5 [_,_,_] ?_);refine lV (i := 41) rfl (fun ρ1 w1 hj hR => (show ρ1 71 = Value.bool _ from hR.1)) (fun ρ1 w1 hj hR => aK al.out (aw rfl aW)) (fun w1 hj => lC 1 _ UA UA) ?_;refine yc (i := 42) rfl (fun ρ1 w1 hj hR => (show ρ1 71 = Value.bool _ from hR.2.2.1)) (fun ρ1 w1 hj hR => E5 (show ρ1 72 = Value.agg (List.toArray _) from hR.1) (show ρ1 73 = Value.agg (List.toArray _) from hR.2.1) (by first | assumption | rfl)) ?_;refine Gj ?_;refine oK ?_;refine dG (dP ?_);refine dG (yl ?_);refine Gj ?_;refine oK ?_;refine dG (fS 2 [_,_] ?_);refine a6 (i := 50) (cs := [_]) rfl (fun ρ1 w1 hj hR => (show ρ1 80 = Value.bool _ from hR.1)) bk.out aM.out (fun ρ1 w1 hj hR => (aN rfl bZ)) rfl rfl UA UA rfl ?_;refine a6 (i := 51) (cs := [_, _]) rfl (fun ρ1 w1 hj hR => (show ρ1 80 = Value.bool _ from hR.1)) bk.out aM.out (fun ρ1 w1 hj hR => (aN rfl (aN rfl bZ))) rfl rfl UA UA rfl ?_;refine aP (i := 52) (Rows 2 3 (az NR.cells ([0, 8].map eB))) Rows.ext ?_ ?_
 ·intro ρ1 w1 hj hR;obtain ⟨A83, c83, h83, s83⟩ := hR.1;refine bf rfl ((show ρ1 80 = Value.bool _ from hR.2.1)) ?_;exact a7 rfl (aK al.out (aw h83 aW)) (Sv [0, 8] A83 2 c83 _ s83 rfl UA) (fun _ _ ⟨v, hq, hp, hb⟩ => ⟨v, hq, hb, hp⟩)
 refine aP (i := 53) (wz [1] ([0, 8].map eB)) (wz.ext) ?_ ?_
 ·intro ρ1 w1 hj hR;obtain ⟨A82, c82, h82, s82⟩ := hR.1;obtain ⟨A84, c84, h84, s84⟩ := hR.2.1;exact bf rfl (show ρ1 80 = Value.bool _ from hR.2.2.1) (fi rfl (sT (cs := [_, _]) aM.out kW.out (aN h82 (aN h84 bZ)) rfl) ⟨Below.refl _ _, ⟨A82, 1, c82, A84, 2, c84, [1], [0, 8].map eB⟩, rfl, rfl, rfl, ⟨s82, s84⟩⟩)
 refine aP (i := 54) (Is (.bool true)) Is.ext ?_ ?_
 ·intro ρ1 w1 hj hR;obtain ⟨g85, e85, o85⟩ := hR.2.1;refine bf rfl ((show ρ1 80 = Value.bool _ from hR.2.2.1)) ?_;exact a7 rfl (aK al.out (aw (show ρ1 81 = Value.agg (List.toArray _) from hR.1) (aw e85 aW))) (QS g g85 _ og ⟨hj.hp.aA (i := 4) rfl, hj.hp.aA (i := 3) rfl⟩ o85) (fun _ _ hq => ⟨_, hq.1, hq.2, rfl⟩)
 refine Gj ?_;refine oK ?_;refine dG (dP ?_);refine dG (yl ?_);refine Gj ?_;refine oK ?_;refine dG (fS 0 [_,_] ?_);refine a6 (i := 62) (cs := [_]) rfl (fun ρ1 w1 hj hR => (show ρ1 92 = Value.bool _ from hR.1)) bk.out aM.out (fun ρ1 w1 hj hR => (aN rfl bZ)) rfl rfl UA UA rfl ?_;refine aP (i := 63) (er [2] 4) er.ext ?_ ?_
 ·intro ρ1 w1 hj hR;obtain ⟨A94, c94, h94, s94⟩ := hR.1;refine bf rfl ((show ρ1 92 = Value.bool _ from hR.2.1)) ?_;exact a7 rfl (aK al.out (aw rfl (aw h94 aW))) (qN 4 [2] A94 1 c94 _ s94 UA rfl UA) (fun _ _ ⟨v, hq, hp, hb⟩ => ⟨v, hq, hb, hp⟩)
 refine aP (i := 64) (Is (.bool true)) Is.ext ?_ ?_
 ·intro ρ1 w1 hj hR;obtain ⟨g95, e95, o95⟩ := hR.2.1;refine bf rfl ((show ρ1 92 = Value.bool _ from hR.2.2.1)) ?_;exact a7 rfl (aK al.out (aw (show ρ1 93 = Value.agg (List.toArray _) from hR.1) (aw e95 aW))) (Pc g30 g95 _ o30 (hj.hp.aA (i := 1) rfl) o95) (fun _ _ hq => ⟨_, hq.1, hq.2, rfl⟩)
 refine Gj ?_;refine oK ?_;refine dG (dP ?_);refine dG (yl ?_);refine Gj ?_;refine oK ?_;refine a6 (i := 71) (cs := [_]) rfl (fun ρ1 w1 hj hR => (show ρ1 102 = Value.bool _ from hR.1)) bk.out aM.out (fun ρ1 w1 hj hR => (aN rfl bZ)) rfl rfl UA UA rfl ?_;refine aP (i := 72) (Rows 3 3 (az NR.cells ([1, 2, 1].map eB))) Rows.ext ?_ ?_
 ·intro ρ1 w1 hj hR;obtain ⟨A103, c103, h103, s103⟩ := hR.1;refine bf rfl ((show ρ1 102 = Value.bool _ from hR.2.1)) ?_;exact a7 rfl (aK al.out (aw h103 aW)) (Tu [2] [1, 2, 1] A103 1 c103 _ (hT.hp hj.hp) s103 (by decide +kernel)) (fun _ _ ⟨v, hq, hp, hb⟩ => ⟨v, hq, hb, hp⟩)
 refine a6 (i := 73) (cs := [_, _, _]) rfl (fun ρ1 w1 hj hR => (show ρ1 102 = Value.bool _ from hR.1)) bk.out aM.out (fun ρ1 w1 hj hR => (aN rfl (aN rfl (aN rfl bZ)))) rfl rfl UA UA rfl ?_;refine aP (i := 74) (Rows 3 3 (az NR.cells ([1, 2, 1].map eB))) Rows.ext ?_ ?_
 ·intro ρ1 w1 hj hR;obtain ⟨A105, c105, h105, s105⟩ := hR.1;refine bf rfl ((show ρ1 102 = Value.bool _ from hR.2.1)) ?_;exact a7 rfl (aK al.out (aw h105 aW)) (Sv [1, 2, 1] A105 3 c105 _ s105 rfl UA) (fun _ _ ⟨v, hq, hp, hb⟩ => ⟨v, hq, hb, hp⟩)
 refine aP (i := 75) (Is (.bool true)) Is.ext ?_ ?_
 ·intro ρ1 w1 hj hR;obtain ⟨A104, c104, h104, s104⟩ := hR.1;obtain ⟨A106, c106, h106, s106⟩ := hR.2.1;refine bf rfl ((show ρ1 102 = Value.bool _ from hR.2.2.1)) ?_;exact a7 rfl (aK al.out (aw h104 (aw h106 aW))) (jz A104 3 c104 ([1, 2, 1].map eB) A106 c106 _ s104 s106 UA) (fun _ _ hq => ⟨_, hq.1, hq.2, rfl⟩)
 refine Gj ?_;refine oK ?_;refine a6 (i := 78) (cs := [_, _]) rfl (fun ρ1 w1 hj hR => (show ρ1 109 = Value.bool _ from hR.1)) bk.out aM.out (fun ρ1 w1 hj hR => (aN rfl (aN rfl bZ))) rfl rfl UA UA rfl ?_;refine aP (i := 79) (Rows 6 3 (az NR.cells ([1, 2, 1, 1, 2, 1].map eB))) Rows.ext ?_ ?_
 ·intro ρ1 w1 hj hR;obtain ⟨A110, c110, h110, s110⟩ := hR.1;refine bf rfl ((show ρ1 109 = Value.bool _ from hR.2.1)) ?_;exact a7 rfl (aK al.out (aw h110 aW)) (Tu [1, 2] [1, 2, 1, 1, 2, 1] A110 2 c110 _ (hT.hp hj.hp) s110 (by decide +kernel)) (fun _ _ ⟨v, hq, hp, hb⟩ => ⟨v, hq, hb, hp⟩)
 refine a6 (i := 80) (cs := [_, _, _, _, _, _]) rfl (fun ρ1 w1 hj hR => (show ρ1 109 = Value.bool _ from hR.1)) bk.out aM.out (fun ρ1 w1 hj hR => (aN rfl (aN rfl (aN rfl (aN rfl (aN rfl (aN rfl bZ))))))) rfl rfl UA UA rfl ?_;refine aT ?_;intro f W hJ hV _;have hb_5 := hJ.bl;obtain ⟨v112, v111, v110, v109, v108, v107, v106, v105, v104, v103, v102, v101, v100, v99, v98, v97, v96, v95, v94, v93, v92, v91, v90, v89, v88, v87, v86, v85, v84, v83, v82, v81, v80, v79, v78, v77, v76, v75, v74, v73, v72, v71, v70, v69, v68, v67, v66, v65, v64, v63, v62, v61, v60, v59, v58, v57, v56, v55, v54, v53, v52, v51, v50, v49, v48, v47, v46, v45, v44, v43, v42, v41, v40, v39, v38, v37, v36, v35, v34, v33, v32, _⟩ := hV;obtain ⟨A32, c32, e32, f32⟩ : Rows _ _ _ (f 0) W := v32;obtain ⟨g33, e33, o33⟩ : er [1] 1 (f 1) W := v33;obtain ⟨A34, c34, e34, f34⟩ : Rows _ _ _ (f 2) W := v34;obtain ⟨A35, c35, e35, f35⟩ : Rows _ _ _ (f 3) W := v35;obtain ⟨A36, c36, e36, f36⟩ : Rows _ _ _ (f 4) W := v36;obtain ⟨A39, c39, e39, f39⟩ : Rows _ _ _ (f 7) W := v39;obtain ⟨g40, e40, o40⟩ : er [1] 1 (f 8) W := v40;obtain ⟨A41, c41, e41, f41⟩ : Rows _ _ _ (f 9) W := v41;obtain ⟨A42, c42, e42, f42⟩ : Rows _ _ _ (f 10) W := v42
 obtain ⟨A43, c43, e43, f43⟩ : Rows _ _ _ (f 11) W := v43;obtain ⟨A47, c47, e47, f47⟩ : Rows _ _ _ (f 15) W := v47;obtain ⟨g48, e48, o48⟩ : er [2] 1 (f 16) W := v48;obtain ⟨A49, c49, e49, f49⟩ : Rows _ _ _ (f 17) W := v49;obtain ⟨A50, c50, e50, f50⟩ : Rows _ _ _ (f 18) W := v50;obtain ⟨A51, c51, e51, f51⟩ : Rows _ _ _ (f 19) W := v51;obtain ⟨A55, c55, e55, f55⟩ : Rows _ _ _ (f 23) W := v55;obtain ⟨g56, e56, o56⟩ : er [0] 3 (f 24) W := v56;obtain ⟨A57, c57, e57, f57⟩ : Rows _ _ _ (f 25) W := v57;obtain ⟨A58, c58, e58, f58⟩ : Rows _ _ _ (f 26) W := v58;obtain ⟨g59, e59, o59⟩ : iQ 1 1 (bL [2]) (f 27) W := v59;obtain ⟨A60, c60, e60, f60⟩ : Rows _ _ _ (f 28) W := v60;obtain ⟨A64, c64, e64, f64⟩ : Rows _ _ _ (f 32) W := v64;obtain ⟨g65, e65, o65⟩ : er [1, 1] 1 (f 33) W := v65;obtain ⟨A66, c66, e66, f66⟩ : Rows _ _ _ (f 34) W := v66;obtain ⟨A67, c67, e67, f67⟩ : Rows _ _ _ (f 35) W := v67;obtain ⟨A68, c68, e68, f68⟩ : Rows _ _ _ (f 36) W := v68;obtain ⟨A82, c82, e82, f82⟩ : Rows _ _ _ (f 50) W := v82;obtain ⟨A83, c83, e83, f83⟩ : Rows _ _ _ (f 51) W := v83;obtain ⟨A84, c84, e84, f84⟩ : Rows _ _ _ (f 52) W := v84;obtain ⟨g85, e85, o85⟩ : wz [1] ([0, 8].map eB) (f 53) W := v85
 obtain ⟨A94, c94, e94, f94⟩ : Rows _ _ _ (f 62) W := v94;obtain ⟨g95, e95, o95⟩ : er [2] 4 (f 63) W := v95;obtain ⟨A103, c103, e103, f103⟩ : Rows _ _ _ (f 71) W := v103;obtain ⟨A104, c104, e104, f104⟩ : Rows _ _ _ (f 72) W := v104;obtain ⟨A105, c105, e105, f105⟩ : Rows _ _ _ (f 73) W := v105;obtain ⟨A106, c106, e106, f106⟩ : Rows _ _ _ (f 74) W := v106;obtain ⟨A110, c110, e110, f110⟩ : Rows _ _ _ (f 78) W := v110;obtain ⟨A111, c111, e111, f111⟩ : Rows _ _ _ (f 79) W := v111;obtain ⟨A112, c112, e112, f112⟩ : Rows _ _ _ (f 80) W := v112;replace hh := hJ.hp
 refine aY (br (ae e112 (ae e111 (ae e110 (ae v109 (ae v108 (ae v107 (ae e106 (ae e105 (ae e104 (ae e103 (ae v102 (ae v101 (ae v100 (ae v99 (ae v98 (ae v97 (ae v96 (ae e95 (ae e94 (ae v93 (ae v92 (ae v91 (ae v90 (ae v89 (ae v88 (ae v87 (ae v86 (ae e85 (ae e84 (ae e83 (ae e82 (ae v81 (ae v80 (ae v79 (ae v78 (ae v77 (ae v76 (ae v75 (ae v74 (ae v73 (ae v72 (ae v71 (ae v70 (ae v69 (ae e68 (ae e67 (ae e66 (ae e65 (ae e64 (ae v63 (ae v62 (ae v61 (ae e60 (ae e59 (ae e58 (ae e57 (ae e56 (ae e55 (ae v54 (ae v53 (ae v52 (ae e51 (ae e50 (ae e49 (ae e48 (ae e47 (ae v46 (ae v45 (ae v44 (ae e43 (ae e42 (ae e41 (ae e40 (ae e39 (ae v38 (ae v37 (ae e36 (ae e35 (ae e34 (ae e33 (ae e32 aX)))))))))))))))))))))))))))))))))))))))))))))))))))))))))))))))))))))))))))))))))) ?_;dsimp only [cg];clear e32 e33 e34 e35 e36 e39 e40 e41 e42 e43 e47 e48 e49 e50 e51 e55 e56 e57 e58 e59 e60 e64 e65 e66 e67 e68 e82 e83 e84 e85 e94 e95 e103 e104 e105 e106 e110 e111 e112 hJ;refine aG rfl rfl ?_;refine aF (l3 [1, 2, 1, 1, 2, 1] A112 6 c112 _ f112 (mD rfl) UA) al.out rfl UA ?_;rintro e_ w113 ⟨A113, c113, rfl, h2⟩;refine ⟨_, rfl, ?_⟩;replace hh := hh.ext h2.below;refine aG rfl rfl ?_
 refine bD hh (jz A111 6 c111 ([1, 2, 1, 1, 2, 1].map eB) A113 c113 _ (f111.ext h2.below) (h2.aA (i := 0) rfl) UA) rfl ?_;intro w114 hh;refine fO ?_;exact vy
theorem mi (a : NR) (w : World) :
  Calls Tryz.prog 43 #[.agg #[.bool a.neg, .string a.bA, .int .i64 a.e]] w fun r w' => r = .returned (.bool (vM a)) ∧ Below w.heap.size w w' := by
 have hh := Hp.start w;by_cases h1 : (8 : Int) < a.bA.size
 ·refine D7 ?_;refine sr ?_;refine cz hh [_,_,_] ?_;intro b1 w1 hh;refine aB (aa (sr (bH (bH ?_))));refine bG hh 0 ?_;refine bJ bk.out rfl UA ?_;refine cq (mB ?_);refine gS (gS (gS ?_));refine fO ?_;refine mB ?_;refine gS (gS (gS ?_));refine fO ?_;refine aB (aa (av ?_));refine de ?_;refine ⟨?_, hh.below⟩;unfold vM;rw [U0 (.inl h1)]
 ·by_cases h2 : a.e < -60
  ·refine D7 ?_;refine sr ?_;refine cz hh [_,_,_] ?_;intro b1 w1 hh;refine aB (aa (sr (bH (bH ?_))));refine bG hh 0 ?_;refine bJ bk.out rfl UA ?_;refine cq (mB (gT (bH (gT ?_))));refine bG hh 0 ?_;refine gT ?_;refine bh ?_;refine eV ?_;refine mB ?_;refine gS (gS (gS ?_));refine fO ?_;refine aB (aa (av ?_));refine de ?_;refine ⟨?_, hh.below⟩;unfold vM;rw [U0 (.inr (.inl h2))]
  ·by_cases h3 : 60 < a.e
   ·refine D7 ?_;refine sr ?_;refine cz hh [_,_,_] ?_;intro b1 w1 hh;refine aB (aa (sr (bH (bH ?_))));refine bG hh 0 ?_;refine bJ bk.out rfl UA ?_;refine cq (mB (gT (bH (gT ?_))));refine bG hh 0 ?_;refine gT ?_;refine bh ?_;refine eV ?_;refine mB (gT (bH (gT ?_)));refine bG hh 0 ?_;refine gT ?_;refine cq ?_;refine eV ?_;refine aB (aa (av ?_));refine de ?_;refine ⟨?_, hh.below⟩;unfold vM;rw [U0 (.inr (.inr h3))]
   ·refine D7 ?_;refine sr ?_;refine cz hh [_,_,_] ?_;intro b1 w1 hh;refine aB (aa (sr (bH (bH ?_))));refine bG hh 0 ?_;refine bJ bk.out rfl UA ?_;refine cq (mB (gT (bH (gT ?_))));refine bG hh 0 ?_;refine gT ?_;refine bh ?_;refine eV ?_;refine mB (gT (bH (gT ?_)));refine bG hh 0 ?_;refine gT ?_;refine cq ?_;refine eV ?_;refine aB (aa (av ?_));refine de ?_;refine ⟨?_, hh.below⟩;unfold vM;rw [Vf Uz]
theorem yR (v : Int) (A : Option Addr) (n c : Nat) (ts : List TR) (w : World) (hp : Sl w A n 4 (az TR.cells ts)) :
  Calls Tryz.prog 26 #[.agg #[.int .i64 v, .slice A n c]] w fun r w' => ∃ b : Bool, r = .returned (.bool b) ∧ (b = false → n ≤ 8 ∧ iu 124 ts ∧ ∀ t ∈ ts, t.m.size ≤ 20 ∧ ∀ c ∈ t.m.data.toList, c.toNat ≤ 4) ∧ Below w.heap.size w w' := by
 have hh := Hp.start w;have hln : ts.length = n := hp.bq TR.len UA;by_cases h1 : 8 < n
 ·refine aj (N := 45) (l := [.agg #[.int .i64 v, .slice A n c]]) Tryz.func26 rfl rfl (by simp) ?_;refine sr ?_;refine cz hh [_,_] ?_;intro b1 w1 hh;refine aB (aa (ah (sr (bH ?_))));refine bG hh 0 ?_;refine aJ ?_;refine cq (aa (cT (sr (aB (aa (av (aH ?_)))))));exact Ax
 ·refine aj (N := 45) (l := [.agg #[.int .i64 v, .slice A n c]]) Tryz.func26 rfl rfl (by simp) ?_;refine sr ?_;refine cz hh [_,_] ?_;intro b1 w1 hh;refine aB (aa (ah (sr (bH ?_))));refine bG hh 0 ?_;refine aJ ?_;refine cq (aa (cF (ar (ai (ah (sr (aI (aa (aq ?_)))))))));refine aR [2, 3, 4, 5, 10, 11, 12, 13, 14, 15, 16, 17, 18, 19, 20, 21, 22, 23, 24, 25, 26, 27, 28, 29, 30, 31, 32, 33, 34, 35, 36, 37, 38, 39, 40, 41, 42, 43, 44] 3
   (fun x w' => ∃ i : Nat, i ≤ n ∧ x = .int .i64 i ∧ iu 124 (ts.take i) ∧ (∀ t ∈ ts.take i, t.m.size ≤ 20 ∧ ∀ c ∈ t.m.data.toList, c.toNat ≤ 4) ∧ Hp w [.blk b1 24 [.int .i64 v, .slice A n c] (0, 0)] w')
   (fun v _ => n - (intOf v).toNat) ?_ ?_
  ·exact ⟨0, UI _, rfl, fun t ht => (nomatch ht), fun t ht => (nomatch ht), hh⟩
  ·clear hh;rintro ρ' x_ w' ⟨i, hi, rfl, hall, hsz, hh⟩;by_cases hlt : i < n
   ·obtain ⟨x, hx⟩ := ak (l := ts) (k := i) Uz;obtain ⟨ad, rfl, hr⟩ := hp.at_ Uz;have hfa := fun w1 => mi x.c w1;have hbm := di x.m;refine ah (sr (mI (bH ?_)));refine bG hh 0 ?_;refine aJ ?_;refine bh (aa (cT (ar (ai (ah (aq (sr (bH ?_))))))));refine bG hh 0 ?_;refine mI ?_;refine ct ?_;refine pe ?_;refine KQ ?_;refine aS (aa (ah (sr (bH ?_))));refine bG hh 0 ?_;refine mI ?_;refine ct ?_;refine pe ?_;refine cw (vs := [_, _, _]) aM.out rfl (((hr.ext hh.below).recAt TR.len hx).drop 1) rfl UA ?_;refine bD hh (hfa _) rfl ?_;intro w29 hh
    cases hf : vM x.c with
    | true =>
     refine mB ?_;refine gS (gS (gS ?_));refine fO ?_;exact NZ
    | false =>
     by_cases h5 : 20 < x.m.size
     ·refine mB (gT (mS (gT ?_)));refine bJ bk.out rfl UA ?_;refine gT ?_;refine cq ?_;refine eV ?_;exact NZ
     ·refine mB (gT (mS (gT ?_)));refine bJ bk.out rfl UA ?_;refine gT ?_;refine cq ?_;refine eV ?_;refine aa (cF (ar (ai (sr (aI (aa (aq ?_)))))));refine aR [2, 5, 35, 36, 37, 38, 39, 40, 41, 42, 43, 44] 5
       (fun y w' => ∃ q : Nat, q ≤ x.m.size ∧ y = .int .i64 q ∧ (∀ c ∈ x.m.data.toList.take q, c.toNat ≤ 4) ∧ Hp w [.blk b1 24 [.int .i64 v, .slice (some ad) n c] (0, 0)] w')
       (fun v _ => x.m.size - (intOf v).toNat) ?_ ?_
      ·exact JH
      ·clear hh;rintro ρ' y_ w' ⟨q, hq, rfl, hex, hh⟩;by_cases hlq : q < x.m.size
       ·obtain ⟨e, he⟩ := ak (l := x.m.data.toList) (k := q) Uz;have he8 : e.toNat < 256 := e.toNat_lt;by_cases h6 : 4 < e.toNat
        ·refine ah (sr (mI (mS ?_)));refine bJ bk.out rfl UA ?_;refine bh (aa (cT (ar (ai (ah (aq (sr (mS (mI ?_)))))))));refine ke ?_;refine cq (aa (cT (sr (aB (aa (av (cf (aH (aH (cf (cf (aH (aH (cf (aH ?_)))))))))))))));exact Ax
        ·refine ah (sr (mI (mS ?_)));refine bJ bk.out rfl UA ?_;refine bh (aa (cT (ar (ai (ah (aq (sr (mS (mI ?_)))))))));refine ke ?_;refine cq (aa (cF (ar (bE (ai (ao (mI ?_)))))));refine bo (aI (aC (ai ?_)));refine ⟨⟨q + 1, Uz, rfl, fun t ht => ?_, hh⟩, by show x.m.size - (q + 1) < x.m.size - q; omega, ?_⟩
         ·rw [ay he] at ht
          rcases Vk.1 ht with ht | ht
          ·exact hex t ht
          ·rw [U4.1 ht]; omega
         ·exact dQ
       ·rw [UQ Uz] at hex;refine ah (sr (mI (mS ?_)));refine bJ bk.out rfl UA ?_;refine bh (aa (cF (a9 (aE (aE (bC (bE (ai (ao (mI ?_))))))))));refine bo (aI (aC (ai ?_)));refine ⟨⟨i + 1, Uz, rfl, fun t ht => ?_, fun t ht => ?_, hh⟩, by show n - (i + 1) < n - i; omega, ?_⟩
        ·exact RZ
        ·rw [ay hx] at ht
         rcases Vk.1 ht with ht | ht
         ·exact hsz t ht
         ·rw [U4.1 ht]; exact ⟨Uz, hex⟩
        ·exact dQ
   ·rw [UQ Uz] at hall hsz;refine ah (sr (mI (bH ?_)));refine bG hh 0 ?_;refine aJ ?_;refine AQ ?_;refine de ?_;exact ⟨_, rfl, fun _ => ⟨Uz, hall, hsz⟩, hh.below⟩
theorem Bt (A : Option Addr) (n c : Nat) (xs : List NR) (B : Option Addr) (m d : Nat) (b : List SR) (w : World) (hS : Sl w A n 3 (az NR.cells xs)) (hB : Sl w B m 6 (az SR.cells b)) :
  Calls Tryz.prog 27 #[.slice A n c, .slice B m d] w fun r w' => ∃ v : Bool, r = .returned (.bool v) ∧ (v = false → n ≤ 200 ∧ m ≤ 20 ∧ (∀ x ∈ xs, x.ok ∧ Sz 124 x.d) ∧ ∀ s ∈ b, s.fin 124) ∧ Below w.heap.size w w' := by
 have hh := Hp.start w;have hln : xs.length = n := hS.bq NR.len UA;have hlb : b.length = m := hB.bq SR.len UA;by_cases h1 : 200 < n
 ·refine IM ?_;refine sr (aB (aa (ah (sr (mL (aJ ?_))))));refine cq (mB ?_);refine gS (gS (gS ?_));refine fO ?_;refine aa (cT (sr (aB (aa (av (aH ?_))))));exact Ax
 ·by_cases h2 : 20 < m
  ·refine IM ?_;refine sr (aB (aa (ah (sr (mL (aJ ?_))))));refine wa ?_;refine cq ?_;refine eV ?_;refine aa (cT (sr (aB (aa (av (aH ?_))))));exact Ax
  ·refine IM ?_;refine sr (aB (aa (ah (sr (mL (aJ ?_))))));refine wa ?_;refine cq ?_;refine eV ?_;refine aa (cF (ar (ai (ah (sr (aI (aa (aq ?_))))))));refine aR [4, 5, 15, 16, 17, 18, 19, 20, 21, 22, 23, 24, 25] 5
    (fun x w' => ∃ i : Nat, i ≤ n ∧ x = .int .i64 i ∧ (∀ x ∈ xs.take i, x.ok ∧ Sz 124 x.d) ∧ Hp w [] w')
    (fun v _ => n - (intOf v).toNat) ?_ ?_
   ·exact JH
   ·clear hh;rintro ρ' x_ w' ⟨i, hi, rfl, hall, hh⟩;by_cases hlt : i < n
    ·obtain ⟨x, hx⟩ := ak (l := xs) (k := i) Uz;obtain ⟨ad, rfl, hr⟩ := hS.at_ Uz;have hfa := fun w1 => mi x w1;refine ah (sr (mI (mL (aJ ?_))));refine rR ?_;refine ct ?_;refine cw (vs := [_, _, _]) aM.out rfl ((hr.ext hh.below).recAt NR.len hx) rfl UA ?_;refine bD hh (hfa _) rfl ?_;intro w25 hh
     cases hf : vM x with
     | true =>
      exact Ks
     | false =>
      refine uk ?_;refine bo (aI (aC (ai ?_)));refine ⟨⟨i + 1, Uz, rfl, fun t ht => ?_, hh⟩, by show n - (i + 1) < n - i; omega, ?_⟩
      ·exact RZ
      ·exact dQ
    ·rw [UQ Uz] at hall;refine ah (sr (mI (mL (aJ ?_))));refine bh (aa (cF (a9 (aE (aE (bC (ai (ah (sr (aI (aa (aq ?_))))))))))));refine aR [4, 6, 26, 27, 28, 29, 30, 31, 32, 33, 34, 35, 36, 37, 38, 39, 40, 41, 42, 43, 44, 45] 6
      (fun x w' => ∃ i : Nat, i ≤ m ∧ x = .int .i64 i ∧ (∀ s ∈ b.take i, s.fin 124) ∧ Hp w [] w')
      (fun v _ => m - (intOf v).toNat) ?_ ?_
     ·exact JH
     ·clear hh;rintro ρ' x_ w' ⟨j, hj, rfl, hbx, hh⟩;by_cases hlt2 : j < m
      ·obtain ⟨s, hs⟩ := ak (l := b) (k := j) Uz;obtain ⟨ad, rfl, hr⟩ := hB.at_ Uz;have hf1 := fun w1 => mi s.lo w1;have hf2 := fun w1 => mi s.hi w1;refine ah (sr (mI (mL (aJ ?_))));refine rR ?_;refine qw ?_;refine pe ?_;refine cw (vs := [_, _, _]) aM.out rfl (((((hr.ext hh.below).recAt SR.len hs).drop 0).take 3)) rfl UA ?_
       cases hg1 : vM s.lo with
       | true =>
        rw [hg1] at hf1;refine bD hh (hf1 _) rfl ?_;intro w37 hh;refine mB ?_;refine gS (gS (gS (gS ?_)));refine jK ?_;refine jK ?_;refine fO ?_;exact Ks
       | false =>
        rw [hg1] at hf1;refine bD hh (hf1 _) rfl ?_;intro w37 hh;refine mB (gT (mL (gT (mI (gT ?_)))));refine qw ?_;refine gT ?_;refine pe ?_;refine aG rfl rfl ?_;refine cw (vs := [_, _, _]) aM.out rfl (((((hr.ext hh.below).recAt SR.len hs).drop 3).take 3)) rfl UA ?_
        cases hg2 : vM s.hi with
        | true =>
         rw [hg2] at hf2;refine aG rfl rfl ?_;refine bD hh (hf2 _) rfl ?_;intro w44 hh;refine eV ?_;exact Ks
        | false =>
         rw [hg2] at hf2;refine aG rfl rfl ?_;refine bD hh (hf2 _) rfl ?_;intro w44 hh;refine eV ?_;refine uk ?_;refine bo (aI (aC (ai ?_)));refine ⟨⟨j + 1, Uz, rfl, fun t ht => ?_, hh⟩, by show m - (j + 1) < m - j; omega, ?_⟩
         ·rw [ay hs] at ht
          rcases Vk.1 ht with ht | ht
          ·exact hbx t ht
          ·rw [U4.1 ht];obtain ⟨a1, a2⟩ := PF hg1;obtain ⟨a3, a4⟩ := PF hg2;exact ⟨⟨a1, a2⟩, ⟨a3, a4⟩⟩
         ·exact dQ
      ·rw [UQ Uz] at hbx;refine ah (sr (mI (mL (aJ ?_))));refine AQ ?_;refine de ?_;exact ⟨_, rfl, fun _ => ⟨Uz, Uz, hall, hbx⟩, hh.below⟩
variable {N c : Nat} {ds : List Nat} {l ts : List TR}
theorem uW : ∀ (N : Nat) (l : List Nat), l.Nodup → (∀ x ∈ l, x < N) → l.length ≤ N
 | 0, l, _, h => by
  cases l with
  | nil => exact UH _
  | cons x l => exact absurd (h x UR) Uz
 | N + 1, l, hd, h => by
  by_cases hm : N ∈ l
  ·have h1 := uW N (l.erase N) (hd.erase N) fun x hx => by
    have := (hd.mem_erase_iff).1 hx;have := h x this.2;omega
   rw [List.length_erase_of_mem hm] at h1;omega
  ·have := uW N l hd fun x hx => by
    have := h x hx;have : x ≠ N := fun e => hm (e ▸ hx);omega
   omega
theorem L4 (hr : td l) (h : ∀ t ∈ l, jD ds (cv t.m)) : l.length ≤ au ds := by
 have h1 := uW (au ds) (l.map fun t => eW ds (cv t.m)) (by
  unfold List.Nodup;rw [List.pairwise_map];refine List.Pairwise.imp_of_mem (fun {a b} ha hb hl e => ?_) hr;have e2 : cv a.m = cv b.m := by rw [← iB (h a ha), e, iB (h b hb)]
  rw [zV e2, gZ] at hl
  cases hl) (fun x hx => by
  obtain ⟨t, ht, rfl⟩ := UY.1 hx;exact kG (h t ht))
 rwa [US] at h1
theorem Qa {v : Nat} {B : Nat → Nat} (hs : ∀ t ∈ l, t.m.size = v) (h : lK B l) : ∀ t ∈ l, jD ((List.range v).map B) (cv t.m) := fun t ht => by
 rw [km];refine ⟨by rw [mQ, hs t ht, US, WK], fun i d r hd hr => ?_⟩;have hi := (UW.1 hd).1;rw [US, WK] at hi;rw [UO, Vq hi] at hd;have := h t ht i;rw [xI, hr] at this;rw [← Vl hd];exact this
theorem px {v : Nat} {B : Nat → Nat} (h : fh (v : Int) ts = 0) (hb : lK B ts) : ts.length ≤ au ((List.range v).map B) := by
 obtain ⟨_, _, h3, h4⟩ := cd h;refine L4 h4.sv (Qa (fun t ht => ?_) hb);have := h3 t ht;unfold dY at this;rw [UX, U2] at this;omega
theorem wk {v : Int} {q p : List TR} {sub : List TR → Int × List TR} {j D K T B c N : Nat} (hv : iw v = true) (hq : iZ v K q) (hT : q.length ≤ T) (hD : ∀ t ∈ p, eU j t ≤ D) (hb : ∀ n, (sub (bm p j n)).1 = 0 → iZ v B (sub (bm p j n)).2 ∧ (sub (bm p j n)).2.length ≤ N)
  (hN : ∀ i, i ≤ 128 → (bu q sub p j i).1 = 0 → (bu q sub p j i).2.length ≤ N) (hc : K + N * T + (N * T + N) ≤ c) (hS : B + D * c + N ≤ 500000) (hc2 : c ≤ 100000) (hN4 : N ≤ 4096) :
  ∀ i, i ≤ 128 → (bu q sub p j i).1 = 0 → iZ v (B + (i + D - 128) * c + N) (bu q sub p j i).2
 | 0, _, _ => iZ.nil hv
 | i + 1, hi, h0 => by
  by_cases h1 : i + 1 + D ≤ 127
  ·rw [g7 hD _ h1];exact iZ.nil hv
  ·have h2 : (bu q sub p j i).1 = 0 := by
    refine Wz fun c => ?_;rw [jT c (Nat.le_succ i)] at h0;exact c h0
   have hle : (i + 1 + D - 128) * c ≤ D * c := VG _ Uz;have ih := wk hv hq hT hD hb hN hc hS hc2 hN4 i Uz h2;have hNi := hN i Uz h2;have hst : i + D ≤ 127 → bu q sub p j i = (0, []) := g7 hD i;have hmul : ¬ i + D ≤ 127 → (i + 1 + D - 128) * c = (i + D - 128) * c + c := fun h => by rw [show i + 1 + D - 128 = (i + D - 128) + 1 by omega, VO]
   have hle0 : (i + D - 128) * c ≤ (i + 1 + D - 128) * c := VG _ Uz;rw [jc] at h0 ⊢;unfold ic at h0 ⊢;rw [UE (fun h => h h2)] at h0 ⊢;by_cases c1 : (bu q sub p j i).2.length = 0 ∧ (bm p j (127 - i)).length = 0
   ·rw [UF c1];exact ih.mono Uz
   ·rw [UE c1] at h0 ⊢;by_cases c2 : fm (bu q sub p j i).2 q ≠ 0
    ·rw [UF c2] at h0; exact absurd h0 c2
    ·rw [UE c2] at h0 ⊢;by_cases c3 : (sub (bm p j (127 - i))).1 ≠ 0
     ·rw [UF c3] at h0; exact absurd h0 c3
     ·rw [UE c3] at h0 ⊢;by_cases c4 : gh (aD (cj (bu q sub p j i).2 q) ++ (sub (bm p j (127 - i))).2) ≠ 0
      ·rw [UF c4] at h0; exact absurd h0 c4
      ·rw [UE c4];obtain ⟨hs1, hs2⟩ := hb (127 - i) Uz;obtain ⟨f1, f2, f3, f4⟩ := cd ih.e;obtain ⟨g1, g2, g3, g4⟩ := cd hs1.e;by_cases hlow : i + D ≤ 127
       ·rw [hst hlow];have hl : (aD (cj [] q) ++ (sub (bm p j (127 - i))).2).length ≤ N := hs2;refine (je (k := B) (n := N) hv (fun t ht => g3 t ht) (fun t ht => hs1.ok t ht) (fun t ht => hs1.sz t ht) hl Uz Uz).mono Uz
       ·have ht := (kr (p := (bu q sub p j i).2) (q := q) Uz);have hpl : (cj (bu q sub p j i).2 q).length ≤ N * T := by rw [jR]; exact V3 hNi hT
        have hm := hmul hlow;rw [hm] at hle ⊢;generalize (i + D - 128) * c = y at *;generalize D * c = z at *;have hpo := pV ih.ok hq.ok Uz;have hg1 := iU (k := B + y + N + K) (j := B + y + N + K + N * T) hpo Uz Uz;have hg2 := bM (cj (bu q sub p j i).2 q);have hmm : ∀ {P : TR → Prop}, (∀ t ∈ aD (cj (bu q sub p j i).2 q), P t) → (∀ t ∈ (sub (bm p j (127 - i))).2, P t) → ∀ t ∈ aD (cj (bu q sub p j i).2 q) ++ (sub (bm p j (127 - i))).2, P t := fun a b t ht => (Vk.1 ht).elim (a t) (b t);refine ⟨dV hv (pX Uz) (hmm (l8 (nq f3 ht.2.1)) g3), iU (k := B + y + N + K + N * T) (hmm hg1 (hs1.ok.mono Uz)) (by rw [UM]; omega) Uz, j3 (hmm (BO ih.ok hq.ok hq.sz Uz Uz).2 hs1.sz)⟩
theorem Jw {v K T : Nat} (hv : v ≤ 12) (D : Nat → Nat) (hN : au ((List.range v).map D) ≤ N) (hc : K + N * T + (N * T + N) ≤ c) (hc2 : c ≤ 100000) (hN4 : N ≤ 4096) : ∀ (qs : List (List TR)) (j : Nat) (p : List TR) (ds : List Nat) (k : Nat), (∀ (i : Nat) (q : List TR), qs[i]? = some q → iZ v K q ∧ q.length ≤ T ∧ lK (fun x => if x = j + i then 1 else 0) q) → iu k p → ds.length = qs.length → (∀ (i d : Nat), ds[i]? = some d → D (j + i) = d) → (∀ t ∈ p, ∀ i, i < qs.length → eU (j + i) t ≤ D (j + i)) → k + 1 + (ds.sum + ds.length) * c ≤ 400000 →
  (ep v qs j p).1 = 0 → iZ v (k + 1 + (ds.sum + ds.length) * c) (ep v qs j p).2 ∧ (ep v qs j p).2.length ≤ N := by
 intro qs
 induction qs with
 | nil =>
  intro j p ds k _ hok hds _ _ hB _;obtain rfl : ds = [] := W9.1 hds;have h1 : iZ v (k + 1) (ep v [] j p).2 := by
   refine qW (eu hv) ?_ Uz;exact Rb
  refine ⟨h1.mono (Nat.le_add_right _ _), U1 (px h1.e (B := fun _ => 0) (tU v _).aD) (U1 ?_ hN)⟩;have e : ∀ (f : Nat → Nat) (l : List Nat), au (l.map fun _ => 0) ≤ au (l.map f) := fun f l => by
   induction l with
   | nil => exact UH _
   | cons x l ih => exact V3 (Nat.succ_le_succ (UI _)) ih
  exact e D _
 | cons q qs ih =>
  intro j p ds k hq hok hds hdD hp hB h0
  cases ds with
  | nil => cases hds
  | cons d ds =>
   have hdj : D j = d := hdD 0 d rfl;obtain ⟨hq1, hq2, hq3⟩ := hq 0 q rfl;rw [We] at hq3;rw [List.sum_cons, U7] at hB ⊢;have hBe : (d + ds.sum + (ds.length + 1)) * c = (ds.sum + ds.length) * c + d * c + c := by rw [show d + ds.sum + (ds.length + 1) = (ds.sum + ds.length) + d + 1 by omega, WJ, WJ, Wr]
   rw [hBe] at hB ⊢;have hNc : N ≤ c := Uz;have hpw : ∀ n, ∀ t ∈ bm p j n, ∀ i, i < qs.length → eU (j + 1 + i) t ≤ D (j + 1 + i) := fun n t ht i hi => by
    exact Ra
   have hsub : ∀ n, (ep v qs (j + 1) (bm p j n)).1 = 0 → iZ v (k + 1 + (ds.sum + ds.length) * c) (ep v qs (j + 1) (bm p j n)).2 ∧ (ep v qs (j + 1) (bm p j n)).2.length ≤ N := fun n hn => by
    refine ih (j + 1) (bm p j n) ds k (fun i r hr => ?_) (fun t ht => hok t (jq t ht)) (by simpa using hds) (fun i e he => ?_) (hpw n) Uz hn
    ·have := hq (i + 1) r (by simpa using hr);rwa [show j + 1 + i = j + (i + 1) by omega]
    ·have := hdD (i + 1) e (by simpa using he);rwa [show j + 1 + i = j + (i + 1) by omega]
   have hsbn : ∀ n, (ep v qs (j + 1) (bm p j n)).1 = 0 → lK (fun x => if j + 1 ≤ x ∧ x < j + 1 + qs.length then D x else 0) (ep v qs (j + 1) (bm p j n)).2 := fun n hn => yQ qs (j + 1) (bm p j n) D (fun i r hr => by
    have := (hq (i + 1) r (by simpa using hr)).2.2;rwa [show j + 1 + i = j + (i + 1) by omega]) (hpw n) hn
   have hDp : ∀ t ∈ p, eU j t ≤ d := fun t ht => by rw [← hdj]; exact hp t ht 0 (by rw [U7]; omega)
   rw [qR] at h0 ⊢;generalize ep v qs (j + 1) = sub at hsub hsbn h0 ⊢;have hlim0 : ∀ i, i ≤ 128 → (bu q sub p j i).1 = 0 → fh (v : Int) (bu q sub p j i).2 = 0 := fun i hi hz => by
    clear h0
    induction i with
    | zero => exact (iZ.nil (k := 0) (eu hv)).e
    | succ i ihi =>
     have h2 : (bu q sub p j i).1 = 0 := by
      refine Wz fun c => ?_;rw [jT c (Nat.le_succ i)] at hz;exact c hz
     have e0 := ihi Uz h2;rw [jc] at hz ⊢;unfold ic at hz ⊢;rw [UE (fun h => h h2)] at hz ⊢;by_cases c1 : (bu q sub p j i).2.length = 0 ∧ (bm p j (127 - i)).length = 0
     ·rw [UF c1]; exact e0
     ·rw [UE c1] at hz ⊢;by_cases c2 : fm (bu q sub p j i).2 q ≠ 0
      ·rw [UF c2] at hz; exact absurd hz c2
      ·rw [UE c2] at hz ⊢;by_cases c3 : (sub (bm p j (127 - i))).1 ≠ 0
       ·rw [UF c3] at hz; exact absurd hz c3
       ·rw [UE c3] at hz ⊢;by_cases c4 : gh (aD (cj (bu q sub p j i).2 q) ++ (sub (bm p j (127 - i))).2) ≠ 0
        ·rw [UF c4] at hz; exact absurd hz c4
        ·rw [UE c4];refine dV (eu hv) (pX Uz) fun t ht => (Vk.1 ht).elim (l8 (nq (cd e0).2.2.1 (kr Uz).2.1) t) ((cd (hsub _ Uz).1.e).2.2.1 t)
   have hbn := p6 hq3 hDp (E := fun x => if j + 1 ≤ x ∧ x < j + 1 + qs.length then D x else 0) (by rw [UE Uz]) hsbn;have hNN : ∀ i, i ≤ 128 → (bu q sub p j i).1 = 0 → (bu q sub p j i).2.length ≤ N := fun i hi hz => by
    refine U1 (px (hlim0 i hi hz) ((hbn i hi hz).mono (C := D) fun x => ?_)) hN;by_cases hx : x = j
    ·rw [UF hx, hx, hdj]; omega
    ·rw [UE hx];split
     ·exact UH _
     ·exact UI _
   have e : ∀ m, m = 128 → (bu q sub p j m).1 = 0 → iZ v (k + 1 + ((ds.sum + ds.length) * c + d * c + c)) (bu q sub p j m).2 ∧ (bu q sub p j m).2.length ≤ N := fun m hm hz => by
    have h3 := wk (eu hv) hq1 hq2 hDp hsub hNN hc Uz hc2 hN4 m Uz hz;rw [show m + d - 128 = d by omega] at h3;exact ⟨h3.mono Uz, hNN m Uz hz⟩
   exact e 128 rfl h0
variable {C k : Nat} {xs : List Dyadic}
theorem C1 {d a : Nat} (t : Dyadic) (h : a ≤ d) : sm (List.range (d + 1)) (fun r => ej d 1 1 a r * fW d r t) = t ^ a := by
 have e0 : (fun r => ej d 1 1 a r * fW d r t) = fun k => if k < a then 0 else (fun j => nD (bin (d - a) j) * fW d (j + a) t) (k - a) := funext fun k => by
  unfold ej;by_cases hk : k < a
  ·rw [UF hk, UF hk, W8]
  ·rw [UE hk, UE hk, iV, iV];show nD (bin (d - a) (k - a)) * 1 * 1 * fW d k t = nD (bin (d - a) (k - a)) * fW d (k - a + a) t;rw [Nat.sub_add_cancel Uz];grind
 have hb := NG (d - a) t (1 - t);rw [show t + (1 - t) = 1 by grind, iV] at hb;rw [e0, OU d a h fun j => nD (bin (d - a) j) * fW d (j + a) t];have e1 : ∀ j, j ∈ List.range (d - a + 1) → nD (bin (d - a) j) * fW d (j + a) t = t ^ a * (nD (bin (d - a) j) * t ^ j * (1 - t) ^ (d - a - j)) := fun j hj => by
  have := Vi.1 hj;unfold fW;rw [show d - (j + a) = d - a - j by omega, qC];grind
 rw [bg e1, iC, hb];grind
theorem Ik : ∀ (ds s : List Nat) (ts : List Dyadic), jD ds s → ts.length = ds.length → sm (List.range (au ds)) (fun p => wK 0 ds s (cU ds p) * nW ds (cU ds p) ts) = eF s ts
 | [], [], [], _, _ => by show (1 : Dyadic) * 1 + 0 = 1; grind
 | [], _ :: _, _, h, _ => by cases h
 | _ :: _, [], _, h, _ => by cases h
 | [], [], _ :: _, _, h => by cases h
 | _ :: _, _ :: _, [], _, h => by cases h
 | d :: ds, a :: s, t :: ts, h1, h2 => by
  have ih := Ik ds s ts h1.2 (by simpa using h2);rw [sO, eF, ← ih, ← C1 t h1.1, ← iC];refine bg fun q _ => ?_;rw [← kN];refine bg fun r hr => ?_;have hr2 := Vi.1 hr;rw [cU, Wa, Vh hr2, VS _ _ Uz, Vx hr2, U5, nW];show ej d 1 1 a r * wK 0 ds s (cU ds q) * _ = _;grind
theorem xh : ∀ (s : List Nat) (ts : List Dyadic) (a : Nat) (t : Dyadic), s.length = ts.length → eF (s ++ [a]) (ts ++ [t]) = eF s ts * t ^ a
 | [], [], a, t, _ => by show t ^ a * 1 = 1 * t ^ a; grind
 | [], _ :: _, _, _, h => by cases h
 | _ :: _, [], _, _, h => by cases h
 | b :: s, u :: ts, a, t, h => by
  show u ^ b * eF (s ++ [a]) (ts ++ [t]) = u ^ b * eF s ts * t ^ a;rw [xh s ts a t (by simpa using h)];grind
theorem Bo : ∀ (s : List Nat) (ts : List Dyadic), s.length = ts.length → eF s.reverse ts.reverse = eF s ts
 | [], [], _ => rfl
 | [], _ :: _, h => by cases h
 | _ :: _, [], h => by cases h
 | b :: s, u :: ts, h => by
  rw [Xg, Xg, xh _ _ _ _ (by simpa using h), Bo s ts (by simpa using h), eF];grind
theorem QG {ns : List Nat} {S : List TR} {ts : List Dyadic} (hS : ∀ t ∈ S, jD ns.reverse (cv t.m).reverse) (ht : ts.length = ns.length) : gB ns.reverse (qb ns S) ts = kQ ts.reverse S := by
 unfold gB;have e1 : sm (List.range (au ns.reverse)) (fun p => ((qb ns S)[p]?).getD 0 * nW ns.reverse (cU ns.reverse p) ts) = sm (List.range (au ns.reverse)) fun p => sm S fun t => t.c.d * (wK 0 ns.reverse (cv t.m).reverse (cU ns.reverse p) * nW ns.reverse (cU ns.reverse p) ts) := bg fun p hp => by
  unfold qb;rw [UO, Vq (Vi.1 hp)];show wS _ S * _ = _;rw [tK, ← kN];exact bg fun t _ => by grind
 rw [e1, nN];unfold kQ;rw [tK];refine bg fun t h => ?_;rw [iC, Ik _ _ _ (hS t h) (by rw [Vn]; exact ht)];have hl := nx (hS t h);rw [Vn, Vn] at hl;have := Bo (cv t.m).reverse ts (by rw [Vn, hl, ht]);rw [XG] at this;rw [this]
theorem EF (f : ByteArray → Dyadic) (c : Dyadic) (l : List TR) : wS f (l.map (j4 c)) = wS f l * c := by
 induction l with
 | nil => exact (W8 _).symm
 | cons t l ih =>
  rw [U9, wS, wS, ih];show (nR (t.c.d * c)).d * f t.m + _ = _;rw [bY];grind
theorem zl : ∀ (v i : Nat) (xs : List Dyadic), xs.length = v → i < v → eF (((List.replicate v 0).set i 1)) xs = (xs[i]?).getD 0
 | 0, _, _, _, h => absurd h (Nat.not_lt_zero _)
 | v + 1, i, [], h, _ => by cases h
 | v + 1, 0, x :: xs, h, _ => by
  show x ^ 1 * eF (List.replicate v 0) xs = x;rw [ni];grind
 | v + 1, i + 1, x :: xs, h, hi => by
  show x ^ 0 * eF ((List.replicate v 0).set i 1) xs = (xs[i]?).getD 0;rw [zl v i xs (by simpa using h) Uz, W4];grind
theorem IU (v i : Nat) : cv (kR v i) = (List.replicate v 0).set i 1 := by
 unfold cv kR;show ((((List.replicate (v : Int).toNat (0 : UInt8)).set i 1).toArray).toList).map UInt8.toNat = _;rw [List.toList_toArray, WT, List.map_replicate]
 rfl
theorem Gt (v : Nat) : cv (dZ v) = List.replicate v 0 := by
 unfold cv dZ;show (((List.replicate (v : Int).toNat (0 : UInt8)).toArray).toList).map UInt8.toNat = _;rw [List.toList_toArray, List.map_replicate]
 rfl
theorem Iq {v i : Nat} {s : SR} (hx : xs.length = v) (hi : i < v) : kQ xs (g8 v i s) = s.L + (s.H - s.L) * (xs[i]?).getD 0 := by
 unfold g8 k9 th m9;rw [fY, tP, fY, fY];have e1 : kQ xs [⟨dZ v, nR s.L⟩] = s.L := by
  show (nR s.L).d * eF (cv (dZ v)) xs + 0 = _;rw [bY, Gt, ni];grind
 have e2 : kQ xs ((aD [⟨kR v i, nR ((1 : Int) : Dyadic)⟩]).map (j4 (s.H - s.L))) = (xs[i]?).getD 0 * (s.H - s.L) := by
  unfold kQ;rw [EF, rp];show ((nR ((1 : Int) : Dyadic)).d * eF (cv (kR v i)) xs + 0) * _ = _;rw [bY, IU, zl v i xs hx hi, show (((1 : Int) : Dyadic)) = 1 from rfl];grind
 rw [e1, e2];grind
def EC (b : List SR) (xs : List Dyadic) : List Dyadic := b.mapIdx fun i s => s.L + (s.H - s.L) * (xs[i]?).getD 0
theorem F8 {b : List SR} (hx : xs.length = b.length) : (bj b).map (fun g => kQ xs g.ts) = EC b xs := by
 refine VU fun i => ?_;unfold EC;rw [UO, Xx]
 cases hs : b[i]? with
 | none =>
  rw [Vd (by rw [iY]; exact List.getElem?_eq_none_iff.1 hs)]
  rfl
 | some s =>
  rw [fK hs];show some (kQ xs (g8 b.length i s)) = some _;rw [Iq hx (UW.1 hs).1]
theorem L8 {p : PX} {b : List SR} (h0 : (cV p (bj b)).1 = 0) (hx : xs.length = b.length) : kQ xs (cV p (bj b)).2 = kQ (EC b xs) p.ts := by
 rw [Pm h0, F8 hx]
theorem Hu {p : PX} {b : List SR} {ns : List Nat} {s : Nat} (h : oN p b ns) (ho : iu k p.ts) (hb : ∀ z ∈ b, z.fin k) (hk : k ≤ 1000) (hN : au (cS p.v p.ts) ≤ N) (hN2 : N ≤ 1000) (hs : (cS p.v p.ts).sum ≤ s) (hB : k + 1 + (s + 12) * (k + k + 10 + 5 * N) ≤ 400000) (h0 : (cV p (bj b)).1 = 0) :
  iZ b.length (k + 1 + (s + 12) * (k + k + 10 + 5 * N)) (cV p (bj b)).2 ∧ (cV p (bj b)).2.length ≤ N := by
 have hl := h.l9;have hpos := h.pos;have hln := iY b;obtain ⟨_, o2, o3⟩ := jI h.e;have hol := h.kD;have hhv : eZ (bj b) = b.length := by
  obtain ⟨z, hz⟩ := ak (l := b) (k := 0) Uz;rw [kg (fK hz)]
 unfold cV at h0 ⊢;rw [UE (fun c => c h.e), UE (by rw [hln, h.v]; exact fun c => c rfl)] at h0 ⊢;by_cases hlk : (bj b).length ≠ 0 ∧ fk (bj b) ≠ 0
 ·rw [UF hlk] at h0; exact absurd h0 hlk.2
 ·rw [UE hlk, hhv] at h0 ⊢;have hD : (List.range b.length).map (fun i => ((cS p.v p.ts)[i]?).getD 0) = cS p.v p.ts := by
   refine VU fun i => ?_;rw [UO];by_cases hi : i < b.length
   ·obtain ⟨d, hd⟩ := ak (l := cS p.v p.ts) (k := i) Uz;rw [Vq hi, hd];show some (((cS p.v p.ts)[i]?).getD 0) = some d;rw [hd]
    rfl
   ·exact NT
  have hsl : ((cS p.v p.ts).sum + (cS p.v p.ts).length) * (k + k + 10 + 5 * N) ≤ (s + 12) * (k + k + 10 + 5 * N) := VG _ Uz;have h1 := Jw (K := k + k + 10) (T := 2) (c := k + k + 10 + 5 * N) (N := N) hl (fun i => ((cS p.v p.ts)[i]?).getD 0) (by rw [hD]; exact hN) Uz Uz Uz ((bj b).map PX.ts) 0 p.ts (cS p.v p.ts) k (fun i q hq => ?_) ho (by rw [US, hln, hol]) (fun i d hd => by rw [U5, hd]; rfl) (fun t ht i hi => ?_) Uz h0
  ·exact ⟨h1.1.mono Uz, h1.2⟩
  ·rw [UO] at hq;obtain ⟨g, hg, rfl⟩ := Wc.1 hq;obtain ⟨z, hz⟩ := ak (l := b) (k := i) (by have := (UW.1 hg).1; rwa [hln] at this);rw [fK hz] at hg;rw [← Vl hg, U5];obtain ⟨a1, a2⟩ := lf (v := b.length) (i := i) hl (hb z (UJ hz)) Uz;exact ⟨a1, a2, qH _ i z⟩
  ·rw [US, hln] at hi;rw [U5];obtain ⟨d, hd⟩ := ak (l := cS p.v p.ts) (k := i) Uz;rw [hd];exact (o3 i d hd).2.1 t ht
theorem EY : ∀ (ds : List Nat), (∀ d ∈ ds, d ≤ 5) → 2 ^ ds.sum ≤ au ds * au ds
 | [], _ => UH _
 | d :: ds, h => by
  have h1 := EY ds fun x hx => h x (UT _ hx);have h2 := h d UR;have h3 : 2 ^ d ≤ (d + 1) * (d + 1) := by
   match d, h2 with
   | 0, _ => decide
   | 1, _ => decide
   | 2, _ => decide
   | 3, _ => decide
   | 4, _ => decide
   | 5, _ => decide
  rw [List.sum_cons, U8, au];have := V3 h3 h1
  calc 2 ^ d * 2 ^ ds.sum ≤ (d + 1) * (d + 1) * (au ds * au ds) := this
   _ = (d + 1) * au ds * ((d + 1) * au ds) := by rw [Nat.mul_mul_mul_comm]
theorem HR {s : Nat} (h : ∀ d ∈ ds, d ≤ 5) (hc : au ds ≤ C) (hs : C * C < 2 ^ (s + 1)) : ds.sum ≤ s := by
 have h1 := EY ds h;have h2 := V3 hc hc;have h3 : 2 ^ ds.sum < 2 ^ (s + 1) := Uz;have := (X9 (by decide : 1 < 2)).1 h3;omega
theorem qB (c k : Nat) : ∀ ds : List Nat, ff c ds k = k + ds.sum * c + ds.length * 8192
 | [] => by rw [qZ]; simp
 | d :: ds => by
  rw [oJ, qB c k ds, List.sum_cons, U7, WJ, VO];omega
theorem OT {ns : List Nat} {S : List TR} (hS : ∀ t ∈ S, jD ns.reverse (cv t.m).reverse) (hk : iu k S) (hd : ∀ d ∈ ns, d ≤ 127) : ∀ x ∈ qb ns S, Sz (k + S.length + 520 * ns.length) x := by
 rw [← zO hS];exact C3 (O9 hk) (fun d h => hd d (Xb.1 h)) ns.length
theorem Gw {v : Int} {a b : TR} (ha : dY v a = true) (hb : dY v b = true) (h : ∀ i, eU i a + eU i b ≤ 127) : m8 a.m b.m = 0 := by
 unfold dY at ha hb;rw [UX, U2] at ha hb;have hl : b.m.data.toList.length = a.m.data.toList.length := by rw [← di, ← di]; omega
 unfold m8;rw [EE ha.1 hb.1 hl];rw [Vb];intro z hz;obtain ⟨i, hi⟩ := V6.1 hz;rw [List.getElem?_zipWith] at hi
 cases hx : (ints a.m.data.toList)[i]? with
 | none => rw [hx] at hi; cases hi
 | some x =>
  cases hy : (ints b.m.data.toList)[i]? with
  | none => rw [hx, hy] at hi; cases hi
  | some y =>
   rw [hx, hy] at hi;have e : x + y = z := Vl hi;unfold ints at hx hy;rw [UO] at hx hy;obtain ⟨c, hc, rfl⟩ := Wc.1 hx;obtain ⟨d, hd, rfl⟩ := Wc.1 hy;have := h i;rw [mX hc, mX hd] at this;unfold cC;rw [← e, UX, U2, U2];omega
theorem xt {v : Nat} {q p : List TR} {sub : List TR → Int × List TR} {j d N T : Nat} {E : Nat → Nat} (hv : v ≤ 12) (hq : fh v q = 0) (hqT : q.length ≤ T) (hqB : lK (fun x => if x = j then 1 else 0) q) (hD : ∀ t ∈ p, eU j t ≤ d) (hE : E j = 0) (hd : d ≤ 127) (hE2 : ∀ x, E x ≤ 127)
  (hs : ∀ n, (sub (bm p j n)).1 = 0 ∧ fh v (sub (bm p j n)).2 = 0 ∧ lK E (sub (bm p j n)).2) (hN : au ((List.range v).map fun x => if x = j then d else E x) ≤ N) (hNT : N * T + N ≤ 4096) :
  ∀ i, i ≤ 128 → (bu q sub p j i).1 = 0 ∧ fh v (bu q sub p j i).2 = 0
 | 0, _ => ⟨rfl, (iZ.nil (k := 0) (eu hv)).e⟩
 | i + 1, hi => by
  obtain ⟨h1, h2⟩ := xt hv hq hqT hqB hD hE hd hE2 hs hN hNT i Uz;have hb := p6 hqB hD hE (fun n _ => (hs n).2.2) i Uz h1;have hl : (bu q sub p j i).2.length ≤ N := U1 (px h2 (hb.mono fun x => by
   by_cases hx : x = j
   ·rw [UF hx, UF hx]; omega
   ·rw [UE hx, UE hx]; exact UH _)) hN
  have hls : ∀ n, (sub (bm p j n)).2.length ≤ N := fun n => U1 (px (hs n).2.1 ((hs n).2.2.mono fun x => by
   by_cases hx : x = j
   ·rw [UF hx, hx, hE]; exact UI _
   ·rw [UE hx]; exact UH _)) hN
  obtain ⟨f1, f2, f3, f4⟩ := cd h2;obtain ⟨q1, q2, q3, q4⟩ := cd hq;have hpl : (cj (bu q sub p j i).2 q).length ≤ N * T := by rw [jR]; exact V3 hl hqT
  have hpe : ∀ e ∈ rZ (bu q sub p j i).2 q, e = 0 := fun e he => by
   by_cases hlow : i + d ≤ 127
   ·rw [g7 hD i hlow] at he
    cases he
   ·obtain ⟨x, hx, he⟩ := WI.1 he;obtain ⟨y, hy, rfl⟩ := UY.1 he;refine Gw (f3 x hx) (q3 y hy) fun r => ?_;have a1 := hb x hx r;have a2 := hqB y hy r;have a3 := hE2 r;by_cases hr : r = j
    ·simp only [UF hr] at a1 a2; omega
    ·simp only [UE hr] at a1 a2; omega
  have htm : fm (bu q sub p j i).2 q = 0 := by
   rw [BZ (by rw [← jR]; omega) hpe, gY Uz]
  obtain ⟨s1, s2, s3⟩ := hs (127 - i);have hgl := bM (cj (bu q sub p j i).2 q);have hg : gh (aD (cj (bu q sub p j i).2 q) ++ (sub (bm p j (127 - i))).2) = 0 := gY (by rw [UM]; have := hls (127 - i); omega);rw [jc];unfold ic;rw [UE (fun c => c h1)];by_cases c1 : (bu q sub p j i).2.length = 0 ∧ (bm p j (127 - i)).length = 0
  ·rw [UF c1]; exact ⟨h1, h2⟩
  ·rw [UE c1, UE (fun c => c htm), UE (fun c => c s1), UE (fun c => c hg)];refine ⟨rfl, dV (eu hv) (pX hg) fun t ht => (Vk.1 ht).elim (l8 (nq f3 hpe) t) ((cd s2).2.2.1 t)⟩
theorem Jr {f g : Nat → Nat} (l : List Nat) (h : ∀ x, f x ≤ g x) : au (l.map f) ≤ au (l.map g) := by
 induction l with
 | nil => exact UH _
 | cons x l ih => exact V3 (Nat.succ_le_succ (h x)) ih
theorem zr {v N T : Nat} (hv : v ≤ 12) (D : Nat → Nat) (hD7 : ∀ x, D x ≤ 127) (hN : au ((List.range v).map D) ≤ N) (hNT : N * T + N ≤ 4096) : ∀ (qs : List (List TR)) (j : Nat) (p : List TR), (∀ (i : Nat) (q : List TR), qs[i]? = some q → fh v q = 0 ∧ q.length ≤ T ∧ lK (fun x => if x = j + i then 1 else 0) q) → (∀ t ∈ p, ∀ i, i < qs.length → eU (j + i) t ≤ D (j + i)) →
  (ep v qs j p).1 = 0 ∧ fh v (ep v qs j p).2 = 0
 | [], j, p, _, _ => ⟨rfl, dV (eu hv) (U1 (bM _) (by show 1 ≤ 4096; decide)) fun t ht => by
   rw [U4.1 ht];unfold dY;rw [UX, U2];exact ⟨ru v, l7 Uz⟩⟩
 | q :: qs, j, p, hq, hp => by
  obtain ⟨q1, q2, q3⟩ := hq 0 q rfl;rw [We] at q3;have hpw : ∀ n, ∀ t ∈ bm p j n, ∀ i, i < qs.length → eU (j + 1 + i) t ≤ D (j + 1 + i) := fun n t ht i hi => by
   have := hp t (jq t ht) (i + 1) (by rw [U7]; omega);rwa [show j + 1 + i = j + (i + 1) by omega]
  have hqs : ∀ (i : Nat) (r : List TR), qs[i]? = some r → fh v r = 0 ∧ r.length ≤ T ∧ lK (fun x => if x = j + 1 + i then 1 else 0) r := fun i r hr => by
   have := hq (i + 1) r (by simpa using hr);rwa [show j + 1 + i = j + (i + 1) by omega]
  have hs : ∀ n, (ep v qs (j + 1) (bm p j n)).1 = 0 ∧ fh v (ep v qs (j + 1) (bm p j n)).2 = 0 ∧ lK (fun x => if j + 1 ≤ x ∧ x < j + 1 + qs.length then D x else 0) (ep v qs (j + 1) (bm p j n)).2 := fun n => by
   obtain ⟨a1, a2⟩ := zr hv D hD7 hN hNT qs (j + 1) (bm p j n) hqs (hpw n);exact ⟨a1, a2, yQ qs (j + 1) (bm p j n) D (fun i r hr => (hqs i r hr).2.2) (hpw n) a1⟩
  rw [qR];exact xt (d := D j) (E := fun x => if j + 1 ≤ x ∧ x < j + 1 + qs.length then D x else 0) hv q1 q2 q3 (fun t ht => hp t ht 0 (by rw [U7]; omega)) (by rw [UE Uz]) (hD7 j) (fun x => by
   split
   ·exact hD7 x
   ·exact UI _) hs (U1 (Jr _ fun x => by
   by_cases hx : x = j
   ·rw [UF hx, hx]; exact UH _
   ·rw [UE hx];split
    ·exact UH _
    ·exact UI _) hN) hNT 128 (UH _)
theorem Gx {p : PX} {ls : List PX} {v T : Nat} (hv : v ≤ 12) (h0 : p.e = 0) (hpv : p.v = (ls.length : Int)) (hn : 0 < ls.length) (hl : ds.length = v) (hlv : ls.length = v) (hls : ∀ (i : Nat) (g : PX), ls[i]? = some g → g.v = (v : Int) ∧ fh v g.ts = 0 ∧ g.ts.length ≤ T ∧ lK (fun x => if x = i then 1 else 0) g.ts)
  (hd : ∀ (i d : Nat), ds[i]? = some d → d ≤ 127 ∧ ∀ t ∈ p.ts, eU i t ≤ d) (hN : au ds ≤ N) (hNT : N * T + N ≤ 4096) : (cV p ls).1 = 0 ∧ fh v (cV p ls).2 = 0 := by
 have hne : ls ≠ [] := fun e => by rw [e] at hn; exact absurd hn UA
 have hmem : ∀ g ∈ ls, g.v = (v : Int) ∧ fh v g.ts = 0 := fun g hg => by
  obtain ⟨i, hi⟩ := V6.1 hg;exact ⟨(hls i g hi).1, (hls i g hi).2.1⟩
 have hlk : fk ls = 0 := G1 (v := v) hne (fun g hg => by unfold PX.e; rw [(hmem g hg).1]; exact (hmem g hg).2) fun g hg => (hmem g hg).1;have hhv : eZ ls = v := by
  obtain ⟨g, hg⟩ := ak (l := ls) (k := 0) hn;rw [kg hg];exact (hls 0 g hg).1
 unfold cV;rw [UE (fun c => c h0), UE Uz, UE (fun c => c.2 hlk), hhv];have hDD : ∀ i, ds.getD i 0 ≤ 127 := fun i => by
  rw [VQ]
  cases h : ds[i]? with
  | none => exact UI _
  | some d => exact (hd i d h).1
 have hDm : (List.range v).map (fun i => ds.getD i 0) = ds := by
  refine VU fun i => ?_;rw [UO];by_cases hi : i < v
  ·obtain ⟨d, hdd⟩ := ak (l := ds) (k := i) Uz;rw [Vq hi, hdd];show some (ds.getD i 0) = some d;rw [VQ, hdd]
   rfl
  ·exact NT
 refine zr hv (fun i => ds.getD i 0) hDD (by rw [hDm]; exact hN) hNT (ls.map PX.ts) 0 p.ts (fun i q hq => ?_) fun t ht i hi => ?_
 ·rw [UO] at hq;obtain ⟨g, hg, rfl⟩ := Wc.1 hq;rw [U5];exact (hls i g hg).2
 ·rw [US] at hi;rw [U5];obtain ⟨d, hdd⟩ := ak (l := ds) (k := i) Uz;rw [VQ, hdd];exact (hd i d hdd).2 t ht
theorem It {p : PX} {b : List SR} {ns : List Nat} (h : oN p b ns) (hb : ∀ z ∈ b, z.fin k) (hk : k ≤ 1000) (hN : au (cS p.v p.ts) ≤ N) (hNT : N * 2 + N ≤ 4096) : (cV p (bj b)).1 = 0 := by
 have hl := h.l9;have hpos := h.pos;have hln := iY b;obtain ⟨_, o2, o3⟩ := jI h.e;have hol := h.kD;refine (Gx (v := b.length) (ds := cS p.v p.ts) (T := 2) hl h.e (by rw [hln]; exact h.v) Uz hol hln (fun i g hg => ?_) (fun i d hd => ⟨(o3 i d hd).1, (o3 i d hd).2.1⟩) hN hNT).1;obtain ⟨z, hz⟩ := ak (l := b) (k := i) (by have := (UW.1 hg).1; rwa [hln] at this);rw [fK hz] at hg;obtain ⟨a1, a2⟩ := lf (v := b.length) (i := i) hl (hb z (UJ hz)) Uz;have hx := qH b.length i z;rw [← Vl hg];exact ⟨rfl, a1.e, a2, hx⟩
theorem Hd {p : PX} {b : List SR} {ds : List Int} (h : mv p b ds = 0) : nT p b (pJ p ds) = 0 ∧ (cV p (bj b)).1 = 0 := by
 unfold mv at h;by_cases h0 : nT p b (pJ p ds) ≠ 0
 ·rw [UF h0] at h; exact absurd h h0
 ·rw [UE h0] at h; exact ⟨W5.1 h0, h⟩
theorem oT (ns : List Nat) : (bI ns).map Int.toNat = ns := wB ns
theorem Out.fe {D : List Nat} {ys : List Dyadic} {g : FX} (o : Out 0 D ys g) (h12 : D.length ≤ 12) (hlow : ∀ d ∈ D, d ≤ 127) (hy : ys.length = au D) (hm : au D ≤ 4096) : g.e = 0 ∧ g.ds = bI D ∧ g.cs = ys.map nR := by
 have e1 : g.ds = bI D := o.ds;have e2 : g.cs = ys.map nR := o.cs;refine ⟨?_, e1, e2⟩;unfold FX.e;rw [e1, e2];exact (FV.mk rfl rfl h12 hlow hy hm : FV (bI D) (ys.map nR) D ys).ok
theorem z4 {t : TR} {B : Nat} (h : ∀ c ∈ t.m.data.toList, c.toNat ≤ B) (i : Nat) : mn t.m i ≤ B := by
 unfold mn
 cases he : t.m.data.toList[i]? with
 | none => exact Int.natCast_nonneg B
 | some e => have := h e (UJ he); show ((e.toNat : Nat) : Int) ≤ B; omega
theorem JL {v : Int} {B : Nat} (h : fh v ts = 0) (hb : ∀ t ∈ ts, ∀ c ∈ t.m.data.toList, c.toNat ≤ B) : ∀ d ∈ cS v ts, d ≤ B := fun d hd => by
 obtain ⟨i, hi⟩ := V6.1 hd;have h1 := ((jI h).2.2 i d hi).2.2;have h2 := (FF (l := ts) (i := i) (B := (B : Int)) (Int.natCast_nonneg B) fun t ht => z4 (hb t ht) i).2;omega
theorem Im {v : Int} (h : fh v ts = 0) (hC : C ≤ 4096) (hc : FN (qO v ts) ≤ C) : au (cS v ts) ≤ C := by
 obtain ⟨o1, _, o3⟩ := jI h;have hlow : ∀ d ∈ cS v ts, d ≤ 127 := fun d hd => by
  obtain ⟨i, hi⟩ := V6.1 hd;exact (o3 i d hi).1
 rw [o1] at hc;unfold FN at hc;rw [UE (by rw [uY hlow]; decide)] at hc;have := Ag (cS v ts) 1 (UH _) UA;rw [Wr] at this;rw [show yh 1 (bI (cS v ts)) = yh ((1 : Nat) : Int) (bI (cS v ts)) from rfl, this] at hc;omega
structure KV (p : PX) (b : List SR) (C s : Nat) : Prop where
 n : p.ts.length ≤ 8
 ok : iu 124 p.ts
 sz : ∀ t ∈ p.ts, t.m.size ≤ 20
 ex : ∀ t ∈ p.ts, ∀ c ∈ t.m.data.toList, c.toNat ≤ 4
 box : ∀ z ∈ b, z.fin 124
 R9 : p.e = 0 → au (cS p.v p.ts) ≤ C
 NO : C * C < 2 ^ (s + 1)
theorem KV.sum {p : PX} {b : List SR} {s : Nat} (h : KV p b C s) (he : p.e = 0) : (cS p.v p.ts).sum ≤ s := HR (fun d hd => by have := JL he h.ex d hd; omega) (h.R9 he) h.NO
theorem KV.grow {p : PX} {b : List SR} {s : Nat} (h : KV p b C s) (hs : s ≤ 14) (he : p.e = 0) : ff (124 + 124 + 16394) (cS p.v p.ts) (124 + 1) ≤ 440000 := by
 have h1 := h.sum he;have h2 := (jI he).2.1;have h3 := (fP.1 (cd he).1).2;rw [qB];have h4 : (cS p.v p.ts).sum * (124 + 124 + 16394) ≤ 14 * (124 + 124 + 16394) := VG _ Uz;have h5 : (cS p.v p.ts).length * 8192 ≤ 12 * 8192 := VG _ Uz;omega
theorem KV.small {p : PX} {b : List SR} {s : Nat} {ns : List Nat} (h : KV p b C s) (hs : s ≤ 14) (hC : C ≤ 200) (hF : oN p b ns) (h0 : (cV p (bj b)).1 = 0) : (iu 40000 (cV p (bj b)).2 ∧ ∀ t ∈ (cV p (bj b)).2, jD ns.reverse (cv t.m).reverse) ∧ ∀ x ∈ qb ns (cV p (bj b)).2, Sz 47000 x := by
 obtain ⟨h1, h2⟩ := Hu hF h.ok h.box UA (U1 (h.R9 hF.e) hC) UA (U1 (h.sum hF.e) hs) UA h0;have h3 := (rk hF h.ok h.box UA (h.grow hs hF.e) h0).2;have h4 := h1.ok.mono (show 124 + 1 + (14 + 12) * (124 + 124 + 10 + 5 * 200) ≤ 40000 by decide);refine ⟨⟨h4, h3⟩, fun x hx => (OT h3 h4 hF.low x hx).mono ?_⟩;have h5 := hF.nl;have h6 := hF.l9;omega
def TZ (a : NR) : Bool := decide ((8 : Int) < a.bA.size ∨ a.e < -60 ∨ 60 < a.e)
structure Ul (ts : List TR) : Prop where
 n : ts.length ≤ 10
 ok : iu 124 ts
 sz : ∀ t ∈ ts, t.m.size ≤ 20
 ex : ∀ t ∈ ts, ∀ c ∈ t.m.data.toList, c.toNat ≤ 6
variable {n : Nat} {w : World}
structure lB (v : Int) (k n D : Nat) (ts : List TR) : Prop where
 e : fh v ts = 0
 ok : iu k ts
 sz : ∀ t ∈ ts, t.m.size ≤ 100000
 len : ts.length ≤ n
 ex : ∀ t ∈ ts, ∀ c ∈ t.m.data.toList, c.toNat ≤ D
theorem lB.at_ {v : Int} {D i : Nat} (h : lB v k n D ts) (hi : (i : Int) < v) : ∀ t ∈ ts, ∃ e, t.m.data.toList[i]? = some e := fun t ht => by
 have h1 := (cd h.e).2.2.1 t ht;unfold dY at h1;rw [UX, U2] at h1;exact ak (by rw [← di]; omega)
theorem Eb {D : Nat} (h : ∀ t ∈ l, ∀ c ∈ t.m.data.toList, c.toNat ≤ D) : ∀ t ∈ aD l, ∀ c ∈ t.m.data.toList, c.toNat ≤ D := fun t ht => by
 obtain ⟨s, hs, e⟩ := fj t ht;rw [← e];exact h s hs
theorem Bk {v : Int} {D : Nat} (i : Nat) (h : lB v k n D ts) (hk : k ≤ 50000) (hn : n ≤ 1000) : lB v (k + 24 + n) n D (aD (jx i ts)) := by
 obtain ⟨h1, h2, h3⟩ := Fh (i := i) h.e h.ok h.sz Uz;obtain ⟨m1, m2, m3⟩ := L7 h1;have hl : (jx i ts).length ≤ n := U1 (List.length_filterMap_le _ _) h.len;refine ⟨dV m1 m3 m2, iU h2 Uz Uz, j3 h3, U1 (bM _) hl, Eb fun s hs c hc => ?_⟩;obtain ⟨t, ht, hd⟩ := VF.1 hs;obtain ⟨e, he, h0, rfl⟩ := nL hd;replace hc : c ∈ (str (t.m.data.toList.set i (e - 1))).data.toList := hc;rw [cP] at hc
 rcases Yd hc with hc | rfl
 ·exact h.ex t ht c hc
 ·have h1 : (1 : UInt8) ≤ e := by rw [XW]; show 1 ≤ e.toNat; omega
  rw [XZ _ _ h1];have := h.ex t ht e (UJ he);omega
theorem lB.kO {g : PX} {v : Int} {D : Nat} (h : lB v k n D g.ts) (ha : g.at_ w) (hc : g.n ≤ g.c) (hn : n ≤ 1000) : g.kO k := ⟨by have := ha.ln; have := h.len; omega, hc, h.ok, h.sz⟩
theorem rE {v : Int} {ns : List Nat} (h : fh v ts = 0) (hl : (cS v ts).length = ns.length) (hx : ∀ (i d : Nat), ns[i]? = some d → ∀ t ∈ ts, eU i t ≤ d) : ∀ (i x y : Nat), (cS v ts)[i]? = some x → ns[i]? = some y → x ≤ y := fun i x y h1 h2 => by
 have h3 := ((jI h).2.2 i x h1).2.2;have h4 := (FF (l := ts) (i := i) (B := (y : Int)) (Int.natCast_nonneg y) fun t ht => by rw [← z6]; have := hx i y h2 t ht; omega).2;omega
theorem Qs {s : PX} {b : List SR} {ns : List Nat} (he : s.e = 0) (hbx : ko b = 0) (hv : s.v = b.length) (hnl : ns.length = b.length) (hlow : ∀ d ∈ ns, d ≤ 127) (hm : au ns ≤ 4096) (hx : ∀ (i d : Nat), ns[i]? = some d → ∀ t ∈ s.ts, eU i t ≤ d) : nT s b (bI ns) = 0 := by
 obtain ⟨o1, o2, o3⟩ := jI he;have h8 := jE ns 1 (UH _) UA hlow;rw [Wr, UF hm] at h8;replace h8 : gL 1 (bI ns) = ((au ns : Nat) : Int) := h8;have hp := cM ns;have hsh : uj (qO s.v s.ts) (bI ns) = false := by
  unfold uj;rw [Wb];intro q hq;obtain ⟨i, hi⟩ := V6.1 hq;obtain ⟨h1, h2⟩ := List.getElem?_zip_eq_some.1 hi;rw [o1] at h1;unfold bI at h1 h2;rw [UO] at h1 h2;obtain ⟨x, hx1, e1⟩ := Wc.1 h1;obtain ⟨y, hy1, e2⟩ := Wc.1 h2;have h3 := rE he Uz hx i x y hx1 hy1;have h4 := hlow y (UJ hy1);rw [U2, ← e1, ← e2];omega
 unfold nT;rw [UE (fun c => c he), UE (fun c => c hbx), UE (by rw [fR]; omega), hsh, UE UA, h8, UE Uz]
theorem QT {s : PX} {b : List SR} {ns : List Nat} (he : s.e = 0) (hbx : ko b = 0) (hpos : 0 < b.length) (hv : s.v = b.length) (hnl : ns.length = b.length) (hlow : ∀ d ∈ ns, d ≤ 127) (hm : au ns ≤ 1000) (hx : ∀ (i d : Nat), ns[i]? = some d → ∀ t ∈ s.ts, eU i t ≤ d) (hb : ∀ z ∈ b, z.fin k) (hk : k ≤ 1000) :
  mv s b (bI ns) = 0 ∧ oN s b ns ∧ (cV s (bj b)).1 = 0 := by
 have h1 := Qs he hbx hv hnl hlow Uz hx;have hF := (xS h1).2;rw [oT] at hF;have h2 := It (N := 1000) hF hb hk (U1 (nt (by rw [hF.kD, hnl]) (rE he (by rw [hF.kD, hnl]) hx)) hm) UA;have hD : pJ s (bI ns) = bI ns := UE (by rw [fR]; omega);refine ⟨?_, hF, h2⟩;unfold mv;rw [hD, UE (fun c => c h1), h2]
theorem Ly {s : PX} {ns : List Nat} (h : ns.length ≠ 0) : Lb s (bI ns) = ns := by
 unfold Lb pJ;rw [UE (by rw [fR]; exact h), oT]
theorem Hf {v : Int} (h : fh v ts = 0) (hex : ∀ t ∈ ts, ∀ c ∈ t.m.data.toList, c.toNat ≤ 4) (hc : au (cS v ts) ≤ 100) (hk : k ≤ 1000) : ff (k + k + 16394) (cS v ts) (k + 1) ≤ 440000 := by
 have h1 : (cS v ts).sum ≤ 13 := HR (fun d hd => by have := JL h hex d hd; omega) hc UA;have h2 := (jI h).2.1;have h3 := (fP.1 (cd h).1).2;rw [qB];have h4 : (cS v ts).sum * (k + k + 16394) ≤ 13 * (1000 + 1000 + 16394) := V3 h1 Uz;have h5 : (cS v ts).length * 8192 ≤ 12 * 8192 := VG _ Uz;omega
theorem KK {p : PX} {b : List SR} {ns : List Nat} {ts : List Dyadic} (hF : oN p b ns) (h0 : (cV p (bj b)).1 = 0) (h3 : ∀ t ∈ (cV p (bj b)).2, jD ns.reverse (cv t.m).reverse) (ht : ts.length = ns.length) : gB ns.reverse (qb ns (cV p (bj b)).2) ts = kQ (EC b ts.reverse) p.ts := by
 rw [QG h3 ht, L8 h0 (by rw [Vn, ht, hF.nl])]
structure GJ (p : PX) : Prop where
 n : p.ts.length ≤ 8
 ok : iu 124 p.ts
 ex : ∀ t ∈ p.ts, t.m.size ≤ 20 ∧ ∀ c ∈ t.m.data.toList, c.toNat ≤ 4
theorem GJ.I7 {p : PX} (h : GJ p) (he : p.e = 0) : lB p.v 124 8 4 p.ts := ⟨he, h.ok, fun t ht => U1 (h.ex t ht).1 UA, h.n, fun t ht => (h.ex t ht).2⟩
theorem GJ.kO {p : PX} (h : GJ p) (hp : p.at_ w) (hc : p.n ≤ p.c) : p.kO 124 := ⟨by have := hp.ln; have := h.n; omega, hc, h.ok, fun t ht => U1 (h.ex t ht).1 UA⟩
theorem oN.Mj {p : PX} {b : List SR} {ns : List Nat} (h : oN p b ns) (hc : au ns ≤ C) : au (cS p.v p.ts) ≤ C :=
 U1 (nt (by rw [h.kD, h.nl]) (rE h.e (by rw [h.kD, h.nl]) h.own)) hc
structure PJ (p : PX) (b : List SR) (ns : List Nat) : Prop where
 vl : ∀ ts : List Dyadic, ts.length = ns.length → gB ns.reverse (qb ns (cV p (bj b)).2) ts = kQ (EC b ts.reverse) p.ts
 sz : ∀ x ∈ qb ns (cV p (bj b)).2, Sz 460000 x
theorem Nm {p : PX} {b : List SR} {ns : List Nat} (hF : oN p b ns) (h0 : (cV p (bj b)).1 = 0) (ho : iu k p.ts) (hb : ∀ s ∈ b, s.fin k) (hk : k ≤ 1000) (hgr : ff (k + k + 16394) (cS p.v p.ts) (k + 1) ≤ 440000) : PJ p b ns := by
 obtain ⟨h1, h2⟩ := rk hF ho hb hk hgr h0;refine ⟨fun ts ht => KK hF h0 h2 ht, fun x hx => (OT h2 h1.ok hF.low x hx).mono ?_⟩;have h3 := (cd h1.e).2.1;have h4 := hF.nl;have h5 := hF.l9;omega
structure TV (p q s o : PX) (b : List SR) (ns : List Nat) (c : Dyadic) : Prop where
 fit : oN p b ns
 R9 : au ns ≤ 100
 es : mv s b (bI ns) = 0
 eo : mv o b (bI ns) = 0
 gs : lB s.v 140 16 4 s.ts
 go : lB o.v 125 1 0 o.ts
 ws : ff (140 + 140 + 16394) (cS s.v s.ts) (140 + 1) ≤ 440000
 wo : ff (140 + 140 + 16394) (cS o.v o.ts) (140 + 1) ≤ 440000
 sum : qb ns (cV s (bj b)).2 = Qe (qb ns (cV p (bj b)).2) (qb ns (cV q (bj b)).2)
 Uq : qb ns (cV o (bj b)).2 = ((CS ns).map nD).map fun y => c * y
 zp : ∀ x ∈ qb ns (cV p (bj b)).2, Sz 460000 x
 zq : ∀ x ∈ qb ns (cV q (bj b)).2, Sz 460000 x
theorem xP (p : PX) (L : Option Addr) (n c : Nat) (b : List SR) (w : World) (hT : eb w) (hp : p.at_ w) (hpc : p.n ≤ p.c) (hB : Sl w L n 6 (az SR.cells b)) :
  Calls Tryz.prog 49 #[.agg #[.int .i64 p.v, .slice p.A p.n p.c], .slice L n c] w fun r w' => ∃ v : Bool, r = .returned (.bool v) ∧ (v = true → n ≤ 20 ∧ KV p b 100 13) ∧ Below w.heap.size w w' := by
 have hh := Hp.start w;have hpl := hp.ln;refine aj (N := 19) (l := [.agg #[.int .i64 p.v, .slice p.A p.n p.c], .slice L n c]) Tryz.func49 rfl rfl (by simp) ?_;refine sr ?_;refine cz hh [_,_] ?_;intro b2 w2 hh;refine aB (aa (sr ?_));refine cE hh 0 [_,_] ?_;refine aF (yR p.v p.A p.n p.c p.ts _ (hp.ext hh.below)) al.out rfl UA ?_;rintro e_ w6 ⟨b1, rfl, hb1, hb_⟩;refine ⟨_, rfl, ?_⟩;replace hh := hh.ext hb_
 cases b1 with
 | true =>
  refine fy ?_;refine mB ?_;refine gS ?_;refine jK ?_;refine gS ?_;refine eV ?_;exact N4
 | false =>
  obtain ⟨p1, p2, p3⟩ := hb1 rfl;clear hb1;refine fy ?_;refine mB (gT (mL ?_));refine aG rfl rfl ?_;refine aF (Bt none 0 0 [] L n c b _ (Sl.nil _ _ _) (hB.ext hh.below)) al.out rfl UA ?_;rintro e_ w10 ⟨b1, rfl, hb1, hb_⟩;refine ⟨_, rfl, ?_⟩;replace hh := hh.ext hb_
  cases b1 with
  | true =>
   refine gT ?_;refine fy ?_;refine fO ?_;exact N4
  | false =>
   obtain ⟨_, SV, _, hb⟩ := hb1 rfl;clear hb1;have f8p : GJ p := ⟨Uz, p2, p3⟩;have lp := f8p.kO hp hpc;have hdg := fun w1 hT1 hb => mZ p 124 w1 hT1 (hp.ext hb) lp;have hgl : (qO p.v p.ts).length ≤ 1000000 := by
    exact Rn
   refine gT ?_;refine fy ?_;refine fO ?_;refine mB (gT ?_);refine cE hh 0 [_,_] ?_;refine aG rfl rfl ?_;refine aF (hdg _ (hT.hp hh) hh.below) al.out rfl UA ?_;rintro e_ w15 ⟨G, gc, rfl, h4⟩;refine ⟨_, rfl, ?_⟩;replace hh := hh.join h4;clear h4;simp only [UP, UN] at hh;refine aG rfl rfl ?_;refine bD hh (vB G (qO p.v p.ts).length gc (qO p.v p.ts) _ (hh.aA (i := 0) rfl) hgl) rfl ?_;intro w16 hh;by_cases h100 : FN (qO p.v p.ts) ≤ 100
   ·refine gT ?_;refine Qk ?_;refine fO ?_;refine aB (aa (av ?_));refine de ?_;exact ⟨_, rfl, fun _ => ⟨SV, f8p.n, f8p.ok, fun t ht => (f8p.ex t ht).1, fun t ht => (f8p.ex t ht).2, hb, fun he => Im he UA h100, UA⟩, hh.below⟩
   ·generalize FN (qO p.v p.ts) = C at *;refine gT ?_;refine Qk ?_;refine fO ?_;refine aB (aa (av ?_));exact Ax
variable {F G : Dyadic → Dyadic}
def eL (f : Dyadic → Dyadic) : Prop := ∃ l : List Dyadic, ∀ t, f t = gO l t
def z9 : List Dyadic → List Dyadic → List Dyadic
 | [], b => b
 | x :: a, [] => x :: a
 | x :: a, y :: b => (x + y) :: z9 a b
theorem ph : ∀ (a b : List Dyadic) (t : Dyadic), gO (z9 a b) t = gO a t + gO b t
 | [], b, t => by rw [z9, gO]; grind
 | x :: a, [], t => by rw [z9, gO]; grind
 | x :: a, y :: b, t => by rw [z9, gO, gO, gO, ph a b t]; grind
theorem yy (c : Dyadic) : ∀ (a : List Dyadic) (t : Dyadic), gO (a.map fun x => c * x) t = c * gO a t
 | [], t => by rw [VD, gO]; grind
 | x :: a, t => by rw [U9, gO, gO, yy c a t]; grind
def H5 : List Dyadic → List Dyadic → List Dyadic
 | [], _ => []
 | x :: a, b => z9 (b.map fun y => x * y) (0 :: H5 a b)
theorem Bx : ∀ (a b : List Dyadic) (t : Dyadic), gO (H5 a b) t = gO a t * gO b t
 | [], b, t => by rw [H5, gO]; grind
 | x :: a, b, t => by rw [H5, ph, yy, gO, gO, Bx a b t]; grind
theorem eL.const (c : Dyadic) : eL fun _ => c := ⟨[c], fun t => by simp only [gO]; grind⟩
theorem eL.id : eL fun t => t := ⟨[0, 1], fun t => by simp only [gO]; grind⟩
theorem eL.add {f g : Dyadic → Dyadic} (hf : eL f) (hg : eL g) : eL fun t => f t + g t := by
 obtain ⟨a, ha⟩ := hf;obtain ⟨b, hb⟩ := hg;exact ⟨z9 a b, fun t => by show f t + g t = _; rw [ph, ha, hb]⟩
theorem eL.mul {f g : Dyadic → Dyadic} (hf : eL f) (hg : eL g) : eL fun t => f t * g t := by
 obtain ⟨a, ha⟩ := hf;obtain ⟨b, hb⟩ := hg;exact ⟨H5 a b, fun t => by show f t * g t = _; rw [Bx, ha, hb]⟩
def D1 (F : Dyadic → Dyadic) (a b : Dyadic) : Prop := ∃ R, eL R ∧ ∀ h, F h = a + h * b + h * h * R h
theorem D1.const (c : Dyadic) : D1 (fun _ => c) c 0 := ⟨_, eL.const 0, fun h => by grind⟩
theorem D1.Tj (x w : Dyadic) : D1 (fun h => x + w * h) x w := ⟨_, eL.const 0, fun h => by grind⟩
theorem D1.add {a b c d : Dyadic} (hF : D1 F a b) (hG : D1 G c d) : D1 (fun h => F h + G h) (a + c) (b + d) := by
 obtain ⟨R, hR, eR⟩ := hF;obtain ⟨S, hS, eS⟩ := hG;exact ⟨_, hR.add hS, fun h => by show F h + G h = _; rw [eR, eS]; grind⟩
theorem D1.mul {a b c d : Dyadic} (hF : D1 F a b) (hG : D1 G c d) : D1 (fun h => F h * G h) (a * c) (a * d + b * c) := by
 obtain ⟨R, hR, eR⟩ := hF;obtain ⟨S, hS, eS⟩ := hG;refine ⟨fun h => (b * d + a * S h + R h * c) + h * (b * S h + R h * d) + h * h * (R h * S h), ?_, fun h => by show F h * G h = _; rw [eR, eS]; grind⟩;have hi := eL.id;exact ((((eL.const (b * d)).add ((eL.const a).mul hS)).add (hR.mul (eL.const c))).add (hi.mul (((eL.const b).mul hS).add (hR.mul (eL.const d))))).add ((hi.mul hi).mul (hR.mul hS))
theorem D1.of {a b c d : Dyadic} (hF : D1 F a b) (h : ∀ t, G t = F t) (h1 : c = a) (h2 : d = b) : D1 G c d := by
 obtain ⟨R, hR, eR⟩ := hF;exact ⟨R, hR, fun t => by rw [h, eR, h1, h2]⟩
theorem D1.smul {a b : Dyadic} (c : Dyadic) (hF : D1 F a b) : D1 (fun h => c * F h) (c * a) (c * b) := ((D1.const c).mul hF).of (fun _ => rfl) rfl (by grind)
theorem D1.pow {F : Dyadic → Dyadic} {a b : Dyadic} (hF : D1 F a b) : ∀ n : Nat, D1 (fun h => F h ^ n) (a ^ n) (nD n * a ^ (n - 1) * b)
 | 0 => (D1.const 1).of (fun _ => W4 _) (W4 _) (by rw [mf]; grind)
 | n + 1 => by
  refine ((D1.pow hF n).mul hF).of (fun _ => Xp _ _) (Xp _ _) ?_;show nD (n + 1) * a ^ n * b = a ^ n * b + nD n * a ^ (n - 1) * b * a;rw [tW, uM]
  cases n with
  | zero => rw [mf]; grind
  | succ n =>
   rw [Nat.add_sub_cancel, Xp];grind
theorem D1.sm {α : Type} {F : α → Dyadic → Dyadic} {a b : α → Dyadic} : ∀ (l : List α), (∀ x ∈ l, D1 (F x) (a x) (b x)) → D1 (fun t => sm l fun x => F x t) (sm l a) (sm l b)
 | [], _ => D1.const 0
 | x :: l, h => (h x UR).add (D1.sm l fun y hy => h y (UT _ hy))
theorem D1.uniq {a b c d : Dyadic} (h1 : D1 F a b) (h2 : D1 F c d) : a = c ∧ b = d := by
 obtain ⟨R, ⟨r, hr⟩, eR⟩ := h1;obtain ⟨S, ⟨s, hs⟩, eS⟩ := h2;have h3 : ∀ t, t ∉ ([] : List Dyadic) → gO ((a + -1 * c) :: (b + -1 * d) :: z9 r (s.map fun x => -1 * x)) t = 0 := fun t _ => by
  simp only [gO];rw [ph, yy, ← hr, ← hs];have e1 := eR t;have e2 := eS t;grind
 have h4 := uz _ _ [] (UH _) h3;have h5 := h4 (a + -1 * c) UR;have h6 := h4 (b + -1 * d) (UT _ UR);constructor <;> grind
variable {α β : Type}
theorem KH {l : List α} {f g : α → List β} (h : ∀ a ∈ l, f a = g a) : l.flatMap f = l.flatMap g := by
 rw [List.flatMap_def, List.flatMap_def, Ws h]
theorem nO (m n : Nat) : List.range (m * n) = (List.range n).flatMap fun q => (List.range m).map fun r => r + m * q := by
 induction n with
 | zero => rfl
 | succ n ih =>
  rw [Wf, List.range_add, ih, Wy, Xu, List.flatMap_singleton];congr 1;exact Ws fun r _ => Wx _ _
def Sg (A B : List Nat) (d t : Nat) : List Nat := (List.range (au B)).flatMap fun q => (List.range (au A)).map fun f => cG A d f t q
def TK (A B : List Nat) (d t : Nat) (xs : List Dyadic) : List Dyadic := (Sg A B d t).map fun p => (xs[p]?).getD 0
variable {X ta tb : List Dyadic}
theorem HT : ∀ (ds : List Nat) (F G : List Nat → Dyadic), sR ds (fun row => F row + G row) = sR ds F + sR ds G
 | [], _, _ => rfl
 | d :: ds, F, G => by
  rw [sR, sR, sR, ← oP];exact bg fun r _ => HT ds _ _
theorem AD : ∀ (A : List Nat) (d : Nat) (B : List Nat) (F : List Nat → Dyadic), sR (A ++ d :: B) F = sm (List.range (d + 1)) fun r => sR (A ++ B) fun row => F (row.take A.length ++ r :: row.drop A.length)
 | [], d, B, F => by
  rw [UN, UN, sR];refine bg fun r _ => mC fun row _ => ?_;simp
 | e :: A, d, B, F => by
  rw [UP, UP, sR, bg fun x _ => AD A d B fun row => F (x :: row), nN];refine bg fun r _ => ?_;rw [sR];refine bg fun x _ => mC fun row _ => ?_;simp
theorem uS : ∀ {A ra : List Nat} {ta : List Dyadic} (d r : Nat) (t : Dyadic) (B rb : List Nat) (tb : List Dyadic), ra.length = A.length → ta.length = A.length → nW (A ++ d :: B) (ra ++ r :: rb) (ta ++ t :: tb) = nW (A ++ B) (ra ++ rb) (ta ++ tb) * fW d r t
 | [], [], [], d, r, t, B, rb, tb, _, _ => by
  show fW d r t * nW B rb tb = nW B rb tb * fW d r t;grind
 | [], _ :: _, _, _, _, _, _, _, _, h, _ => by cases h
 | [], [], _ :: _, _, _, _, _, _, _, _, h => by cases h
 | _ :: _, [], _, _, _, _, _, _, _, h, _ => by cases h
 | _ :: _, _ :: _, [], _, _, _, _, _, _, _, h => by cases h
 | a :: A, x :: ra, u :: ta, d, r, t, B, rb, tb, h1, h2 => by
  show fW a x u * nW (A ++ d :: B) (ra ++ r :: rb) (ta ++ t :: tb) = fW a x u * nW (A ++ B) (ra ++ rb) (ta ++ tb) * fW d r t;rw [uS d r t B rb tb (by simpa using h1) (by simpa using h2)];grind
def Cz (A : List Nat) (d : Nat) (B : List Nat) (X : List Dyadic) (ta tb : List Dyadic) (r : Nat) : Dyadic := sR (A ++ B) fun row => co (A ++ d :: B) X (row.take A.length ++ r :: row.drop A.length) * nW (A ++ B) row (ta ++ tb)
theorem qG {A : List Nat} {d : Nat} {B : List Nat} {t : Dyadic} (ha : ta.length = A.length) : gB (A ++ d :: B) X (ta ++ t :: tb) = sm (List.range (d + 1)) fun r => Cz A d B X ta tb r * fW d r t := by
 rw [ML, AD];refine bg fun r _ => ?_;unfold Cz;rw [← uP];refine mC fun row hr => ?_;have hl := nx hr;rw [UM] at hl;rw [uS d r t B _ tb (by rw [U6]; omega) ha, VA];grind
theorem FB : ∀ {A : List Nat} {d r : Nat} {B row : List Nat}, jD (A ++ B) row → r ≤ d → jD (A ++ d :: B) (row.take A.length ++ r :: row.drop A.length)
 | [], d, r, B, row, h, hr => by simpa using ⟨hr, h⟩
 | a :: A, d, r, B, [], h, hr => by cases h
 | a :: A, d, r, B, x :: row, h, hr => ⟨h.1, by simpa using FB (A := A) h.2 hr⟩
theorem Lx {A B row : List Nat} {d r : Nat} (hl : A.length ≤ row.length) : eW (A ++ d :: B) (row.take A.length ++ r :: row.drop A.length) = cG A d (eW A (row.take A.length)) r (eW B (row.drop A.length)) := by
 rw [sj (by rw [U6]; omega)]
 rfl
theorem tu : ∀ {A B ra rb : List Nat}, ra.length = A.length → (jD (A ++ B) (ra ++ rb) ↔ jD A ra ∧ jD B rb)
 | [], B, [], rb, _ => by simp [jD]
 | [], _, _ :: _, _, h => by cases h
 | _ :: _, _, [], _, h => by cases h
 | a :: A, B, x :: ra, rb, h => by
  show x ≤ a ∧ jD (A ++ B) (ra ++ rb) ↔ (x ≤ a ∧ jD A ra) ∧ jD B rb;rw [tu (by simpa using h), and_assoc]
theorem Hn {A B row : List Nat} (h : jD (A ++ B) row) : jD A (row.take A.length) ∧ jD B (row.drop A.length) := by
 have hl := nx h;rw [UM] at hl;refine (tu (by rw [U6]; omega)).1 ?_;rw [VA];exact h
theorem Dv {A B row : List Nat} {d r : Nat} (h : jD (A ++ B) row) (hr : r ≤ d) : co (A ++ d :: B) X (row.take A.length ++ r :: row.drop A.length) = (X[cG A d (eW A (row.take A.length)) r (eW B (row.drop A.length))]?).getD 0 := by
 have hl := nx h;rw [UM] at hl;rw [BF (FB h hr), Lx Uz]
def Q7 : List Nat → List Nat → List Nat
 | [], _ => []
 | _ :: _, [] => []
 | d :: ds, k :: ks => d * k :: Q7 ds ks
variable {q : Nat}
theorem pG (A B : List Nat) (e : Nat) : (List.range (au (A ++ (e + 1) :: B))).filter (mz (au A) (e + 1)) = (List.range (au (A ++ e :: B))).map fun p => cG A (e + 1) (p % au A) (p / au A % (e + 1)) (p / au A / (e + 1)) := by
 have hA := cM A;rw [du, au, nO, List.filter_flatMap];have e1 : ∀ x, ((List.range (au A)).map fun f => f + au A * x).filter (mz (au A) (e + 1)) = if x % (e + 1 + 1) < e + 1 then (List.range (au A)).map fun f => f + au A * x else [] := fun x => by
  by_cases h : x % (e + 1 + 1) < e + 1
  ·rw [UF h];refine List.filter_eq_self.2 fun p hp => ?_;obtain ⟨f, hf, rfl⟩ := UY.1 hp;have hf := Vi.1 hf;unfold mz;rw [VS _ _ hA, Vx hf, U5, U0 h]
  ·rw [UE h];refine X6.2 fun p hp => ?_;obtain ⟨f, hf, rfl⟩ := UY.1 hp;have hf := Vi.1 hf;unfold mz;rw [VS _ _ hA, Vx hf, U5, decide_eq_true_iff];exact h
 simp only [e1];rw [nO, List.flatMap_assoc, du, au, nO, List.map_flatMap, nO, List.flatMap_assoc];congr 1;funext q;rw [List.flatMap_map, List.flatMap_map, Wy, Xu, List.flatMap_singleton, Wa, Vh (Nat.lt_succ_self _), UE (Nat.lt_irrefl _), Vo];refine KH fun k hk => ?_;have hk := Vi.1 hk;rw [Wa, Vh Uz, UF hk, VE];refine Ws fun f hf => ?_;have hf := Vi.1 hf;show f + au A * (k + (e + 1 + 1) * q) = cG A (e + 1) ((f + au A * (k + (e + 1) * q)) % au A) ((f + au A * (k + (e + 1) * q)) / au A % (e + 1)) ((f + au A * (k + (e + 1) * q)) / au A / (e + 1));rw [Wa, Vh hf, VS _ _ hA, Vx hf, U5, Wa, Vh hk, VS _ _ Uz, Vx hk, U5]
 rfl
def BQ (A : List Nat) (e : Nat) (X : List Dyadic) : List Dyadic := mO (mz (au A) (e + 1)) (iT A (e + 1) (e + 1) (qf (e + 1)) X X.length 0) X.length
theorem Kk {A B : List Nat} {e : Nat} (hX : X.length = au (A ++ (e + 1) :: B)) : (BQ A e X).length = au (A ++ e :: B) := by
 unfold BQ mO;rw [US, hX, pG, US, WK]
theorem LS {A B : List Nat} {e f i : Nat} (hX : X.length = au (A ++ (e + 1) :: B)) (hf : f < au A) (hi : i ≤ e) (hq : q < au B) : ((BQ A e X)[cG A e f i q]?).getD 0 = (X[cG A (e + 1) f (i + 1) q]?).getD 0 * nD (i + 1) - (X[cG A (e + 1) f i q]?).getD 0 * nD (e + 1 - i) := by
 obtain ⟨a1, a2, a3⟩ := nh (A := A) (q := q) hf hi;obtain ⟨b1, b2, b3⟩ := nh (A := A) (d := e + 1) (k := i) (q := q) hf Uz;have hp := na (A := A) (B := B) (d := e) hf hi hq;have hp2 := na (A := A) (B := B) (d := e + 1) (k := i) hf Uz hq;unfold BQ mO;rw [UO, hX, pG (B := B), UO, Vq hp, Wj, Wj, a1, a2, a3, VV, ← hX, wO hX Uz, b1, b2, b3, UF Uz, VV];unfold jB;rw [DV Uz, VV];unfold IE jB eY;rw [UO, UO, Vq Uz, Vq Uz];show (X[cG A (e + 1) f (i + 1) q]?).getD 0 * (((i : Int) + 1 : Int) : Dyadic) - (X[cG A (e + 1) f i q]?).getD 0 * ((((e + 1 : Nat) : Int) - (i : Int) : Int) : Dyadic) = _;unfold nD;rw [show (((e + 1 : Nat) : Int) - (i : Int)) = ((e + 1 - i : Nat) : Int) by omega, show ((i : Int) + 1) = ((i + 1 : Nat) : Int) by omega]
theorem LI {A B : List Nat} {e i : Nat} (hX : X.length = au (A ++ (e + 1) :: B)) (hi : i ≤ e) : Cz A e B (BQ A e X) ta tb i = Cz A (e + 1) B X ta tb (i + 1) * nD (i + 1) - Cz A (e + 1) B X ta tb i * nD (e + 1 - i) := by
 have e0 : ∀ x y : Dyadic, x - y = x + y * (-1) := fun x y => by grind
 unfold Cz;rw [e0, ← uP, ← uP, ← uP, ← HT];refine mC fun row hr => ?_;obtain ⟨h1, h2⟩ := Hn hr;rw [Dv hr hi, Dv hr (show i + 1 ≤ e + 1 by omega), Dv hr (show i ≤ e + 1 by omega), LS hX (kG h1) hi (kG h2)];grind
theorem Mt (d r : Nat) (t : Dyadic) : D1 (fun h => fW d r (t + h)) (fW d r t) (nD r * t ^ (r - 1) * (1 - t) ^ (d - r) - t ^ r * (nD (d - r) * (1 - t) ^ (d - r - 1))) := by
 refine (((D1.Tj t 1).pow r).mul ((D1.Tj (1 - t) (-1)).pow (d - r))).of (fun h => ?_) rfl (by grind);unfold fW;rw [show t + 1 * h = t + h by grind, show 1 - t + -1 * h = 1 - (t + h) by grind]
theorem GQ (c : Nat → Dyadic) (e : Nat) (t : Dyadic) : sm (List.range (e + 1 + 1)) (fun r => c r * (nD r * t ^ (r - 1) * (1 - t) ^ (e + 1 - r) - t ^ r * (nD (e + 1 - r) * (1 - t) ^ (e + 1 - r - 1)))) = sm (List.range (e + 1)) fun i => (c (i + 1) * nD (i + 1) - c i * nD (e + 1 - i)) * fW e i t := by
 have e1 : sm (List.range (e + 1 + 1)) (fun r => c r * (nD r * t ^ (r - 1) * (1 - t) ^ (e + 1 - r) - t ^ r * (nD (e + 1 - r) * (1 - t) ^ (e + 1 - r - 1)))) = sm (List.range (e + 1 + 1)) (fun r => c r * (nD r * t ^ (r - 1) * (1 - t) ^ (e + 1 - r))) + sm (List.range (e + 1 + 1)) (fun r => -1 * (c r * (t ^ r * (nD (e + 1 - r) * (1 - t) ^ (e + 1 - r - 1))))) := by
  rw [← oP];exact bg fun r _ => by grind
 have e3 : sm (List.range (e + 1 + 1)) (fun r => -1 * (c r * (t ^ r * (nD (e + 1 - r) * (1 - t) ^ (e + 1 - r - 1))))) = sm (List.range (e + 1)) (fun r => -1 * (c r * (t ^ r * (nD (e + 1 - r) * (1 - t) ^ (e + 1 - r - 1))))) + 0 := by
  rw [Wy, jh, Vw, mf];grind
 rw [e1, e3, tw, mf];have e2 : sm (List.range (e + 1)) (fun i => (c (i + 1) * nD (i + 1) - c i * nD (e + 1 - i)) * fW e i t) = sm (List.range (e + 1)) (fun j => c (j + 1) * (nD (j + 1) * t ^ (j + 1 - 1) * (1 - t) ^ (e + 1 - (j + 1)))) + sm (List.range (e + 1)) (fun r => -1 * (c r * (t ^ r * (nD (e + 1 - r) * (1 - t) ^ (e + 1 - r - 1))))) := by
  rw [← oP];refine bg fun i hi => ?_;have hi := Vi.1 hi;unfold fW;rw [show i + 1 - 1 = i by omega, show e + 1 - (i + 1) = e - i by omega, show e + 1 - i - 1 = e - i by omega];grind
 rw [e2];grind
theorem LH {A B : List Nat} {e : Nat} {t : Dyadic} (hX : X.length = au (A ++ (e + 1) :: B)) (ha : ta.length = A.length) : D1 (fun h => gB (A ++ (e + 1) :: B) X (ta ++ (t + h) :: tb)) (gB (A ++ (e + 1) :: B) X (ta ++ t :: tb)) (gB (A ++ e :: B) (BQ A e X) (ta ++ t :: tb)) := by
 refine (D1.sm (List.range (e + 1 + 1)) (F := fun r h => Cz A (e + 1) B X ta tb r * fW (e + 1) r (t + h)) fun r _ => (Mt (e + 1) r t).smul _).of (fun h => qG ha) (qG ha) ?_;rw [qG ha, GQ];refine bg fun i hi => ?_;rw [LI hX (by have := Vi.1 hi; omega)]
theorem FI : ∀ (a e : Nat) (s : List Nat) (xs : List Dyadic) (x w : Dyadic), s[a]? = some e → xs[a]? = some x → D1 (fun h => eF s (xs.set a (x + w * h))) (eF s xs) (w * (nD e * eF (s.set a (e - 1)) xs))
 | _, _, [], _, _, _, h, _ => by simp at h
 | _, _, _ :: _, [], _, _, _, h => by simp at h
 | 0, e, e0 :: s, y :: xs, x, w, h1, h2 => by
  obtain rfl : e0 = e := by simpa using h1
  obtain rfl : y = x := by simpa using h2
  refine (((D1.Tj y w).pow e0).mul (D1.const (eF s xs))).of (fun h => rfl) rfl ?_;show w * (nD e0 * (y ^ (e0 - 1) * eF s xs)) = _;grind
 | a + 1, e, e0 :: s, y :: xs, x, w, h1, h2 => by
  refine ((FI a e s xs x w (by simpa using h1) (by simpa using h2)).smul (y ^ e0)).of (fun h => rfl) rfl ?_;show w * (nD e * (y ^ e0 * eF (s.set a (e - 1)) xs)) = _;grind
theorem Qr {a : Nat} {x w : Dyadic} (hl : ∀ t ∈ l, ∃ e, t.m.data.toList[a]? = some e) (hx : xs[a]? = some x) : D1 (fun h => kQ (xs.set a (x + w * h)) l) (kQ xs l) (w * kQ xs (jx a l)) := by
 refine (D1.sm l (F := fun (t : TR) h => t.c.d * eF (cv t.m) (xs.set a (x + w * h))) (a := fun t => t.c.d * eF (cv t.m) xs) (b := fun t => t.c.d * (w * dM a (fun m => eF (cv m) xs) t.m)) fun t ht => ?_).of (fun h => tK (fun m => eF (cv m) (xs.set a (x + w * h))) l) (tK (fun m => eF (cv m) xs) l) ?_
 ·obtain ⟨e, he⟩ := hl t ht;have h1 : (cv t.m)[a]? = some e.toNat := by unfold cv; rw [UO, he]; rfl
  refine (FI a e.toNat (cv t.m) xs x w h1 hx).smul _ |>.of (fun h => rfl) rfl ?_;rw [Oy he];show t.c.d * (w * (nD e.toNat * eF (cv (str (t.m.data.toList.set a (e - 1)))) xs)) = _;by_cases h0 : e.toNat = 0
  ·rw [h0, mf]; grind
  ·have e1 : cv (str (t.m.data.toList.set a (e - 1))) = (cv t.m).set a (e.toNat - 1) := by
    unfold cv;rw [cP, WT, XZ _ _ (by rw [XW]; show 1 ≤ e.toNat; omega)]
    rfl
   rw [e1]
 ·unfold kQ;rw [LF, tK, ← iC];exact bg fun t _ => by grind
theorem LZ {b : List SR} {us : List Dyadic} {a : Nat} {s : SR} {z : Dyadic} (hs : b[a]? = some s) (hu : us.length = b.length) : EC b (us.set a z) = (EC b us).set a (s.L + (s.H - s.L) * z) := by
 have ha := (UW.1 hs).1;refine VU fun i => ?_;unfold EC;rw [Xx, Wd, Wd, Xx];by_cases hi : a = i
 ·subst hi;rw [UF rfl, UF rfl, UF Uz, UF (by simpa using ha), hs]
  rfl
 ·rw [UE hi, UE hi]
theorem Qw {b : List SR} {us : List Dyadic} {a : Nat} {s : SR} {u : Dyadic} (hs : b[a]? = some s) (hu : us[a]? = some u) : (EC b us)[a]? = some (s.L + (s.H - s.L) * u) := by
 unfold EC;rw [Xx, hs, hu]
 rfl
theorem FG {α : Type} : ∀ (l : List α) (x y : α) (k : List α), (l ++ x :: k).set l.length y = l ++ y :: k
 | [], _, _, _ => rfl
 | z :: l, x, y, k => by
  show z :: (l ++ x :: k).set l.length y = _;rw [FG l x y k]
  rfl
theorem MS (l : List α) (x : α) (k : List α) : (l ++ x :: k)[l.length]? = some x := by
 rw [VW (UH _), Vw]
 rfl
theorem Hq {A B : List Nat} {e : Nat} {b : List SR} {t : Dyadic} {s : SR} (hX : X.length = au (A ++ (e + 1) :: B)) (ha : ta.length = A.length) (hb : tb.length = B.length) (hbl : b.length = A.length + B.length + 1) (hl : ∀ t ∈ l, ∃ e, t.m.data.toList[B.length]? = some e) (hs : b[B.length]? = some s)
  (hv : ∀ z, gB (A ++ (e + 1) :: B) X (ta ++ z :: tb) = kQ (EC b (ta ++ z :: tb).reverse) l) : gB (A ++ e :: B) (BQ A e X) (ta ++ t :: tb) = kQ (EC b (ta ++ t :: tb).reverse) (jx B.length l) * (s.H - s.L) := by
 have hr : ∀ z : Dyadic, (ta ++ z :: tb).reverse = tb.reverse ++ z :: ta.reverse := fun z => by simp
 have hn : B.length = tb.reverse.length := by rw [Vn, hb]
 have hlen : (tb.reverse ++ t :: ta.reverse).length = b.length := by simp; omega
 have hu : (tb.reverse ++ t :: ta.reverse)[B.length]? = some t := by rw [hn]; exact MS _ _ _
 have hset : ∀ h, EC b (tb.reverse ++ (t + h) :: ta.reverse) = (EC b (tb.reverse ++ t :: ta.reverse)).set B.length (s.L + (s.H - s.L) * t + (s.H - s.L) * h) := fun h => by
  rw [show s.L + (s.H - s.L) * t + (s.H - s.L) * h = s.L + (s.H - s.L) * (t + h) by grind, ← LZ hs hlen, hn, FG]
 have h1 := LH (t := t) (tb := tb) hX ha;have h2 := (Qr (w := s.H - s.L) hl (Qw hs hu)).of (G := fun h => gB (A ++ (e + 1) :: B) X (ta ++ (t + h) :: tb)) (fun h => by rw [hv, hr, hset]) rfl rfl;rw [(h1.uniq h2).2, hr];grind
def Ty : List (Nat → Dyadic) → List Nat → Dyadic
 | f :: fs, r :: rs => f r * Ty fs rs
 | _, _ => 1
def vG (ds : List Nat) (X : List Dyadic) (fs : List (Nat → Dyadic)) : Dyadic := sR ds fun row => co ds X row * Ty fs row
def R4 (ds : List Nat) (ts : List Dyadic) : List (Nat → Dyadic) := List.zipWith (fun d t r => fW d r t) ds ts
def Ua (ts : List Dyadic) : List (Nat → Dyadic) := ts.map fun t r => t ^ r
def Ui (ds : List Nat) (ts : List Dyadic) (k : Nat) : List (Nat → Dyadic) := (R4 ds ts).take (ds.length - k) ++ (Ua ts).drop (ds.length - k)
def wT (b : List SR) (ns : List Nat) : Nat → Dyadic
 | 0 => 1
 | i + 1 => wT b ns i * C5 b i ^ (ns.getD i 0)
theorem PH {b : List SR} {s : SR} (h : ko b = 0) (hs : s ∈ b) : s.lo.d < s.hi.d := by
 unfold ko at h;by_cases h1 : b.any (fun s => !decide (s.lo.d < s.hi.d)) = true
 ·rw [UF h1] at h; omega
 ·rw [Bool.not_eq_true, Wb] at h1;have := h1 s hs;simpa using this
theorem N0 {b : List SR} {s : SR} (h : ko b = 0) (hs : s ∈ b) : s.L = s.lo.d ∧ s.H = s.hi.d := by
 have h1 := PH h hs;have h2 : ¬ s.hi.d < s.lo.d := by grind
 unfold SR.L SR.H Ps Qo;rw [UE h2, UF h1];exact ⟨rfl, rfl⟩
theorem KV.RC {p : PX} {b : List SR} {s : Nat} (h : KV p b C s) : GJ p := ⟨h.n, h.ok, fun t ht => ⟨h.sz t ht, h.ex t ht⟩⟩
structure TA (p : PX) (b : List SR) (fx : FX) (ns : List Nat) : Prop where
 e : q9 fx b = 0
 q : (Ac fx b).2 = aD (p.ts.map (j4 (wT b ns b.length)))
 s : Bv p (wT b ns b.length) = 0
 n : (aD (p.ts.map (j4 (wT b ns b.length)))).length ≤ 8
variable {j : Nat}
theorem AB {v : Int} {D : Nat} {c : Dyadic} (h : lB v k n D ts) (hc : Sz j c) (hk : k + j ≤ 50000) (hn : n ≤ 1000) : lB v (k + j + n) n D (aD (ts.map (j4 c))) ∧ gh (ts.map (j4 c)) = 0 := by
 obtain ⟨p1, p2, p3, p4⟩ := cd h.e;have hl := h.len;have hg := bM (ts.map (j4 c));rw [US] at hg;have hm : ∀ {P : TR → Prop}, (∀ t ∈ ts, P (j4 c t)) → ∀ t ∈ ts.map (j4 c), P t := fun h t ht => by
  obtain ⟨u, hu, rfl⟩ := UY.1 ht;exact h u hu
 have hz : iu (k + j) (ts.map (j4 c)) := hm fun t ht => by
  have h1 := (h.ok t ht).2.mul hc;have h2 : Sz (k + j) (nR (t.c.d * c)).d := by rw [bY]; exact h1
  exact ⟨h1.ok Uz, h2⟩
 refine ⟨⟨dV p1 Uz (hm p3), iU hz (by rw [US]; omega) Uz, j3 (hm h.sz), Uz, Eb (hm h.ex)⟩, gY (by rw [US]; omega)⟩
theorem ld (ns : List Nat) (a : Nat) : (jb ns a).length = ns.length := by unfold jb; rw [WU]
theorem x7 {ns : List Nat} {a i d' : Nat} (h : (jb ns a)[i]? = some d') : ∃ d, ns[i]? = some d ∧ d' = if i = a then d - 1 else d := by
 unfold jb at h;rw [Wd] at h;by_cases hi : a = i
 ·subst hi;rw [UF rfl] at h;by_cases hl : a < ns.length
  ·obtain ⟨d, hd⟩ := ak hl;rw [UF hl, VQ, hd] at h;exact ⟨d, hd, by rw [UF rfl]; exact (Vl h).symm⟩
  ·rw [UE hl] at h; cases h
 ·rw [UE hi] at h;exact ⟨d', h, by rw [UE (fun c => hi c.symm)]⟩
theorem LL {ns : List Nat} {a : Nat} : ∀ (i x y : Nat), (jb ns a)[i]? = some x → ns[i]? = some y → x ≤ y := fun i x y hx hy => by
 obtain ⟨d, hd, e⟩ := x7 hx;rw [hy] at hd;obtain rfl := Vl hd;split at e <;> omega
theorem H8 {ns : List Nat} {a d : Nat} (h : ns[a]? = some d) : (jb ns a).reverse = (ns.drop (a + 1)).reverse ++ (d - 1) :: (ns.take a).reverse := by
 have ha := (UW.1 h).1;have h1 : (jb ns a)[a]? = some (d - 1) := by
  unfold jb;rw [Wd, UF rfl, UF ha, VQ, h]
  rfl
 rw [pY h1];unfold jb;rw [List.drop_set_of_lt (Nat.lt_succ_self a), List.take_set_of_le (UH a)]
theorem Nq (ds : List Nat) (n : Nat) (ts : List Dyadic) : gB ds (List.replicate n 0) ts = 0 := by
 unfold gB;refine pF fun p _ => ?_;rw [Yc];split <;> exact W8 _
theorem Iy {a : Nat} (h : ∀ t ∈ l, eU a t ≤ 0) : jx a l = [] := by
 unfold jx;refine List.filterMap_eq_nil_iff.2 fun t ht => ?_;have h1 := h t ht;unfold eU at h1;unfold nU
 cases he : t.m.data.toList[a]? with
 | none => rfl
 | some e =>
  rw [he] at h1;exact UF (Nat.le_zero.1 h1)
theorem Pr {a i d : Nat} (h : ∀ t ∈ l, eU i t ≤ d) : ∀ t ∈ jx a l, eU i t ≤ if i = a then d - 1 else d := fun t ht => by
 obtain ⟨u, hu, hd⟩ := VF.1 ht;obtain ⟨e, he, h0, rfl⟩ := nL hd;have h1 := h u hu;have hs : (str (u.m.data.toList.set a (e - 1))).data.toList = u.m.data.toList.set a (e - 1) := cP _;unfold eU at h1 ⊢;show (match (str (u.m.data.toList.set a (e - 1))).data.toList[i]? with | some e => e.toNat | none => 0) ≤ _;rw [hs, Wd];have hal := (UW.1 he).1;by_cases hi : i = a
 ·subst hi;rw [UF rfl, UF rfl, UF hal];rw [he] at h1;show (e - 1).toNat ≤ d - 1;rw [XZ _ _ (by rw [XW]; show 1 ≤ e.toNat; omega)];replace h1 : e.toNat ≤ d := h1;show e.toNat - 1 ≤ d - 1;omega
 ·rw [UE (fun c => hi c.symm), UE hi];exact h1
theorem HA {l : List α} {i : Nat} {x : α} (h : l[i]? = some x) : l = l.take i ++ x :: l.drop (i + 1) := by
 rw [← gl h, VA]
structure Pg (p q : PX) (b : List SR) (ns : List Nat) (a : Nat) (X : List Dyadic) : Prop where
 I7 : lB q.v 300 8 4 q.ts
 e : mv q b (bI (jb ns a)) = 0
 grow : ff (300 + 300 + 16394) (cS q.v q.ts) (300 + 1) ≤ 440000
 x : qb (jb ns a) (cV q (bj b)).2 = vr ns a X
theorem Ho {p q : PX} {b : List SR} {a : Nat} {s : SR} (hs : KV p b 100 13) (hF : oN p b (cS p.v p.ts)) (h0 : (cV p (bj b)).1 = 0) (hsa : b[a]? = some s) (hv : q.v = p.v) (ht : q.ts = aD ((aD (jx a p.ts)).map (j4 (s.H - s.L)))) : Pg p q b (cS p.v p.ts) a (qb (cS p.v p.ts) (cV p (bj b)).2) := by
 obtain ⟨⟨s1, s2⟩, s3⟩ := hs.small UA UA hF h0;have hvl := fun (ts : List Dyadic) (ht : ts.length = (cS p.v p.ts).length) => KK hF h0 s2 ht;have hlen := lX (cS p.v p.ts) (cV p (bj b)).2;have hcnt := hs.R9 hF.e;have gp := hs.RC.I7 hF.e;have hnl := hF.nl;have h12 := hF.l9;have hlow := hF.low;have hown := hF.own;have hpv := hF.v;have hal := (UW.1 hsa).1;have hat := gp.at_ (i := a) Uz;have hw := hs.box s (UJ hsa);obtain ⟨c1, c2⟩ := N0 hF.box (UJ hsa);have zw : Sz 125 (s.H - s.L) := by rw [c1, c2]; exact hw.2.sz.sub hw.1.sz
 have gd := Bk a gp UA UA;obtain ⟨gq, _⟩ := AB gd zw UA UA;generalize qb (cS p.v p.ts) (cV p (bj b)).2 = X at *;generalize cS p.v p.ts = ns at *;rw [← ht, ← hv] at gq;have gq2 : lB q.v 300 8 4 q.ts := ⟨gq.e, gq.ok.mono UA, gq.sz, gq.len, gq.ex⟩;have hmem : ∀ t ∈ q.ts, ∃ u ∈ jx a p.ts, u.m = t.m := fun t h => by
  rw [ht] at h;obtain ⟨u, hu, e⟩ := fj t h;obtain ⟨z, hz, rfl⟩ := UY.1 hu;obtain ⟨y, hy, e2⟩ := fj z hz;exact ⟨y, hy, e2.trans e⟩
 have hx : ∀ (i d : Nat), (jb ns a)[i]? = some d → ∀ t ∈ q.ts, eU i t ≤ d := fun i d hd t ht => by
  obtain ⟨d0, vv, e⟩ := x7 hd;obtain ⟨u, hu, e2⟩ := hmem t ht;rw [← OX e2, e];exact Pr (hown i d0 vv) u hu
 have hlow2 : ∀ d ∈ jb ns a, d ≤ 127 := fun d hd => by
  obtain ⟨i, hi⟩ := V6.1 hd;obtain ⟨d0, vv, e⟩ := x7 hi;have := hlow d0 (UJ vv);split at e <;> omega
 have hc2 : au (jb ns a) ≤ 100 := U1 (nt (ld ns a) LL) hcnt;have hb3 : ∀ z ∈ b, z.fin 300 := fun z hz => ⟨⟨(hs.box z hz).1.ok, (hs.box z hz).1.sz.mono UA⟩, ⟨(hs.box z hz).2.ok, (hs.box z hz).2.sz.mono UA⟩⟩;obtain ⟨b1, b2, b3⟩ := QT (k := 300) gq2.e hF.box hF.pos (hv.trans hpv) (by rw [ld]; exact hnl) hlow2 Uz hx hb3 UA;have hgr := Hf (k := 300) gq2.e gq2.ex (b2.Mj hc2) UA;have vq := Nm b2 b3 gq2.ok hb3 UA hgr;refine ⟨gq2, b1, hgr, ?_⟩;obtain ⟨d, hd⟩ := ak (l := ns) (k := a) Uz;have hg : ns.getD a 0 = d := by rw [VQ, hd]; rfl
 have hrn := pY hd;have hrd := H8 hd;have hA : (ns.drop (a + 1)).reverse.length = ns.length - 1 - a := by rw [Vn, VY]; omega
 have hB : (ns.take a).reverse.length = a := by rw [Vn, U6]; omega
 have hcA : au (ns.drop (a + 1)) = au (ns.drop (a + 1)).reverse := (cx _).symm;have gO : ∀ xs, kQ xs q.ts = kQ xs (jx a p.ts) * (s.H - s.L) := fun xs => by
  rw [ht, fY];unfold kQ;rw [EF];rw [show wS (fun m => eF (cv m) xs) (aD (jx a p.ts)) = wS (fun m => eF (cv m) xs) (jx a p.ts) from fY xs _]
 unfold vr;rw [hg];by_cases h0d : d = 0
 ·subst h0d;rw [UF rfl];have hnil := Iy fun t ht => hown a 0 hd t ht;have hns : jb ns a = ns := by
   unfold jb;rw [hg];refine VU fun i => ?_;rw [Wd];by_cases hi : a = i
   ·subst hi; rw [UF rfl, UF Uz, hd]
   ·rw [UE hi]
  rw [hns] at vq ⊢;refine val_inj (ds := ns.reverse) (by rw [lX, cx]) (by rw [V1, hlen, cx]) fun ts hts => ?_;rw [Vn] at hts;rw [vq.vl ts hts, gO, hnil, Nq];show (0 : Dyadic) * _ = 0;exact W8 _
 ·obtain ⟨e, rfl⟩ : ∃ e, d = e + 1 := ⟨d - 1, Uz⟩;rw [UE h0d, hcA];show _ = BQ (ns.drop (a + 1)).reverse e X;rw [Nat.add_sub_cancel] at hrd;have hX : X.length = au ((ns.drop (a + 1)).reverse ++ (e + 1) :: (ns.take a).reverse) := by rw [hlen, ← hrn, cx]
  refine val_inj (ds := (jb ns a).reverse) (by rw [lX, cx]) (by rw [Kk hX, hrd]) fun ts hts => ?_;rw [Vn, ld] at hts;rw [vq.vl ts (by rw [ld]; exact hts), gO, hrd];generalize hAA : (ns.drop (a + 1)).reverse = A at *;generalize hBB : (ns.take a).reverse = B at *;obtain ⟨t, htm⟩ := ak (l := ts) (k := A.length) Uz;have hts2 := HA htm;have la : (ts.take A.length).length = A.length := by rw [U6]; omega
  have lb : (ts.drop (A.length + 1)).length = B.length := by rw [VY]; omega
  generalize ts.take A.length = ta at *;generalize ts.drop (A.length + 1) = tb at *;subst hts2;have := Hq (A := A) (B := B) (e := e) (b := b) (X := X) (ta := ta) (tb := tb) (t := t) (l := p.ts) (s := s) hX la lb Uz (fun u hu => by rw [hB]; exact hat u hu) (by rw [hB]; exact hsa) (fun z => by
   rw [← hrn];exact hvl (ta ++ z :: tb) (by rw [UM, U7]; omega))
  rw [this, hB]
set_option maxRecDepth 10000 in
theorem qM (p : PX) (L : Option Addr) (n c : Nat) (b : List SR) (ax : Int) (w : World) (hT : eb w) (hp : p.at_ w) (hpc : p.n ≤ p.c) (hB : Sl w L n 6 (az SR.cells b)) :
  Calls Tryz.prog 9 #[.agg #[.int .i64 p.v, .slice p.A p.n p.c], .slice L n c, .int .i64 ax] w fun r w' => r = .returned (.bool true) ∧ Below w.heap.size w w' := by
 have hh := Hp.start w;have hpl := hp.ln;have hbl : b.length = n := hB.bq SR.len UA;refine aj (N := 102) (l := [.agg #[.int .i64 p.v, .slice p.A p.n p.c], .slice L n c, .int .i64 ax]) Tryz.func9 rfl rfl (by simp) ?_;refine sr ?_;refine cz hh [_,_] ?_;intro b3 w3 hh;refine aB (aa (ah (sr ?_)));refine cE hh 0 [_,_] (mL ?_);refine aF (xP p L n c b _ (hT.hp hh) (hp.ext hh.below) hpc (hB.ext hh.below)) al.out rfl UA ?_;rintro e_ w17 ⟨v, rfl, hv, hb_⟩;refine ⟨_, rfl, ?_⟩;replace hh := hh.ext hb_
 cases v with
 | false =>
  refine fy ?_;refine aa (cT (sr ?_));refine bD hh (l4 _ (hT.hp hh)) rfl ?_;intro w19 hh;refine aB (aa (av (aH ?_)));refine de ?_;exact ⟨rfl, hh.below⟩
 | true =>
  obtain ⟨SV, hs⟩ := hv rfl;clear hv;have f8p := hs.RC;have lp := f8p.kO hp hpc;have hof := fun w1 hT1 hb1 => qT p L n c b none 0 0 [] 124 w1 hT1 (hp.ext hb1) lp (hB.ext hb1) hs.box Uz (Sl.nil _ _ _) UA (UH _) UA (fun h => hs.grow UA (xS h).2.e);have hE0 : mv p b [] = 0 → oN p b (cS p.v p.ts) ∧ (cV p (bj b)).1 = 0 := fun h => by
   obtain ⟨a1, a2⟩ := Hd h;exact ⟨(xS a1).2, a2⟩
  replace hof : ∀ w1, eb w1 → Below w.heap.size w w1 → Calls Tryz.prog 20 #[.agg #[.int .i64 p.v, .slice p.A p.n p.c], .slice L n c, .slice none 0 0] w1 fun r w' => ∃ g : FX, Out (mv p b []) (cS p.v p.ts) (qb (cS p.v p.ts) (cV p (bj b)).2) g ∧ r = .returned (.tuple #[.agg #[.slice g.A g.n g.a, .slice g.B g.m g.b], .int .i64 (mv p b [])]) ∧ Hp w1 [g.vO, g.uE] w' := hof;generalize mv p b [] = E at *;have hcd := fun w1 hT1 ha => vK p ax 124 w1 hT1 ha lp UA;have hH0 := fun h => EO (p := p) (i := ax) h;generalize yg p ax = H_ at *;refine fy ?_;refine vh ?_;refine cE hh 0 [_,_] (mL ?_);refine aF (hof _ (hT.hp hh) hh.below) al.out rfl UA ?_;rintro e_ w23 ⟨f0, o1, rfl, h4⟩;refine ⟨_, rfl, ?_⟩;have hfa : f0.n ≤ f0.a := h4.eM (i := 1) rfl;replace hh := hh.join h4;clear h4;simp only [UP, UN] at hh;replace hh := show Hp w (.row f0.B f0.m f0.b 65 3 (az NR.cells f0.cs) :: .row f0.A f0.n f0.a 3 1 (bL f0.ds) :: _) _ from hh;have hlf : f0.kO 47000 := by
   have l1 := (hh.aA (i := 0) rfl).bq NR.len UA;have l2 := (hh.aA (i := 1) rfl).1;rw [bO] at l2;by_cases hE : E = 0
   ·subst hE;obtain ⟨hF, hZ⟩ := hE0 rfl;obtain ⟨e1, e2, e3⟩ := o1.fe (by rw [hF.nl]; exact hF.l9) hF.low (lX _ _) hF.most;obtain ⟨⟨s1, s2⟩, s3⟩ := hs.small UA UA hF hZ;rw [e3, US, lX] at l1;rw [e2, fR, hF.nl] at l2;have := hs.R9 hF.e;exact ⟨Uz, Uz, fun z hz => by
     rw [e3] at hz;obtain ⟨y, hy, rfl⟩ := UY.1 hz;rw [bY];exact ⟨(s3 y hy).ok UA, s3 y hy⟩⟩
   ·have e2 : f0.ds = [] := by rw [o1.ds]; exact UE hE
    have e3 : f0.cs = [] := by rw [o1.cs]; exact UE hE
    rw [e3] at l1;rw [e2] at l2;replace l1 : 0 = f0.m := l1;replace l2 : 0 = f0.n * 1 := l2;exact ⟨Uz, Uz, fun z hz => by rw [e3] at hz; cases hz⟩
  have hde := fun w1 hT1 ha => p8 f0 ax 47000 w1 hT1 ha hlf hfa UA;have hG1 : f0.e = 0 → 0 ≤ ax → ax < f0.n → kY f0 ax = 0 := fun h1 h2 h3 => by
   unfold kY;rw [UE (fun c => c h1), UE Uz]
  generalize kY f0 ax = G at *;refine mT ?_;refine dt ?_;refine dt ?_;refine bW hh ?_;intro b7 w7 hh;refine bX hh 0 [_,_] ?_;intro ws hh;replace hh : Hp _ (.blk _ _ [_, _] _ :: _) _ := hh;refine aI (aa (sr ?_));refine cE hh 0 [_,_] (mI ?_);refine aF (hde _ (hT.hp hh) ⟨hh.aA (i := 2) rfl, hh.aA (i := 1) rfl⟩) al.out rfl UA ?_;rintro e_ w29 ⟨g0, o2, rfl, h4⟩;refine ⟨_, rfl, ?_⟩;have hga : g0.n ≤ g0.a := h4.eM (i := 1) rfl;replace hh := hh.join h4;clear h4;simp only [UP, UN] at hh;replace hh := show Hp w (.row g0.B g0.m g0.b 65 3 (az NR.cells g0.cs) :: .row g0.A g0.n g0.a 3 1 (bL g0.ds) :: _) _ from hh;refine mT ?_;refine dt ?_;refine dt ?_;refine bW hh ?_;intro b9 w9 hh;refine bX hh 0 [_,_] ?_;intro ws hh;replace hh : Hp _ (.blk _ _ [_, _] _ :: _) _ := hh;refine aI (aa (sr ?_));refine cE hh 6 [_,_] (mI ?_);refine aF (hcd _ (hT.hp hh) (hp.ext hh.below)) al.out rfl UA ?_;rintro e_ w35 ⟨q, oq, rfl, h4⟩;refine ⟨_, rfl, ?_⟩;have hqc : q.n ≤ q.c := h4.eM (i := 0) rfl;replace hh := hh.join h4;clear h4;simp only [UP, UN] at hh;replace hh := show Hp w (.row q.A q.n q.c 96 4 (az TR.cells q.ts) :: _) _ from hh;clear hof hde hcd
  by_cases hE : E = 0
  ·subst hE;obtain ⟨hF, hZ⟩ := hE0 rfl;clear hE0;by_cases hH : H_ = 0
   ·subst hH;obtain ⟨_, a0, a1⟩ := hH0 rfl;obtain ⟨e1, e2, e3⟩ := o1.fe (by rw [hF.nl]; exact hF.l9) hF.low (lX _ _) hF.most;have hfn : f0.n = n := by
     have h8 := (hh.aA (i := 6) rfl).1;rw [bO, e2, fR, hF.nl] at h8;omega
    have hpv := hF.v;have hG := hG1 e1 a0 Uz;subst hG;obtain ⟨a, rfl⟩ : ∃ a : Nat, ax = a := ⟨ax.toNat, Uz⟩;have hns : f0.ns = cS p.v p.ts := by unfold FX.ns; rw [e2, oT]
    have hX : f0.cs.map NR.d = qb (cS p.v p.ts) (cV p (bj b)).2 := by
     rw [e3, VE];refine (Ws fun x _ => ?_).trans (Xv _);exact bY x
    rw [hns, hX, V8] at o2;rw [V8] at oq;obtain ⟨s, hsi⟩ := ak (l := b) (k := a) Uz;have hsm := UJ hsi;have hfs := hs.box s hsm;obtain ⟨c1, c2⟩ := N0 hF.box hsm;have gd := Bk a (f8p.I7 hF.e) UA UA;have qv := oq.v0;have qt := oq.t0;rw [← qt, ← qv] at gd;have lq := gd.kO (hh.aA (i := 0) rfl) hqc UA;have hsu := fun w1 hT1 => j5 s.hi s.lo w1 hT1 hfs.2.ok hfs.1.ok 124 hfs.2.sz hfs.1.sz UA;have zw : Sz 125 (s.hi.d - s.lo.d) := hfs.2.sz.sub hfs.1.sz;have hsc := fun w1 hT1 ha => pS q (nR (s.hi.d - s.lo.d)) 200 w1 hT1 ha ⟨lq.n, lq.cap, lq.ok.mono UA, lq.sz⟩ ⟨zw.ok UA, by rw [bY]; exact zw.mono UA⟩ UA;rw [bY] at hsc;have hsz : Bv q (s.hi.d - s.lo.d) = 0 := by
     unfold Bv;rw [UF (show q.e = 0 from gd.e)];exact (AB gd zw UA UA).2
    rw [hsz] at hsc;obtain ⟨ad, rfl, hr⟩ := hB.at_ Uz;refine mT ?_;refine dt ?_;refine dt ?_;refine bW hh ?_;intro b11 w11 hh;refine bX hh 0 [_,_] ?_;intro ws hh;replace hh : Hp _ (.blk _ _ [_, _] _ :: _) _ := hh;refine aI (aa (ah (sr (mI ?_))));refine dk (mB (gT (mI (gT ?_))));refine dk ?_;refine eV ?_;refine aa (cF (ar (ai (ah (sr (mI ?_))))));refine dk (mB (gT (mI (gT ?_))));refine bh ?_;refine eV ?_;refine mB (gT (mI (gT (mL (gT (aJ (gT ?_)))))));refine dL ?_;refine eV ?_;refine aa (cF (ar (ai (ah ?_))));generalize hFL : aD (q.ts.map (j4 (s.hi.d - s.lo.d))) = FL at *
    refine dX [] [15] [0, 0, 0, 6, 14, 30, 0, 0, 192, 448, 960, 2046, 4095, 8191, 16383, 16383, 32767, 131071] 16 [[(11, none)], [(1, none)], [(2, none)], [(59, some 1), (60, some 2)], [(61, some 3)], [(62, some 4)], [(1, none)], [(2, none)], [(64, some 6), (65, some 7)], [(66, some 8)], [(67, some 9)], [(63, some 5), (68, some 10)], [(58, some 0), (69, some 11)], [(70, some 12)], [(57, some 13)], [(57, some 13)]] [(15, 72), (14, 71), (13, 57), (12, 70), (11, 69), (10, 68), (9, 67), (8, 66), (7, 65), (6, 64), (5, 63), (4, 62), (3, 61), (2, 60), (1, 59), (0, 58)] hh mixed UB eO rfl (by repeat (first | exact cA | refine bR ?_ | refine cB ?_)) ?_;refine fS 0 [_,_] ?_;refine gC ?_;refine dP ?_;refine nM (a) ?_;refine KX ?_;refine su [_,_,_] (fun _ hj => ((((hr.ext hj.hp.below).recAt SR.len hsi).drop 3).take 3)) ?_;refine gC ?_;refine dP ?_;refine nM (a) ?_;refine KX ?_;refine su [_,_,_] (fun _ hj => ((((hr.ext hj.hp.below).recAt SR.len hsi).drop 0).take 3)) ?_;refine dC (fun _ hj => hsu _ (hT.hp hj.hp)) ?_;refine aP (i := 12) (iG hh.sz 0 q.v FL) (iG.ext) ?_ ?_
    ·intro ρ1 w1 hj hR;exact a7 rfl (aK al.out (aw (show ρ1 58 = Value.agg (List.toArray _) from hR.1) (aw (show ρ1 69 = Value.agg (List.toArray _) from hR.2.1) aW))) (hsc w1 (hT.hp hj.hp) (hj.hp.aA (i := 1) rfl)) (fun _ _ ⟨g, og, hq, h3⟩ => ⟨_, hq, h3.below, g, w1, rfl, og, hj.bl.size, h3⟩)
    refine aP (i := 13) (iG hh.sz 0 q.v FL) (iG.ext) ?_ ?_
    ·exact Ln
    refine aP (i := 14) (ma hh.sz 0 q.v FL) (ma.ext) ?_ ?_
    ·exact M4
    refine aP (i := 15) (Is (.int .i64 0)) (Is.ext) ?_ ?_
    ·exact MN
    refine aT ?_;intro f W hJ hV _;have hb_10 := hJ.bl;obtain ⟨v72, v71, v57, v70, v69, v68, v67, v66, v65, v64, v63, v62, v61, v60, v59, v58, _⟩ := hV;obtain ⟨g70, u70, e70, -⟩ := v70;obtain ⟨g57, u57, e57, -⟩ := v57;obtain ⟨g71, u71, e71, o71, q71, h71⟩ := v71;replace hh := JJ.Em hJ hh q71 h71;refine aY (br (ae v72 (ae e71 (ae e57 (ae e70 (ae v69 (ae v68 (ae v67 (ae v66 (ae v65 (ae v64 (ae v63 (ae v62 (ae v61 (ae v60 (ae v59 (ae v58 aX))))))))))))))))) ?_;dsimp only [cg];clear e70 e57 e71 hJ;simp only [UP, UN] at hh;obtain ⟨rv, rA, rn, rc, rt⟩ := g71;replace hh := show Hp w (.row rA rn rc 96 4 (az TR.cells rt) :: _) W from hh;have et : FL = rt := o71.t0.symm;have ev_ : rv = q.v := o71.v0;subst et ev_;have hrc : rn ≤ rc := hh.eM (i := 0) rfl;have hal := Ho (a := a) (s := s) (q := ⟨q.v, rA, rn, rc, FL⟩) hs hF hZ hsi qv (by rw [← hFL, c1, c2, qt]);have lr : PX.kO ⟨q.v, rA, rn, rc, FL⟩ 300 := hal.I7.kO (hh.aA (i := 0) rfl) hrc UA;have hb3 : ∀ z ∈ b, z.fin 300 := fun z hz => ⟨⟨(hs.box z hz).1.ok, (hs.box z hz).1.sz.mono UA⟩, ⟨(hs.box z hz).2.ok, (hs.box z hz).2.sz.mono UA⟩⟩;have d2 : g0.ds = bI (jb (cS p.v p.ts) a) := o2.ds
    have k2 : g0.cs = (vr (cS p.v p.ts) a (qb (cS p.v p.ts) (cV p (bj b)).2)).map nR := o2.cs;have hgn : g0.n = n := by
     have h8 := (hh.aA (i := 5) rfl).1;rw [bO, d2, fR, ld, hF.nl] at h8;omega
    have hn0 := hF.pos;have hdn : (jb (cS p.v p.ts) a).length ≠ 0 := by rw [ld, hF.nl]; omega
    have hof2 := fun w1 hT1 ha hb1 hd => qT ⟨q.v, rA, rn, rc, FL⟩ (some ad) n c b g0.A g0.n g0.a (bI (jb (cS p.v p.ts) a)) 300 w1 hT1 ha lr (hB.ext hb1) hb3 Uz hd Uz hga UA (fun _ => hal.grow);rw [hal.e, Ly hdn, hal.x] at hof2;have gn := o2.n;have gm := o2.m;rw [← d2] at hof2;clear hal hsc hH0 hG1;generalize vr (cS p.v p.ts) a (qb (cS p.v p.ts) (cV p (bj b)).2) = Y at *;refine bX hh 1 [_,_] ?_;intro ws hh;replace hh : Hp _ (_ :: .blk _ _ [_, _] _ :: _) _ := hh;refine aI (aa (sr ?_));refine cE hh 1 [_,_] (mL (bH ?_));refine bG hh 3 ?_;refine aF (hof2 _ (hT.hp hh) (hh.aA (i := 0) rfl) hh.below (hh.aA (i := 5) rfl)) al.out rfl UA ?_;rintro e_ w78 ⟨r0, o5, rfl, h4⟩;refine ⟨_, rfl, ?_⟩;replace hh := hh.join h4;clear h4;simp only [UP, UN] at hh;replace hh := show Hp w (.row r0.B r0.m r0.b 65 3 (az NR.cells r0.cs) :: .row r0.A r0.n r0.a 3 1 (bL r0.ds) :: _) _ from hh;have d5 : r0.ds = g0.ds := by rw [d2]; exact o5.ds
    have k5 : r0.cs = g0.cs := by rw [k2]; exact o5.cs
    have hm : r0.m = g0.m := by
     have h1 := (hh.aA (i := 0) rfl).bq NR.len UA;have h2 := (hh.aA (i := 6) rfl).bq NR.len UA;rw [k5] at h1;omega
    refine mT ?_;refine dt ?_;refine dt ?_;refine bW hh ?_;intro b13 w13 hh;refine bX hh 0 [_,_] ?_;intro ws hh;replace hh : Hp _ (.blk _ _ [_, _] _ :: _) _ := hh;refine aI (aa (sr (mI ?_)));refine cW (mB (gT (mI (gT ?_))));refine cW ?_;refine fO ?_;refine mB (gT ?_);refine cE hh 6 [_,_] (gT ?_);refine cE hh 0 [_,_] ?_;refine aG rfl rfl ?_;refine bD hh (rV g0 r0 _ ⟨hh.aA (i := 8) rfl, hh.aA (i := 7) rfl⟩ ⟨hh.aA (i := 2) rfl, hh.aA (i := 1) rfl⟩ ⟨d5.symm, k5.symm⟩ gn gm) rfl ?_;intro w90 hh;rw [k5] at hh;clear o5;generalize r0.m = rm at *;subst hm;refine fO ?_;refine mB (gT (bH (gT ?_)));refine bG hh 6 ?_;refine gT (bH (gT ?_));refine bG hh 0 ?_;refine aG rfl rfl ?_;refine bD hh (jz g0.B g0.m g0.b g0.cs r0.B r0.b _ (hh.aA (i := 7) rfl) (hh.aA (i := 1) rfl) Uz) rfl ?_;intro w97 hh;refine fO ?_;refine mB ?_;refine aG rfl rfl ?_;refine bD hh (l4 _ (hT.hp hh)) rfl ?_;intro w100 hh;refine fO ?_;exact vy
   ·refine mT ?_;refine dt ?_;refine dt ?_;refine bW hh ?_;intro b11 w11 hh;refine bX hh 0 [_,_] ?_;intro ws hh;replace hh : Hp _ (.blk _ _ [_, _] _ :: _) _ := hh;refine aI (aa (ah (sr (mI ?_))));refine dk (mB (gT (mI (gT ?_))));refine dk ?_;refine eV ?_;exact Sy
  ·refine mT ?_;refine dt ?_;refine dt ?_;refine bW hh ?_;intro b11 w11 hh;refine bX hh 0 [_,_] ?_;intro ws hh;replace hh : Hp _ (.blk _ _ [_, _] _ :: _) _ := hh;refine aI (aa (ah (sr (mI ?_))));refine dk (mB ?_);refine gS (gS ?_);refine fO ?_;exact Sy
end Go.Proofs.YteeckcbbnegmcaaGreatDoor
namespace Go.Proofs.YteeckcbbnegmcaaGreatDoor.bernSlopes
open Go.ChangeShapes Go.WideShapes Go.ChangeAt Go.RowKit Go.ChangeMaps
theorem own : ownKnob Tryz.prog.godebug = none := by kernel_rfl
set_option maxRecDepth 100000 in
theorem lifted (os : Os) (started : os.Started) (H : Type) (enc : TypeId × Value → H) :
  ReturnsInHanded {} Tryz.checked os 9 .any (fun w args => (Rows.bernSlopesSpec.pre enc Tryz.prog Tryz.f9 Rows.bernSlopesRow.domain false w args ∧ laidMetH Tryz.prog Rows.bernSlopesRow.laid w) ∧ sizedMet enc Tryz.prog Tryz.f9 (OpenSpec.ofChange Rows.bernSlopesSpec) false w args)
   (Rows.bernSlopesSpec.post enc Tryz.prog Tryz.f9 false true false false) := by
 refine returnsInHanded_of_change_and (C := Tryz.checked) (X := fun w _ => laidMetH Tryz.prog Rows.bernSlopesRow.laid w) (fun _ _ _ hh h => h.of_heap hh) own started UB Tryz.func9
  (ChangeSpec.witness_shaped (enc := enc) (C := Tryz.checked) (os := os) (X := fun w _ => laidMetH Tryz.prog Rows.bernSlopesRow.laid w) false (World.laidAll Tryz.prog os Rows.bernSlopesRow.laid) #[.agg #[.int .i64 0, .slice none 0 0], .slice none 0 0, .int .i64 0] 8 (World.laidAll_os _ _ _)
   (World.shaped_of_ZipB UB UB) UB UB UB
   (by rw [MakeChecks.laidMetH_plain _ _ _ UB]; exact laidMet_laidAll _ UB UB)) ?_
 intro W base args ds gs before hval0 hW hc _ hL _;have hval : ∀ (j : Nat) t v, Tryz.f9.params[j]? = some t → args[j]? = some v → Value.okWide Tryz.prog W .any base t v := hval0;have hW' := hW;obtain ⟨p, q, hA0, hV, rfl, hfz, hnd⟩ := hW;have hA : DataW.TrodAll enc Tryz.prog W 0 (fun _ => true) true Tryz.f9.params.toList args.toList ds p := hA0;rw [Tryz.params9] at hA hval;obtain ⟨v0, vs0, d0, ds0, p0, q0, hargs, rfl, rfl, h0, r0⟩ := trodAll_cons hA;obtain ⟨v1, vs1, d1, ds1, p1, q1, rfl, rfl, rfl, h1, r1⟩ := trodAll_cons r0;obtain ⟨v2, vs2, d2, ds2, p2, q2, rfl, rfl, rfl, h2, r2⟩ := trodAll_cons r1;obtain ⟨rfl, rfl, rfl⟩ := trodAll_nil r2;obtain rfl : args = #[v0, v1, v2] := by cases args; simp_all
 obtain ⟨rfl, rfl⟩ := trodVars_none hV;obtain ⟨f0, rfl, hS0, hR0⟩ := GM (hval 0 24 v0 rfl rfl) h0;obtain ⟨A1, n1, c1, l1, rfl, hS1, _⟩ := I9 (hval 1 34 v1 rfl rfl) h1;obtain ⟨x2, rfl, rfl, rfl, b2⟩ := open_int Tryz.underlying3 (hval 2 3 v2 rfl rfl) h2;refine (qM f0 A1 n1 c1 l1 x2 W (zv hL) hS0 hR0 hS1).mono fun e W' ⟨he, hb⟩ => ?_;subst he;exact ⟨_, rfl, JQ hW' rfl UB (by rw [Tryz.params9]; exact V9 UB) UB Tryz.underlying4 rfl rfl rfl hb⟩
set_option maxHeartbeats 8000000 in
theorem row_holds : Rows.BernSlopesSaid :=
 OpenClaim.holds_of_wide 9 Tryz.f9 rfl rfl rfl rfl rfl rfl rfl ⟨rfl, rfl, rfl, rfl, rfl⟩ rfl rfl rfl rfl rfl (by as_aux_lemma => kernel_rfl) Tryz.func9 (by rw [joinedFacts]; simp only [UX]; and_intros <;> as_aux_lemma => kernel_rfl)
  (V9 (by as_aux_lemma => kernel_rfl)) (by unfold Func.isWrapper; first | (rw [UF (by decide +kernel)]; kernel_rfl) | (rw [UE (by decide +kernel)]; exact ⟨rfl, rfl⟩))
  (fun os started H enc _ => lifted os started H enc)
set_option maxHeartbeats 8000000 in
theorem holds : Rows.BernSlopesCardSaid :=
 Claim7.holds_tied_plain_at .later [] [.data, .data, .pinned] true (true, "2e00f90462f683c83fa0963bfbbf790e29f51abb4608f860dd030f3668376368") false row_holds (fun _ h => by cases h) (by as_aux_lemma => kernel_rfl) (fun _ h => by cases h) bernSlopes_row_tie rfl ⟨rfl, rfl⟩ (by as_aux_lemma => kernel_rfl) rfl
  (fun f fn hf hfn => by
   obtain rfl : f = 9 := Vl ((show Tryz.prog.funcNamed "ogee/ogeelaw12.BernSlopes" = some 9 by as_aux_lemma => kernel_rfl).symm.trans hf) |>.symm;obtain rfl : fn = Tryz.f9 := (Vl (Tryz.func9.symm.trans hfn)).symm;exact ⟨by as_aux_lemma => kernel_rfl, fun j t ht => by
    rw [Tryz.params9] at ht;have hm : t ∈ [24, 34, 3] := by simpa using Array.mem_of_getElem? ht
    have hall : ([24, 34, 3].all fun u => !Tryz.prog.wantsStandIn u) = true := by as_aux_lemma => kernel_rfl
    exact (show Tryz.prog.wantsStandIn t = false by simpa using Vb.1 hall t hm)⟩)
  (by as_aux_lemma => kernel_rfl)
#print axioms holds
end Go.Proofs.YteeckcbbnegmcaaGreatDoor.bernSlopes
