/- The row and the card of BernBack. -/
import Derived.Test.YteeckcbbnegmcaaGreatDoorCards
import Derived.Test.YteeckcbbnegmcaaGreatDoorTie
import Derived.SevenTiedAt
import Derived.Test.YteeckcbbnegmcaaGreatDoorZ6
namespace Go.Proofs.YteeckcbbnegmcaaGreatDoor
open Go.RowKit
instance : aK Tryz.prog 148 1 false 8 [.nilFunc] := {}
theorem yZ (fx : FX) (L : Option Addr) (m2 c2 : Nat) (tn : List NR) (k q G : Nat) (w : World) (hT : eh w) (hf : fx.at_ w) (hl : fx.l9 k) (hcap : fx.m ≤ fx.b) (hS : Sl w L m2 3 (az NR.cells tn)) (hv : ∀ s ∈ tn, MU q s s.d ∧ Sz q (1 - s.d)) (hq : q ≤ 2000)
  (hG : fx.e = 0 → ∀ d ∈ fx.ns, 2 + 2 * (q * d) + (d + 1) ≤ G) (hk : k + fx.n * G ≤ 500000) :
  Calls Tryz.prog 39 #[.agg #[.slice fx.A fx.n fx.a, .slice fx.B fx.m fx.b], .slice L m2 c2] w fun r w' => r = .returned (.tuple #[.agg #[.bool (nR (Md fx tn)).neg, .string (nR (Md fx tn)).bz, .int .i64 (nR (Md fx tn)).e], .int .i64 (Ha fx m2)]) ∧ Below w.heap.size w w' := by
 have hh := Hp.start w;have hck := fun w1 hT1 hb => xM fx k w1 hT1 (hf.ext hb) hl;have hlt := hS.bq NR.len TY;have hev0 : Ha fx m2 ≠ 0 → Md fx tn = 0 := fun h => by unfold Md; rw [hlt, T3 h]
 by_cases h0 : fx.e = 0
 ·by_cases h1 : m2 = fx.n
  ·have hE : Ha fx m2 = 0 := by unfold Ha; rw [T3 TX, T3 TX]
   have hV : Md fx tn = mC fx.ns.reverse (fx.cs.map NR.d) (tn.map NR.d).reverse := by unfold Md; rw [hlt, hE, T2 rfl]
   rw [hE, hV];obtain ⟨hdeg, hnum, h12, hlow, hcnt, hmax⟩ := FX.fv h0;have hln : fx.ds.length = fx.n := hf.ln.1;have hlm := hf.ln.2;have hnl : fx.ns.length = fx.n := by unfold FX.ns; rw [Ug]; exact hln
   have hm : fx.m = av fx.ns := by rw [← hlm, hcnt]
   have hdg : Sl w fx.A fx.n 1 (bJ (bL fx.ns)) := by rw [← hdeg]; exact hf.dg
   have hxz : ∀ x ∈ fx.cs.map NR.d, Sz k x := fun x h => by
    obtain ⟨c, hc, rfl⟩ := Ui.1 h;exact (hl.num c hc).2
   have hxl : (fx.cs.map NR.d).length = av fx.ns := by rw [Ug, hcnt]
   have hval := wZ fx.ns.reverse (tn.map NR.d).reverse (fx.cs.map NR.d) (by rw [UJ, UJ, Ug]; omega) (by rw [hxl, cU]);have hnm : Sl w fx.B (av fx.ns) 3 (az NR.cells ((fx.cs.map NR.d).map nR)) := by rw [← hm, ← hnum]; exact hf.nm
   have hG := hG h0;rw [hm] at hcap;refine HH ?_;refine jv fun D_ => ?_;refine ao ?_;refine cD hh [_,_] ?_;intro b2 w2 hh;refine bV hh ?_;intro b4 w4 hh;refine aI (aa ?_);refine jv fun D_ => ?_;refine sr ?_;refine cG hh 1 [_,_] ?_;refine fJ ?_;intro w13 hh;refine aI (aa (sr (mI ?_)));refine dn (aa (cF (ar (ai ?_))));refine jv fun D_ => ?_;refine sr (mL (aJ (bH ?_)));refine bG hh 1 ?_;refine aJ ?_;refine dn (aa (cF (ar (ai ?_))));refine jv fun D_ => ?_;refine ao (bH ?_);refine bG hh 1 ?_;refine aL (aa ?_);refine yu ?_;refine jv fun D_ => ?_;refine ao (mL (aJ ?_));refine dY (aI (aa ?_));rw [hm];have hst : ∀ (H : List HE) (w1 : World), Hp w (H ++ []) w1 → Sl w1 fx.B (av fx.ns) 3 (az NR.cells ((fx.cs.map NR.d).map nR)) := fun H w1 h => hnm.ext h.below;generalize fx.cs.map NR.d = xs at *;refine sT (Jz [7, 8, 9, 10, 11, 30, 31, 32, 33, 34, 35, 36, 37, 38, 39, 40, 41, 42, 43, 44, 45, 46, 47, 48, 49, 50, 51, 52, 53, 54] 7 8
    (fun M v7 v8 w' => ∃ (j : Nat) (z : Int) (X : List Dyadic) (A : Option Addr) (a : Nat) (R : List HE), j ≤ fx.n ∧ v8 = .int .i64 z ∧ z = (j : Int) - 1 ∧ v7 = .slice A (av (fx.ns.take j)) a ∧ av (fx.ns.take j) ≤ a ∧ X.length = av (fx.ns.take j) ∧ (∀ x ∈ X, Sz (k + (fx.n - j) * G) x) ∧ nG (fx.ns.take j).reverse ((tn.map NR.d).take j).reverse X = nG fx.ns.reverse (tn.map NR.d).reverse xs ∧ (∀ x ∈ R, x.Qh = true) ∧ (∀ (H : List HE) (w1 : World), Hp w (H ++ R) w1 → Sl w1 A (av (fx.ns.take j)) 3 (az NR.cells (X.map nR))) ∧ Hp w (.blk b4 65 [.bool false, .string (ByteArray.mk #[]), .int .i64 0] (0, 0) :: .blk b2 39 [.slice fx.A fx.n fx.a, .slice fx.B fx.m fx.b] (0, 0) :: (R ++ pP M)) w')
    (fun _ v _ => (intOf v + 1).toNat) ?_ ?_)
   ·refine ⟨fx.n, _, xs, _, _, [], T5 _, rfl, TX, by rw [T9 TX]; rfl, by rw [T9 TX]; exact hcap, by rw [T9 TX]; exact hxl, fun x h => (hxz x h).mono TX, by rw [T9 TX, T9 (by rw [Ug]; omega)], fun x h => (by cases h), by rw [T9 TX]; exact hst, hh⟩
   ·clear hh hst;rintro M ρ' v7 v8 w' ⟨j, z, X, A, a, R, hj, rfl, hz, rfl, hca, hXl, hXz, hXe, hcR, hrd, hh⟩;by_cases hj0 : j = 0
    ·subst hj0;obtain rfl : z = -1 := TX;have hX : X = [mC fx.ns.reverse xs (tn.map NR.d).reverse] := by
      rw [← hval, ← hXe];simp [nG]
     subst hX;have hh1 : Hp w ([_, _] ++ R) w' := hh.sub (.cons_cons _ (.cons_cons _ (Wl R _)));have hsl := hrd _ _ hh1;rw [Wb] at hsl;obtain ⟨ac, rfl, sc⟩ := hsl.at_ (show 0 < av [] by decide);have hx0 : ([mC fx.ns.reverse xs (tn.map NR.d).reverse].map nR)[0]? = some (nR (mC fx.ns.reverse xs (tn.map NR.d).reverse)) := rfl;generalize mC fx.ns.reverse xs (tn.map NR.d).reverse = V at *;rw [Wb];refine jv fun D_ => ?_;refine sr (mI ?_);refine dW (aa (cF (a6 (aD ?_))));refine LD ?_;refine jv fun D_ => ?_;refine ao (mL ?_);refine da (k := 0) bk.out aK.size rfl rfl TX (show 0 < av [] by decide) TY ?_;refine cw (vs := [_, _, _]) aK.out rfl (sc.recAt NR.len hx0) rfl TY ?_;refine bW hh 0 [_,_,_] ?_;intro ws hh;replace hh : Hp _ (.blk _ _ [_, _, _] _ :: _) _ := hh;refine aI (aa ?_);refine Fk fun D_ => ?_;refine au ?_;refine qS (M := M) (vs := [.agg #[.bool (nR V).neg, .string (nR V).bz, .int .i64 (nR V).e], .int .i64 0]) (hh.perm (List.perm_append_comm (l₁ := _ :: _ :: R))) (.inr rfl) rfl ?_;exact OK
    ·obtain ⟨i, rfl⟩ : ∃ i, j = i + 1 := ⟨j - 1, TX⟩;obtain rfl : z = (i : Int) := TX;obtain ⟨tq, htq⟩ := ak (l := tn) (k := i) TX;obtain ⟨vt, ht1⟩ := hv tq (T7 htq);obtain ⟨d, hd⟩ := ak (l := fx.ns) (k := i) TX;have hmd := T7 hd;have hdl := hlow d hmd;have hGd := hG d hmd;have hgd := cj (ix hd);obtain ⟨adL, rfl, sL⟩ := hS.at_ TX;obtain ⟨adD, hAD, sD⟩ := hdg.at_ TX;have gy : Value.slice fx.A fx.n fx.a = .slice (some adD) fx.n fx.a := by rw [hAD]
     have hh1 : Hp w ([_, _] ++ R) w' := hh.sub (.cons_cons _ (.cons_cons _ (Wl R _)));obtain ⟨ac, rfl, -⟩ := (hrd _ _ hh1).at_ (cS _);clear hh1;have hcs : av (fx.ns.take (i + 1)) = av (fx.ns.take i) * (d + 1) := by rw [ay hd, dT]; simp [av]
     have hct := jg fx.ns (i + 1);have hcp := cS (fx.ns.take i);have hc4 := jg fx.ns i;have hd1c : d + 1 ≤ av (fx.ns.take (i + 1)) := by rw [hcs]; exact Nat.le_mul_of_pos_left _ hcp
     have hKG : k + (fx.n - (i + 1)) * G + G = k + (fx.n - i) * G := by
      rw [show fx.n - i = fx.n - (i + 1) + 1 by omega, VV, VX];omega
     have hKle : k + (fx.n - (i + 1)) * G ≤ 500000 := by
      have := U2 G (show fx.n - (i + 1) ≤ fx.n by omega);omega
     have eD : (d : Int) + 1 = ((d + 1 : Nat) : Int) := TX;refine jv fun D_ => ?_;refine sr (mI ?_);refine dW (aa (cT (ar (ai ?_))));refine yu (sT ?_);refine jv fun D_ => ?_;refine ao (mL (mI ?_));refine cu ?_;refine cw (vs := [_, _, _]) aK.out rfl ((sL.ext hh.below).recAt NR.len htq) rfl TY ?_;refine aF (xL tq tq.d q _ (hT.hp hh) vt hq) al.out rfl TY ?_;rintro e_ w38 ⟨b1, b3, rfl, h2⟩;refine ⟨_, rfl, ?_⟩;replace hh := hh.join h2;simp only [Ud, Ub] at hh;clear h2;refine bV hh ?_;intro b9 w9 hh;refine bW hh 0 [_] ?_;intro ws hh;replace hh : Hp _ (.blk _ _ [_] _ :: _) _ := hh;refine aa ?_;refine jv fun D_ => ?_;refine ao ?_;refine bV hh ?_;intro b10 w10 hh;refine aa ?_;refine yu ?_;refine jv fun D_ => ?_;refine ao (mL (bH ?_));refine bG hh 5 ?_;refine mI ?_;refine da (k := i) bk.out aK.size gy rfl TX TX TY ?_;refine bT aK.out rfl ((sD.ext hh.below).xT hgd) TY ?_;refine bj ?_;rw [eD];refine aF (Ab (some ac) (av (fx.ns.take (i + 1))) a (d + 1) _ TX) al.out rfl TY ?_;rintro e_ w46 ⟨c2, c1, rfl, h2⟩;refine ⟨_, rfl, ?_⟩;replace hh := hh.join h2;simp only [Ud, Ub] at hh;clear h2;replace hh := hh.perm (U3 (l₁ := [_, _]))
     simp only [Ud, Ub] at hh;replace hh := hh.de 65 3;refine aa ?_;have hmk := hh.PD (M := M) (by repeat (first | exact Xp _ _ | apply T8));have hmlt := hmk.lt;replace hh := hh.sub (H' := _ :: _ :: _ :: _ :: _ :: _ :: _ :: _ :: _ :: R) (by repeat (first | exact Wl _ _ | apply T4));have hc2 := hh.dZ (i := 3) (o := 0) rfl rfl;have hc1 := hh.dZ (i := 2) (o := 0) rfl rfl;have hseq := FJ c2 c1 ac (av (fx.ns.take (i + 1))) a (d + 1) (av (fx.ns.take i)) _ hc2 hc1 hcs TX hca TX TX
     have hcel : ∀ (A1 : Option Addr) (n1 k1 : Nat) (cs vs : List Value), ∀ x ∈ (HE.row A1 n1 k1 65 3 cs :: .blk b10 37 vs (0, 0) :: .blk c1 3 [.int .i64 ((d + 1 : Nat) : Int)] (0, 0) :: .blk c2 37 [.slice (some ac) (av (fx.ns.take (i + 1))) a] (0, 0) :: .blk b9 148 [.func (.func 191) #[] #[.pointer (some ⟨b1, 0, none⟩), .pointer (some ⟨b3, 0, none⟩)]] (0, 0) :: .blk b3 65 [.bool (nR (1 - tq.d)).neg, .string (nR (1 - tq.d)).bz, .int .i64 (nR (1 - tq.d)).e] (0, 0) :: .blk b1 65 [.bool tq.neg, .string tq.bz, .int .i64 tq.e] (0, 0) :: .blk b4 65 [.bool false, .string (ByteArray.mk #[]), .int .i64 0] (0, 0) :: .blk b2 39 [.slice fx.A fx.n fx.a, .slice fx.B fx.m fx.b] (0, 0) :: R), x.Qh = true := fun A1 n1 k1 cs vs x hx => by
      simp only [Ul] at hx
      rcases hx with rfl | rfl | rfl | rfl | rfl | rfl | rfl | rfl | rfl | hx
      all_goals first | rfl | exact hcR x hx
     trace_state
     refine sT (GP (α := Fin (av (fx.ns.take i))) (enc := fun jj : Fin (av (fx.ns.take i)) => .slice (some (ac.add (jj.val * (d + 1) * 3))) (d + 1) (d + 1)) 11 TY TY rfl (enters_of Tryz.func192 TZ rfl) hseq Mi (fun W l o o' h _ _ _ => Lc (lv hc2) (lv hc1) W l o o' h)
      (fun bs W => ∃ (Y : List Dyadic) (A1 : Option Addr) (k1 : Nat), Y.length = bs.length ∧ (∀ y ∈ Y, Sz (k + (fx.n - i) * G) y) ∧ (bs = (List.finRange (av (fx.ns.take i))).take bs.length → Y = (kU d tq.d (av (fx.ns.take i)) X).take bs.length) ∧ Marks w M W ∧ Hp w (.row A1 bs.length k1 65 3 (az NR.cells (Y.map nR)) :: .blk b10 37 [.slice A1 bs.length k1] (0, 0) :: .blk c1 3 [.int .i64 ((d + 1 : Nat) : Int)] (0, 0) :: .blk c2 37 [.slice (some ac) (av (fx.ns.take (i + 1))) a] (0, 0) :: .blk b9 148 [.func (.func 191) #[] #[.pointer (some ⟨b1, 0, none⟩), .pointer (some ⟨b3, 0, none⟩)]] (0, 0) :: .blk b3 65 [.bool (nR (1 - tq.d)).neg, .string (nR (1 - tq.d)).bz, .int .i64 (nR (1 - tq.d)).e] (0, 0) :: .blk b1 65 [.bool tq.neg, .string tq.bz, .int .i64 tq.e] (0, 0) :: .blk b4 65 [.bool false, .string (ByteArray.mk #[]), .int .i64 0] (0, 0) :: .blk b2 39 [.slice fx.A fx.n fx.a, .slice fx.B fx.m fx.b] (0, 0) :: R) W)
      ?own ?zero ?asg ?body ?done)
     case own =>
      intro s W W' row ⟨Y, A1, k1, h1, h2, h3, h4, h5⟩ hg hr;exact ⟨Y, A1, k1, h1, h2, h3, h4.grown hmlt hg (fun r e => (hr r e).1), h5.P2 (hcel _ _ _ _ _) hg fun r e => ⟨Ur hh.size (hr r e).1, (hr r e).2⟩⟩
     case zero => exact ⟨[], none, 0, rfl, fun y h => (by cases h), fun _ => rfl, hmk, hh⟩
     case asg =>
      intro l x W;refine ao (aL (aA ?_));exact ⟨rfl, rfl⟩
     case body =>
      rintro l bs qq W ⟨Y, A1, k1, hYl, hYz, hYe, hmk2, hh0⟩ hbl;have hqm := qq.isLt;have hh := hh0.Lf;simp only [Ud, Ub] at hh;generalize hO : BK _ _ _ = O at hh;have hq1 : qq.val * (d + 1) + (d + 1) ≤ av (fx.ns.take (i + 1)) := by
       have := U2 (d + 1) (show qq.val + 1 ≤ av (fx.ns.take i) from hqm);rw [Va] at this;omega
      have hline := (hrd [_, _, _, _, _, _, _, _, _] W hh0).part (qq.val * (d + 1)) (d + 1) hq1 TX;rw [wH] at hline;have hfo := fun w1 hT1 hS1 hb1 hb2 => vf tq tq.d ⟨b1, 0, none⟩ ⟨b3, 0, none⟩ (some (ac.add (qq.val * (d + 1) * 3))) (d + 1) (d + 1) d (mJ (d + 1) qq.val X) (k + (fx.n - (i + 1)) * G) q w1 hT1 hS1 rfl hdl (fun x hx => hXz x (qE hx)) vt ht1 hb1 hb2 hKle hq;have hfz := yk (d := d) (i := d + 1) (fun x hx => hXz x (qE (K := d + 1) (q := qq.val) hx)) vt.sz ht1 (T5 _);have hfa := Ji (d := d) (m := av (fx.ns.take i)) tq.d X hqm;generalize lO d tq.d (mJ (d + 1) qq.val X) (d + 1) = y at *;refine aq ?_;refine Hi hh mixed fun W2 hJ2 => ?_;have hst2 := hJ2.hp
      refine JS (I := fun c x1 x2 e g ρ w' => ρ 9 = .pointer (some ⟨b9, 0, none⟩) ∧ ρ 10 = .pointer (some ⟨b10, 0, none⟩) ∧ ρ 11 = .slice (some (ac.add (qq.val * (d + 1) * 3))) (d + 1) (d + 1) ∧ (c = true → ρ 48 = .slice A1 bs.length k1) ∧ (x1 = true → ρ 49 = .func (.func 191) #[] #[.pointer (some ⟨b1, 0, none⟩), .pointer (some ⟨b3, 0, none⟩)]) ∧ (x2 = true → ρ 50 = .slice (some (ac.add (qq.val * (d + 1) * 3))) (d + 1) (d + 1)) ∧ (e = true → ρ 51 = .agg #[.bool (nR y).neg, .string (nR y).bz, .int .i64 (nR y).e]) ∧ ∃ R52 : List HE, Hp w (R52 ++ (.row A1 bs.length k1 65 3 (az NR.cells (Y.map nR)) :: .blk b10 37 [.slice A1 bs.length k1] (0, 0) :: .blk c1 3 [.int .i64 ((d + 1 : Nat) : Int)] (0, 0) :: .blk c2 37 [.slice (some ac) (av (fx.ns.take (i + 1))) a] (0, 0) :: .blk b9 148 [.func (.func 191) #[] #[.pointer (some ⟨b1, 0, none⟩), .pointer (some ⟨b3, 0, none⟩)]] (0, 0) :: .blk b3 65 [.bool (nR (1 - tq.d)).neg, .string (nR (1 - tq.d)).bz, .int .i64 (nR (1 - tq.d)).e] (0, 0) :: .blk b1 65 [.bool tq.neg, .string tq.bz, .int .i64 tq.e] (0, 0) :: .blk b4 65 [.bool false, .string (ByteArray.mk #[]), .int .i64 0] (0, 0) :: .blk b2 39 [.slice fx.A fx.n fx.a, .slice fx.B fx.m fx.b] (0, 0) :: (R ++ O))) w' ∧ (g = true → ∃ g52, ρ 52 = .slice (some ⟨g52, 0, none⟩) 1 1 ∧ R52 = [.row (some ⟨g52, 0, none⟩) 1 1 65 3 [.bool (nR y).neg, .string (nR y).bz, .int .i64 (nR y).e]]))
       (J := fun ρ w' => ρ 10 = .pointer (some ⟨b10, 0, none⟩) ∧ ∃ (A3 : Option Addr) (k3 : Nat), ρ 53 = .slice A3 (bs.length + 1) k3 ∧ Hp w (.row A3 (bs.length + 1) k3 65 3 (az NR.cells (Y.map nR) ++ [.bool (nR y).neg, .string (nR y).bz, .int .i64 (nR y).e]) :: .blk b10 37 [.slice A1 bs.length k1] (0, 0) :: .blk c1 3 [.int .i64 ((d + 1 : Nat) : Int)] (0, 0) :: .blk c2 37 [.slice (some ac) (av (fx.ns.take (i + 1))) a] (0, 0) :: .blk b9 148 [.func (.func 191) #[] #[.pointer (some ⟨b1, 0, none⟩), .pointer (some ⟨b3, 0, none⟩)]] (0, 0) :: .blk b3 65 [.bool (nR (1 - tq.d)).neg, .string (nR (1 - tq.d)).bz, .int .i64 (nR (1 - tq.d)).e] (0, 0) :: .blk b1 65 [.bool tq.neg, .string tq.bz, .int .i64 tq.e] (0, 0) :: .blk b4 65 [.bool false, .string (ByteArray.mk #[]), .int .i64 0] (0, 0) :: .blk b2 39 [.slice fx.A fx.n fx.a, .slice fx.B fx.m fx.b] (0, 0) :: (R ++ O)) w')
       (K := fun _ w' => ∃ (A3 : Option Addr) (k3 : Nat), Hp w (.row A3 (bs.length + 1) k3 65 3 (az NR.cells (Y.map nR) ++ [.bool (nR y).neg, .string (nR y).bz, .int .i64 (nR y).e]) :: .blk b10 37 [.slice A3 (bs.length + 1) k3] (0, 0) :: .blk c1 3 [.int .i64 ((d + 1 : Nat) : Int)] (0, 0) :: .blk c2 37 [.slice (some ac) (av (fx.ns.take (i + 1))) a] (0, 0) :: .blk b9 148 [.func (.func 191) #[] #[.pointer (some ⟨b1, 0, none⟩), .pointer (some ⟨b3, 0, none⟩)]] (0, 0) :: .blk b3 65 [.bool (nR (1 - tq.d)).neg, .string (nR (1 - tq.d)).bz, .int .i64 (nR (1 - tq.d)).e] (0, 0) :: .blk b1 65 [.bool tq.neg, .string tq.bz, .int .i64 tq.e] (0, 0) :: .blk b4 65 [.bool false, .string (ByteArray.mk #[]), .int .i64 0] (0, 0) :: .blk b2 39 [.slice fx.A fx.n fx.a, .slice fx.B fx.m fx.b] (0, 0) :: (R ++ O)) w')
       rfl rfl rfl rfl rfl rfl rfl TZ TZ TZ TZ TZ TZ TZ TZ TZ TZ TZ TZ TZ TZ ?s0 ?s1 ?s2 ?s3 ?s4 ?s5 ?s6 ?fin ?st
      case st => exact ⟨rfl, rfl, rfl, fun h => (by cases h), fun h => (by cases h), fun h => (by cases h), fun h => (by cases h), [], hst2, fun h => (by cases h)⟩
      case s0 =>
       rintro a b e g ρ w3 ⟨h9, h10, h11, -, h49, h50, h51, R52, hp, h52⟩;have hp2 := hp.sub (Xp R52 _);refine bT aK.out h10 (hp2.dZ (i := 1) (o := 0) rfl rfl) TY (aa ?_);refine ⟨(bm _ TY _).trans h9, (bm _ TY _).trans h10, (bm _ TY _).trans h11, fun _ => iF _ _ _, fun h => (bm _ TY _).trans (h49 h), fun h => (bm _ TY _).trans (h50 h), fun h => (bm _ TY _).trans (h51 h), R52, hp, fun h => ?_⟩;obtain ⟨g52, h1, h2⟩ := h52 h;exact ⟨g52, (bm _ TY _).trans h1, h2⟩
      case s1 =>
       rintro c b ρ w3 ⟨h9, h10, h11, h48, -, h50, h51, R52, hp, h52⟩;have hp2 := hp.sub (Xp R52 _);refine bT aK.out h9 (hp2.dZ (i := 4) (o := 0) rfl rfl) TY (aa ?_);exact ⟨(bm _ TY _).trans h9, (bm _ TY _).trans h10, (bm _ TY _).trans h11, fun h => (bm _ TY _).trans (h48 h), fun _ => iF _ _ _, fun h => (bm _ TY _).trans (h50 h), fun h => (by cases h), R52, hp, fun h => (by cases h)⟩
      case s2 =>
       rintro c a ρ w3 ⟨h9, h10, h11, h48, h49, -, h51, R52, hp, h52⟩;refine aQ rfl rfl TY (eH h11) (aa ?_);exact ⟨(bm _ TY _).trans h9, (bm _ TY _).trans h10, (bm _ TY _).trans h11, fun h => (bm _ TY _).trans (h48 h), fun h => (bm _ TY _).trans (h49 h), fun _ => iF _ _ _, fun h => (by cases h), R52, hp, fun h => (by cases h)⟩
      case s3 =>
       rintro c ρ w3 ⟨h9, h10, h11, h48, h49, h50, -, R52, hp, h52⟩;have hp2 := hp.sub (Xp R52 _);have hp3 : Hp w ([_, _, _, _, _, _, _, _, _] ++ R) w3 := hp2.sub (by repeat (first | exact Wl _ _ | apply T4));have hl3 := (hrd _ w3 hp3).part (qq.val * (d + 1)) (d + 1) hq1 TX;rw [wH] at hl3;refine gg (first := []) (cap := [_, _]) (hfo w3 (hT.hp hp2) hl3 (hp2.ck (i := 6) (n := 3) rfl rfl) (hp2.ck (i := 5) (n := 3) rfl rfl)) al.out (h49 rfl) (U9 (fun l => [] ++ (l ++ [_, _])) (aw (show ev ρ (Operand.tmp 50) = _ from h50 rfl) aZ)) TY ?_;rintro e_ w5 ⟨rfl, hb_⟩;refine ⟨_, rfl, aa ?_⟩;exact ⟨(bm _ TY _).trans h9, (bm _ TY _).trans h10, (bm _ TY _).trans h11, fun h => (bm _ TY _).trans (h48 h), fun h => (bm _ TY _).trans (h49 h), fun h => (bm _ TY _).trans (h50 h), fun _ => iF _ _ _, R52, hp.ext hb_, fun h => (by cases h)⟩
      case s4 =>
       rintro c ρ w3 ⟨h9, h10, h11, h48, h49, h50, h51, R52, hp, -⟩;have hp2 := hp.sub (Xp R52 _);refine cP hp2 (cs := [_, _, _]) bk.out aK.out (aM (show ev ρ (Operand.tmp 51) = _ from h51 rfl) bU) rfl rfl TY TY TY rfl TY ?_;intro g52 w5 hp5;refine aa ?_;exact ⟨(bm _ TY _).trans h9, (bm _ TY _).trans h10, (bm _ TY _).trans h11, fun h => (bm _ TY _).trans (h48 h), fun h => (bm _ TY _).trans (h49 h), fun h => (bm _ TY _).trans (h50 h), fun h => (bm _ TY _).trans (h51 h), [_], hp5, fun _ => ⟨g52, iF _ _ _, rfl⟩⟩
      case s5 =>
       rintro ρ w3 ⟨h9, h10, h11, h48, h49, h50, h51, R52, hp, h52⟩;obtain ⟨g52, h52', rfl⟩ := h52 rfl;refine cK hp (i := 1) rfl (show ev ρ (Operand.tmp 48) = _ from h48 rfl) (show ev ρ (Operand.tmp 52) = _ from h52') (hp.aC (i := 0) rfl) bk.out aK.out rfl TY (cv NR.one [nR y]) TX TX TY ?_;intro A3 k3 w5 hp5;refine aa ⟨(bm _ TY _).trans h10, A3, k3, iF _ _ _, ?_⟩;exact hp5.sub (UM _ _)
      case s6 =>
       rintro ρ w3 ⟨h10, A3, k3, h53, hp⟩;refine AL hp h10 (i := 1) rfl h53 rfl aK.out rfl (by simp) rfl ?_;intro w5 hp5;exact aa ⟨A3, k3, hp5⟩
      case fin =>
       rintro ρ ws ⟨A3, k3, hh⟩;refine bE ?_;subst hO;obtain ⟨gr, rfl⟩ := hh.cB (i := 0) rfl TX;have hkeep := Hp.OO (T' := _ :: _ :: _ :: _ :: _ :: _ :: _ :: _ :: R) hh0 (hcel _ _ _ _ _) hh rfl rfl;have el : (bs ++ [qq]).length = bs.length + 1 := by simp
       refine ⟨hkeep, ⟨by rw [hh.dZ (i := 3) (o := 0) rfl rfl, hh0.dZ (i := 3) (o := 0) rfl rfl], by rw [hh.dZ (i := 2) (o := 0) rfl rfl, hh0.dZ (i := 2) (o := 0) rfl rfl]⟩, Y ++ [y], some ⟨gr, 0, none⟩, k3, ?_, ?_, ?_, hmk2.keeps hkeep, ?_⟩
       ·rw [el, Ua, hYl]; rfl
       ·intro x hx
        rcases UD.1 hx with hx | hx
        ·exact hYz x hx
        ·obtain rfl := Un.1 hx;exact hfz.mono TX
       ·intro h;obtain ⟨h1, h2⟩ := Fq h hbl;rw [el, hYe h1, ← h2, ay hfa]
       ·rw [el, UU, bY];exact hh.sub (by repeat (first | exact Wl _ _ | apply T4))
     case done =>
      rintro D bs W hD2 rfl ⟨Y, A1, k1, hYl, hYz, hYe, hmk2, hh0⟩ hDo;have hA2 := hYe (by rw [T9 (T5 _)]);rw [T9 (by rw [qu, WY]; exact T5 _)] at hA2;rw [WY] at hh0;subst hA2;have hmk3 := hmk2.cons hmlt hh.size hD2 hDo;have hroom := hh0.e8 (i := 0) rfl;replace hh := hh0.OI (hcel _ _ _ _ _) hmk3;simp only [Ud, Ub] at hh;refine Fk fun D_ => ?_;refine ao ?_;refine bG hh 1 ?_;refine aL (aA ?_);refine Pj ?_;refine Fk fun D_ => ?_;refine ao (mI ?_);refine dY (aI (aA ?_));refine Jw ?_;replace hh := hh.sub (T4 _ (T8 _ (T8 _ (T8 _ (T8 _ (T8 _ (T8 _ (T4 _ (T4 _ (Vi _))))))))));replace hh := hh.perm (U3 (l₁ := [_, _]));simp only [Ud, Ub] at hh;replace hh := hh.perm (U3 (l₁ := [_, _]));simp only [Ud, Ub] at hh
      refine ⟨⟨i, (i : Int) - 1, kU d tq.d (av (fx.ns.take i)) X, A1, k1, .row A1 (av (fx.ns.take i)) k1 65 3 (az NR.cells ((kU d tq.d (av (fx.ns.take i)) X).map nR)) :: R, TX, rfl, rfl, rfl, hroom, qu _ _ _ _, fun x hx => (Hf hXz vt.sz ht1 x hx).mono TX, ?_, fun x hx => ?_, fun H w1 h1 => ?_, hh⟩, ?_, ?_⟩
      ·rw [← BJ X hd (by rw [Ue, htq]; rfl)];exact hXe
      ·rcases Ul.1 hx with rfl | hx
       ·rfl
       ·exact hcR x hx
      ·exact lI (h1.own (.row A1 (av (fx.ns.take i)) k1 65 3 (az NR.cells ((kU d tq.d (av (fx.ns.take i)) X).map nR))) (VK _ Uc))
      ·show ((i : Int) - 1 + 1).toNat < ((i : Int) + 1).toNat;omega
      ·exact dQ
  ·have hE : Ha fx m2 = 1 := by unfold Ha; rw [T3 TX, T2 h1]
   rw [hev0 (by rw [hE]; decide), hE];refine HH ?_;refine jv fun D_ => ?_;refine ao ?_;refine cD hh [_,_] ?_;intro b2 w2 hh;refine bV hh ?_;intro b4 w4 hh;refine aI (aa ?_);refine jv fun D_ => ?_;refine sr ?_;refine cG hh 1 [_,_] ?_;refine fJ ?_;intro w13 hh;refine aI (aa (sr (mI ?_)));refine dn (aa (cF (ar (ai ?_))));refine jv fun D_ => ?_;refine sr (mL (aJ (bH ?_)));refine bG hh 1 ?_;refine aJ ?_;refine dn (aa (cT (sr ?_)));refine gB [_,_,_] ?_;refine bW hh 0 [_,_,_] ?_;intro ws hh;replace hh : Hp _ (.blk _ _ [_, _, _] _ :: _) _ := hh;refine aI (aa (au (aG ?_)));refine qS (M := []) (vs := [.agg #[.bool false, .string (ByteArray.mk #[]), .int .i64 0], .int .i64 1]) hh (.inr rfl) rfl ?_;exact OK
 ·have hE : Ha fx m2 = fx.e := by unfold Ha; rw [T2 h0]
  rw [hev0 (by rw [hE]; exact h0), hE];refine HH ?_;refine jv fun D_ => ?_;refine ao ?_;refine cD hh [_,_] ?_;intro b2 w2 hh;refine bV hh ?_;intro b4 w4 hh;refine aI (aa ?_);refine jv fun D_ => ?_;refine sr ?_;refine cG hh 1 [_,_] ?_;refine fJ ?_;intro w13 hh;refine aI (aa (sr (mI ?_)));refine dn (aa (cT (sr ?_)));refine gB [_,_,_] (mI ?_);refine bW hh 0 [_,_,_] ?_;intro ws hh;replace hh : Hp _ (.blk _ _ [_, _, _] _ :: _) _ := hh;refine aI (aa (au (aG ?_)));refine qS (M := []) (vs := [.agg #[.bool false, .string (ByteArray.mk #[]), .int .i64 0], .int .i64 fx.e]) hh (.inr rfl) rfl ?_;exact OK
variable {z : Int}
def er (es : List UInt8) (z : Int) : VP := fun v W => ∃ g : Option Addr × Nat, v = .agg #[.int .i64 es.length, .slice g.1 1 g.2] ∧ 1 ≤ g.2 ∧ Sl W g.1 1 4 (az TR.cells [⟨str es, eE z⟩])
theorem er.ext {es : List UInt8} (v : Value) (w w' : World) (h : er es z v w) (hb : Below w.heap.size w w') : er es z v w' := let ⟨g, h1, h2, h3⟩ := h; ⟨g, h1, h2, h3.ext hb⟩
def QT (l : List Int) : Bool := l.all fun z => decide (z.natAbs < 256)
theorem me {l : List Int} (h : QT l = true) : ∀ z ∈ l, z.natAbs < 256 := fun z hz => Vv (Ux.1 h z hz)
theorem RN (l : List Int) (A : Option Addr) (n c : Nat) (w : World) (hS : Sl w A n 1 (bJ l)) (hl : QT l = true) (hn : n ≤ 1000) : Calls Tryz.prog 104 #[.slice A n c] w fun r w' => ∃ v, r = .returned v ∧ Rows n 3 (az NR.cells (l.map eE)) v w' ∧ Below w.heap.size w w' :=
 (lX l A n c w hS (me hl) hn).mono fun r w' ⟨B, c', hr, h3⟩ => ⟨_, hr, ⟨B, c', rfl, h3.aC (i := 0) rfl⟩, h3.below⟩
theorem GV (l : List Int) (A : Option Addr) (n c : Nat) (w : World) (hS : Sl w A n 1 (bJ l)) (hl : QT l = true) (hn : n ≤ 1000) : Calls Tryz.prog 105 #[.slice A n c] w fun r w' => ∃ v, r = .returned v ∧ Rows n 6 (az SR.cells (jV l)) v w' ∧ Below w.heap.size w w' :=
 (CN l A n c w hS (me hl) hn).mono fun r w' ⟨B, c', hr, h3⟩ => ⟨_, hr, ⟨B, c', rfl, h3.aC (i := 0) rfl⟩, h3.below⟩
theorem qj (z : Int) (es : List UInt8) (A : Option Addr) (n c : Nat) (w : World) (hS : Sl w A n 1 (nq es)) (hz : z.natAbs < 256) (hn : es.length = n) (hn2 : n ≤ 1000) : Calls Tryz.prog 107 #[.int .i64 z, .slice A n c] w fun r w' => ∃ v, r = .returned v ∧ er es z v w' ∧ Below w.heap.size w w' :=
 (yD z es A n c w hS hz hn hn2).mono fun r w' ⟨B, c', hr, h3⟩ => ⟨_, hr, ⟨(B, c'), by rw [hn], h3.e8 (i := 0) rfl, h3.aC (i := 0) rfl⟩, h3.below⟩
def KZ (es : List UInt8) (z : Int) : PX := ⟨es.length, none, 0, 0, [⟨str es, eE z⟩]⟩
theorem J5 {p q : PX} (hv : p.v = q.v) (ht : p.ts = q.ts) (b : List SR) (ds : List Int) : nK p b ds = nK q b ds ∧ OS p ds = OS q ds ∧ cQ p (bp b) = cQ q (bp b) := by
 obtain ⟨pv, pA, pn, pc, pt⟩ := p;obtain ⟨qv, qA, qn, qc, qt⟩ := q;replace hv : pv = qv := hv;replace ht : pt = qt := ht;subst hv ht;exact ⟨rfl, rfl, rfl⟩
def S6 (z : Int) (es : List UInt8) (bl ds l : List Int) : Bool := decide (z.natAbs < 256 ∧ es.length ≤ 12 ∧ nK (KZ es z) (jV bl) ds = 0 ∧ qz (OS (KZ es z) ds) (cQ (KZ es z) (bp (jV bl))).2 = l.map (fun z : Int => (z : Dyadic)) ∧ fS (124 + 124 + 16394) (cR es.length [⟨str es, eE z⟩]) (124 + 1) ≤ 440000) && QT bl && QT l
theorem Rx (z : Int) (es : List UInt8) (bl ds l : List Int) (A : Option Addr) (c : Nat) (B : Option Addr) (n bc : Nat) (M : Option Addr) (m mc : Nat) (D : Option Addr) (k dc : Nat) (w : World) (hT : eh w) (o : 1 ≤ c ∧ Sl w A 1 4 (az TR.cells [⟨str es, eE z⟩])) (hB : Sl w B n 6 (az SR.cells (jV bl))) (hM : Sl w M m 1 (bJ ds)) (hmc : m ≤ mc) (hS : Sl w D k 1 (bJ l))
  (hn : n ≤ 1000) (hm : m ≤ 1000) (hk : k ≤ 1000) (hc : S6 z es bl ds l = true) :
  Calls Tryz.prog 106 #[.agg #[.int .i64 es.length, .slice A 1 c], .slice B n bc, .slice M m mc, .slice D k dc] w fun r w' => r = .returned (.bool true) ∧ Below w.heap.size w w' := by
 unfold S6 at hc;rw [Uj, Uj] at hc;obtain ⟨⟨hc, hbl⟩, hl⟩ := hc;obtain ⟨hz, hes, hE, hX, hg⟩ := Vv hc;have hk1 := J5 (p := ⟨es.length, A, 1, c, [⟨str es, eE z⟩]⟩) (q := KZ es z) rfl rfl (jV bl) ds;refine Gk ⟨es.length, A, 1, c, [⟨str es, eE z⟩]⟩ B n bc (jV bl) M m mc ds D k dc l w hT o.2 ⟨by show 1 ≤ 1000000; decide, o.1, fun t ht => ?_, fun t ht => ?_⟩ hB (fun s hs => ?_) hn hM hm hmc hg hS (me hl) hk (hk1.1.trans hE) (by rw [hk1.2.1, hk1.2.2]; exact hX)
 ·rw [Un.1 ht];exact ⟨(oG hz).1, (oG hz).2.mono TY⟩
 ·rw [Un.1 ht];show (str es).size ≤ 100000;rw [lk];omega
 ·obtain ⟨y, hy, rfl⟩ := Ui.1 hs;have h1 := oG (me hbl y hy);exact ⟨⟨(Sz.zero 124).ok TY, by show Sz 124 (nR 0).d; rw [bR]; exact Sz.zero _⟩, ⟨h1.1, h1.2.mono TY⟩⟩
abbrev fZ (A : Option Addr) (a : Nat) (B : Option Addr) (b : Nat) : FX := ⟨A, 1, a, B, 3, b, [2], [0, 0, 4].map eE⟩
theorem CA (A : Option Addr) (a : Nat) (B : Option Addr) (b : Nat) : (fZ A a B b).l9 24 := ⟨by show 1 ≤ 1000; decide, by show 3 ≤ 100000; decide, fun c hc => by
 obtain ⟨z, hz, rfl⟩ := Ui.1 hc;exact oG (me (l := [0, 0, 4]) TY z hz)⟩
theorem KV (A : Option Addr) (a : Nat) (B : Option Addr) (b : Nat) (L : Option Addr) (lc : Nat) (w : World) (hT : eh w) (hf : (fZ A a B b).at_ w) (hb : 3 ≤ b) (hS : Sl w L 1 3 (az NR.cells [nR (((1 : Int) : Dyadic) * pd (-1))])) :
  Calls Tryz.prog 39 #[.agg #[.slice A 1 a, .slice B 3 b], .slice L 1 lc] w fun r w' => r = .returned (.tuple #[.agg #[.bool (nR ((1 : Int) : Dyadic)).neg, .string (nR ((1 : Int) : Dyadic)).bz, .int .i64 (nR ((1 : Int) : Dyadic)).e], .int .i64 0]) ∧ Below w.heap.size w w' := by
 have z : Sz 25 (((1 : Int) : Dyadic) * pd (-1)) := (show Sz 24 ((1 : Int) : Dyadic) from LO (m := 1) (e := 0) TY TY TY).mul (show Sz 1 (pd (-1)) from ⟨1, by decide +kernel, TY⟩);have hE : Ha (fZ none 0 none 0) 1 = 0 := by decide +kernel
 have hV : Md (fZ none 0 none 0) [nR (((1 : Int) : Dyadic) * pd (-1))] = ((1 : Int) : Dyadic) := by decide +kernel
 have hns : (fZ A a B b).ns = [2] := rfl;have := yZ (fZ A a B b) L 1 lc [nR (((1 : Int) : Dyadic) * pd (-1))] 24 30 (2 + 2 * (30 * 2) + (2 + 1)) w hT hf (CA A a B b) hb hS (fun s hs => by
  rw [Un.1 hs, bR];exact ⟨MU.of (z.mono TY) TY, ((show Sz 25 (1 : Dyadic) from Sz.one.mono TY).sub z).mono TY⟩) TY (fun _ d hd => by
  rw [hns, Un] at hd;subst hd;decide) (by show 24 + 1 * _ ≤ 500000; decide)
 rw [show Ha (fZ A a B b) 1 = 0 from hE, show Md (fZ A a B b) [nR (((1 : Int) : Dyadic) * pd (-1))] = ((1 : Int) : Dyadic) from hV] at this;exact this
theorem Sj (A : Option Addr) (a : Nat) (B : Option Addr) (b : Nat) (w : World) (hT : eh w) (hf : (fZ A a B b).at_ w) (ha : 1 ≤ a) :
  Calls Tryz.prog 55 #[.agg #[.slice A 1 a, .slice B 3 b], .int .i64 0] w fun r w' => ∃ g : FX, Out 0 [1] ([0, 8].map fun z : Int => (z : Dyadic)) g ∧ r = .returned (.tuple #[.agg #[.slice g.A g.n g.a, .slice g.B g.m g.b], .int .i64 0]) ∧ Hp w [g.vq, g.uT] w' := by
 have hE : mq (fZ none 0 none 0) 0 = 0 := by decide +kernel
 have hN : Co [2] 0 = [1] := by decide +kernel
 have hX : Cb [2] 0 (([0, 0, 4].map eE).map NR.d) = [0, 8].map fun z : Int => (z : Dyadic) := by decide +kernel
 have := yo (fZ A a B b) 0 24 w hT hf (CA A a B b) ha TY;rw [show mq (fZ A a B b) 0 = 0 from hE, show Co (fZ A a B b).ns (0 : Int).toNat = [1] from hN, show Cb (fZ A a B b).ns (0 : Int).toNat ((fZ A a B b).cs.map NR.d) = _ from hX] at this;exact this
theorem Qs (A : Option Addr) (a : Nat) (B : Option Addr) (b : Nat) (L : Option Addr) (lc : Nat) (w : World) (hT : eh w) (hf : (fZ A a B b).at_ w) (ha : 1 ≤ a) (hL : Sl w L 1 6 (az SR.cells (jV [2]))) :
  Calls Tryz.prog 37 #[.agg #[.slice A 1 a, .slice B 3 b], .slice L 1 lc] w fun r w' => ∃ g : PX, eX 0 1 [⟨str [2], eE 4⟩] g ∧ r = .returned (.tuple #[.agg #[.int .i64 g.v, .slice g.A g.n g.c], .int .i64 0]) ∧ Hp w [g.row] w' := by
 have hE : pE (fZ none 0 none 0) (jV [2]) = 0 := by decide +kernel
 have hR : (u5 (fZ none 0 none 0) (jV [2])).2 = [⟨str [2], eE 4⟩] := by kernel_rfl
 have hG : pV 1 24 24 [2] ≤ 400000 ∧ fS (24 + 16394) [2] (pV 1 24 24 [2] + 4097) ≤ 440000 := by decide +kernel
 have := rl (fZ A a B b) L 1 lc (jV [2]) 24 24 w hT hf (CA A a B b) ha hL (fun s hs => by
  obtain ⟨y, hy, rfl⟩ := Ui.1 hs;have h1 := oG (me (l := [2]) TY y hy);exact ⟨⟨(Sz.zero 24).ok TY, by show Sz 24 (nR 0).d; rw [bR]; exact Sz.zero _⟩, ⟨h1.1, h1.2⟩⟩) TY TY (fun _ _ => hG.1) (fun _ _ => hG.2)
 rw [show pE (fZ A a B b) (jV [2]) = 0 from hE, show (u5 (fZ A a B b) (jV [2])).2 = _ from hR] at this;exact this
theorem S8 (ns : List Nat) (l : List Int) (A : Option Addr) (n c : Nat) (w : World) (hT : eh w) (hS : Sl w A n 1 (bJ (bL ns))) (h : (decide (ns.length ≤ 12 ∧ av ns ≤ 4096) && ns.all (fun d => decide (d ≤ 127)) && decide ((CH ns).map (fun k : Nat => (k : Int)) = l)) = true) :
  Calls Tryz.prog 46 #[.slice A n c] w fun r w' => ∃ v, r = .returned v ∧ Rows (av ns) 3 (az NR.cells (l.map eE)) v w' ∧ Below w.heap.size w w' := by
 rw [Uj, Uj] at h;obtain ⟨⟨h1, h2⟩, h3⟩ := h;have h1 := Vv h1;have e : l.map eE = Kw ns := by
  rw [← Vv h3, U5]
  rfl
 rw [e];exact (tO A n c ns w hT hS h1.1 (fun d hd => Vv (Ux.1 h2 d hd)) h1.2).mono fun r w' ⟨B, c', hr, ho, hb⟩ => ⟨_, hr, ⟨B, c', rfl, lI ho⟩, hb⟩
theorem Pt (g : FX) (h : FX) (w : World) (og : Out 0 [1] ([0, 8].map fun z : Int => (z : Dyadic)) g) (hg : g.at_ w) (oh : h.ds = [1] ∧ h.cs = [0, 8].map eE ∧ h.at_ w) :
  Calls Tryz.prog 23 #[.agg #[.slice g.A g.n g.a, .slice g.B g.m g.b], .agg #[.slice h.A h.n h.a, .slice h.B h.m h.b]] w fun r w' => r = .returned (.bool true) ∧ Below w.heap.size w w' :=
 Ag g h w hg oh.2.2 ⟨og.ds.trans oh.1.symm, og.cs.trans oh.2.1.symm⟩ og.n og.m
theorem Pd (p : PX) (q : Option Addr × Nat) (w : World) (op : eX 0 1 [⟨str [2], eE 4⟩] p) (hp : p.at_ w) (hq : 1 ≤ q.2 ∧ Sl w q.1 1 4 (az TR.cells [⟨str [2], eE 4⟩])) :
  Calls Tryz.prog 15 #[.agg #[.int .i64 p.v, .slice p.A p.n p.c], .agg #[.int .i64 1, .slice q.1 1 q.2]] w fun r w' => r = .returned (.bool true) ∧ Below w.heap.size w w' := by
 have hv : p.v = 1 := op.v;have ht : p.ts = [⟨str [2], eE 4⟩] := op.ts;have hn : p.n = 1 := by have := hp.ln; rw [ht] at this; exact this.symm
 refine (Au p ⟨1, q.1, 1, q.2, [⟨str [2], eE 4⟩]⟩ w hp hq.2 TX (by show 1 ≤ 1000000; decide)).mono fun r w' ⟨v, hr, hi, hb⟩ => ?_;rw [hr, hi.2 ⟨hv, ht⟩];exact ⟨rfl, hb⟩
set_option maxRecDepth 100000 in
theorem lz (w : World) (hT : eh w) : Calls Tryz.prog 30 #[] w fun r w' => r = .returned (.bool true) ∧ Below w.heap.size w w' := by
 have hh := Hp.start w;refine aj (N := 116) (l := []) Tryz.func30 rfl rfl (by simp) ?_;refine sr (aB (aa (sr ?_)));refine cP hh (cs := [_]) bk.out aK.out (aM rfl bU) rfl rfl TY TY TY rfl TY ?_;intro b8 w8 hh;refine cP hh (cs := [_, _, _]) bk.out aK.out (aM rfl (aM rfl (aM rfl bU))) rfl rfl TY TY TY rfl TY ?_;intro b9 w9 hh;refine aF (lX [0, 0, 4] _ 3 _ _ (hh.aC (i := 0) rfl) (me TY) TY) al.out rfl TY ?_;rintro e_ w10 ⟨A1, c1, rfl, h2⟩;refine ⟨_, rfl, ?_⟩;have hc1 : 3 ≤ c1 := h2.e8 (i := 0) rfl;replace hh := hh.join h2;simp only [Ud, Ub] at hh;clear h2;replace hh := hh.sub (T4 _ (T8 _ (T4 _ UA)));refine gB [_,_] ?_;refine bV hh ?_;intro b1 w1 hh;refine bW hh 0 [_,_] ?_;intro ws hh;replace hh : Hp _ (.blk _ _ [_, _] _ :: _) _ := hh;refine aa (ah ?_)
 refine eu [8] [7] [0, 0, 2, 6, 15, 31, 63, 63, 0, 383, 1023] 9 [[(1, none)], [], [(14, some 1)], [(15, some 2)], [(13, some 0), (16, some 3)], [(17, some 4)], [(12, some 5)], [(12, some 5)], []] [(8, 2), (7, 19), (6, 18), (5, 12), (4, 17), (3, 16), (2, 15), (1, 14), (0, 13)] hh mixed TZ (qx rfl aK.out fk) rfl (by repeat (first | exact cA | refine bQ ?_ | refine cE ?_)) ?_;refine fU 0 [_,_] ?_;refine dC (fun _ hj => kX 1 _ TY TY) ?_;refine dC (fun _ hj => yy (nR ((1 : Int) : Dyadic)) (-1) _ (by decide +kernel) (by decide +kernel) (by decide +kernel) TY TY) ?_;refine tQ [_,_,_] ?_;refine aT (i := 4) (Is (.tuple #[.agg #[.bool (nR ((1 : Int) : Dyadic)).neg, .string (nR ((1 : Int) : Dyadic)).bz, .int .i64 (nR ((1 : Int) : Dyadic)).e], .int .i64 0])) Is.ext ?_ ?_
 ·intro ρ1 w1 hj hR;obtain ⟨A16, c16, h16, s16⟩ := hR.2.1;exact bf rfl (aO al.out (aw (show ρ1 13 = Value.agg (List.toArray _) from hR.1) (aw h16 aZ))) (KV (some ⟨b8, 0, none⟩) 1 A1 c1 A16 c16 _ (hT.hp hj.hp) ⟨hj.hp.aC (i := 2) rfl, hj.hp.aC (i := 1) rfl⟩ hc1 s16) (fun _ _ hq => ⟨_, hq.1, hq.2, rfl⟩)
 refine SQ ?_;refine Rj ?_;refine Rj ?_;refine aT (i := 8) (dt _ 65 _) dt.ext (fun ρ1 w1 hj hR => jN aK.out hj.bl (fun v w2 h hb => ⟨hb, h⟩)) ?_;refine aR ?_;intro f W hJ hV _;have hb_2 := hJ.bl;obtain ⟨v2, v19, v18, v12, v17, v16, v15, v14, v13, _⟩ := hV;obtain ⟨A16, c16, e16, f16⟩ : Rows _ _ _ (f 3) W := v16;obtain ⟨b2, e2, hl2, hc2⟩ : dt _ _ _ (f 8) W := v2;replace hh := hJ.newVar hh hl2 hc2;refine aY (br (ae e2 (ae v19 (ae v18 (ae v12 (ae v17 (ae e16 (ae v15 (ae v14 (ae v13 aX)))))))))) ?_;dsimp only [cf];clear e16 e2 hJ;refine bW hh 0 [_,_,_] ?_;intro ws hh;replace hh : Hp _ (.blk _ _ [_, _, _] _ :: _) _ := hh;refine aI (aa (sr ?_));refine cG hh 1 [_,_] ?_;refine aF (Sj (some ⟨b8, 0, none⟩) 1 A1 c1 _ (hT.hp hh) ⟨hh.aC (i := 3) rfl, hh.aC (i := 2) rfl⟩ (T5 _)) al.out rfl TY ?_;rintro e_ w22 ⟨g, og, rfl, h4⟩;refine ⟨_, rfl, ?_⟩;replace hh := hh.join h4;clear h4;simp only [Ud, Ub] at hh;replace hh := show Hp w (.row g.B g.m g.b 65 3 (az NR.cells g.cs) :: .row g.A g.n g.a 3 1 (bJ g.ds) :: _) _ from hh;refine mT ?_;refine du ?_;refine du ?_;refine bV hh ?_;intro b4 w4 hh;refine bW hh 0 [_,_] ?_;intro ws hh
 replace hh : Hp _ (.blk _ _ [_, _] _ :: _) _ := hh;refine aI (aa (ah ?_));refine eu [7] [6] [0, 0, 2, 7, 15, 31, 31, 0, 191, 511] 8 [[(1, none)], [], [(27, some 1)], [(26, some 0), (28, some 2)], [(29, some 3)], [(25, some 4)], [(25, some 4)], []] [(7, 6), (6, 31), (5, 30), (4, 25), (3, 29), (2, 28), (1, 27), (0, 26)] hh mixed TZ (qx rfl aK.out fk) rfl (by repeat (first | exact cA | refine bQ ?_ | refine cE ?_)) ?_;refine fU 4 [_,_] ?_;refine tQ [_] ?_;refine aT (i := 2) (Rows 1 6 (az SR.cells (jV [2]))) Rows.ext ?_ ?_
 ·intro ρ1 w1 hj hR;obtain ⟨A27, c27, h27, s27⟩ := hR.1;exact bf rfl (aO al.out (aw h27 aZ)) (GV [2] A27 1 c27 _ s27 TY TY) (fun _ _ ⟨v, hq, hp, hb⟩ => ⟨v, hq, hb, hp⟩)
 refine aT (i := 3) (jR hh.sz 0 1 [⟨str [2], eE 4⟩]) (jR.ext) ?_ ?_
 ·intro ρ1 w1 hj hR;obtain ⟨A28, c28, h28, s28⟩ := hR.2.1;exact bf rfl (aO al.out (aw (show ρ1 26 = Value.agg (List.toArray _) from hR.1) (aw h28 aZ))) (Qs (some ⟨b8, 0, none⟩) 1 A1 c1 A28 c28 w1 (hT.hp hj.hp) ⟨hj.hp.aC (i := 6) rfl, hj.hp.aC (i := 5) rfl⟩ (T5 _) s28) (fun _ _ ⟨g, og, hq, h3⟩ => ⟨_, hq, h3.below, g, w1, rfl, og, hj.bl.size, h3⟩)
 refine aT (i := 4) (jR hh.sz 0 1 [⟨str [2], eE 4⟩]) (jR.ext) ?_ ?_
 ·exact OZ
 refine aT (i := 5) (j7 hh.sz 0 1 [⟨str [2], eE 4⟩]) (j7.ext) ?_ ?_
 ·exact PM
 refine aT (i := 6) (Is (.int .i64 0)) (Is.ext) ?_ ?_
 ·exact P3
 refine aT (i := 7) (dt _ 24 _) dt.ext (fun ρ1 w1 hj hR => jN aK.out hj.bl (fun v w2 h hb => ⟨hb, h⟩)) ?_;refine aR ?_;intro f W hJ hV _;have hb_4 := hJ.bl;obtain ⟨v6, v31, v30, v25, v29, v28, v27, v26, _⟩ := hV;obtain ⟨A27, c27, e27, f27⟩ : Rows _ _ _ (f 1) W := v27;obtain ⟨A28, c28, e28, f28⟩ : Rows _ _ _ (f 2) W := v28;obtain ⟨g29, u29, e29, -⟩ := v29;obtain ⟨g25, u25, e25, -⟩ := v25;obtain ⟨g30, u30, e30, o30, q30, h30⟩ := v30;obtain ⟨b6, e6, hl6, hc6⟩ : dt _ _ _ (f 7) W := v6;replace hh := hJ.qG hh hl6 hc6 q30 h30 (PX.ne h30 hc6 TY);refine aY (br (ae e6 (ae v31 (ae e30 (ae e25 (ae e29 (ae e28 (ae e27 (ae v26 aX))))))))) ?_;dsimp only [cf];clear e27 e28 e29 e25 e30 e6 hJ;refine bW hh 0 [_,_] ?_;intro ws hh;replace hh : Hp _ (.blk _ _ [_, _] _ :: _) _ := hh;refine aI (aa (ah ?_))
 refine eu [] [] [0, 1, 0, 7, 0, 31, 63, 127, 255, 127, 1023, 127, 4095, 8191, 16383, 32767, 65535, 32767, 262143, 32767, 1048575, 2097151, 4194303, 8388607, 16777215, 8388607, 67108863, 8388607, 8388607, 536870911, 1073741823, 2147483647, 4294967295, 8589934591, 4294967295, 34359738367, 4294967295, 137438953471, 274877906943, 549755813887, 1099511627775, 1099511627775, 4398046511103, 8796093022207, 17592186044415, 35184372088831, 70368744177663, 140737488355327, 281474976710655, 562949953421311, 562949953421311, 562949953421311, 2814749767106559, 8444249301319679, 18014398509481983, 36028797018963967, 72057594037927935, 144115188075855871, 288230376151711743, 576460752303423487, 1152921504606846975, 2305843009213693951, 2305843009213693951, 6917529027641081855, 18446744073709551615, 36893488147419103231, 73786976294838206463, 147573952589676412927, 295147905179352825855, 590295810358705651711, 1180591620717411303423, 2361183241434822606847, 4722366482869645213695, 2361183241434822606847, 18889465931478580854783, 37778931862957161709567, 75557863725914323419135, 151115727451828646838271, 302231454903657293676543, 604462909807314587353087, 302231454903657293676543, 2417851639229258349412351, 4835703278458516698824703, 9671406556917033397649407, 19342813113834066795298815] 81 [[], [(32, some 0)], [], [(34, some 2)], [], [(33, some 1), (35, some 3), (36, some 4)], [(37, some 5)], [(38, some 6)], [(39, some 7), (38, some 6)], [(38, some 6)], [(41, some 9), (38, some 6)], [(38, some 6)], [(40, some 8), (42, some 10), (43, some 11), (38, some 6)], [(38, some 6), (44, some 12)], [(45, some 13)], [(46, some 14)], [(47, some 15), (46, some 14)], [(46, some 14)], [(49, some 17), (46, some 14)], [(46, some 14)], [(48, some 16), (50, some 18), (51, some 19), (46, some 14)], [(46, some 14), (52, some 20)], [(53, some 21)], [(54, some 22)], [(55, some 23), (54, some 22)], [(54, some 22)], [(57, some 25), (54, some 22)], [(54, some 22)], [(54, some 22)], [(56, some 24), (58, some 26), (59, some 27), (60, some 28), (54, some 22)], [(54, some 22), (61, some 29)], [(62, some 30)], [(63, some 31)], [(64, some 32), (63, some 31)], [(63, some 31)], [(66, some 34), (63, some 31)], [(63, some 31)], [(65, some 33), (67, some 35), (68, some 36), (63, some 31)], [(63, some 31), (69, some 37)], [(70, some 38)], [(2, none), (71, some 39)], [(71, some 39)], [(72, some 40), (73, some 41), (71, some 39)], [(71, some 39), (74, some 42)], [(75, some 43)], [(3, none), (76, some 44)], [(77, some 45), (76, some 44)], [(76, some 44), (78, some 46)], [(79, some 47)], [(4, none), (80, some 48)], [(80, some 48)], [(80, some 48)], [(83, some 51), (80, some 48)], [(82, some 50), (84, some 52), (80, some 48)], [(81, some 49), (85, some 53), (80, some 48)], [(80, some 48), (86, some 54)], [(87, some 55)], [(5, none), (88, some 56)], [(89, some 57), (88, some 56)], [(88, some 56), (90, some 58)], [(91, some 59)], [(6, none), (92, some 60)], [(92, some 60)], [(94, some 62), (92, some 60)], [(93, some 61), (95, some 63), (92, some 60)], [(92, some 60), (96, some 64)], [(97, some 65)], [(7, none), (98, some 66)], [(99, some 67), (98, some 66)], [(98, some 66), (100, some 68)], [(101, some 69)], [(102, some 70)], [(103, some 71), (102, some 70)], [(102, some 70)], [(105, some 73), (102, some 70)], [(104, some 72), (106, some 74), (102, some 70)], [(102, some 70), (107, some 75)], [(108, some 76)], [(109, some 77)], [(110, some 78), (109, some 77)], [(109, some 77)]] [(80, 112), (79, 111), (78, 110), (77, 109), (76, 108), (75, 107), (74, 106), (73, 105), (72, 104), (71, 103), (70, 102), (69, 101), (68, 100), (67, 99), (66, 98), (65, 97), (64, 96), (63, 95), (62, 94), (61, 93), (60, 92), (59, 91), (58, 90), (57, 89), (56, 88), (55, 87), (54, 86), (53, 85), (52, 84), (51, 83), (50, 82), (49, 81), (48, 80), (47, 79), (46, 78), (45, 77), (44, 76), (43, 75), (42, 74), (41, 73), (40, 72), (39, 71), (38, 70), (37, 69), (36, 68), (35, 67), (34, 66), (33, 65), (32, 64), (31, 63), (30, 62), (29, 61), (28, 60), (27, 59), (26, 58), (25, 57), (24, 56), (23, 55), (22, 54), (21, 53), (20, 52), (19, 51), (18, 50), (17, 49), (16, 48), (15, 47), (14, 46), (13, 45), (12, 44), (11, 43), (10, 42), (9, 41), (8, 40), (7, 39), (6, 38), (5, 37), (4, 36), (3, 35), (2, 34), (1, 33), (0, 32)] hh mixed TZ fk rfl (by repeat (first | exact cA | refine bQ ?_ | refine cE ?_)) ?_
 refine tQ [_] ?_;refine aT (i := 1) (er [1] 1) er.ext ?_ ?_
 ·intro ρ1 w1 hj hR;obtain ⟨A32, c32, h32, s32⟩ := hR.1;exact bf rfl (aO al.out (aw rfl (aw h32 aZ))) (qj 1 [1] A32 1 c32 _ s32 TY rfl TY) (fun _ _ ⟨v, hq, hp, hb⟩ => ⟨v, hq, hb, hp⟩)
 refine tQ [_] ?_;refine aT (i := 3) (Rows 1 6 (az SR.cells (jV [1]))) Rows.ext ?_ ?_
 ·intro ρ1 w1 hj hR;obtain ⟨A34, c34, h34, s34⟩ := hR.1;exact bf rfl (aO al.out (aw h34 aZ)) (GV [1] A34 1 c34 _ s34 rfl TY) (fun _ _ ⟨v, hq, hp, hb⟩ => ⟨v, hq, hb, hp⟩)
 refine tQ [_,_] ?_;refine aT (i := 5) (Is (.bool true)) Is.ext ?_ ?_
 ·intro ρ1 w1 hj hR;obtain ⟨A35, c35, h35, s35⟩ := hR.2.1;obtain ⟨A36, c36, h36, s36⟩ := hR.2.2.1;obtain ⟨g33, e33, o33⟩ := hR.1;exact bf rfl (aO al.out (aw e33 (aw h35 (aw rfl (aw h36 aZ))))) (Rx 1 [1] [1] [] [0, 1] g33.1 g33.2 A35 1 c35 none 0 0 A36 2 c36 _ (hT.hp hj.hp) o33 s35 (Sl.nil _ _ _) TY s36 TY TY TY (by decide +kernel)) (fun _ _ hq => ⟨_, hq.1, hq.2, rfl⟩)
 refine oC ?_;refine a7 (i := 7) (cs := [_]) rfl (fun ρ1 w1 hj hR => (show ρ1 38 = Value.bool _ from hR.1)) bk.out aK.out (fun ρ1 w1 hj hR => (aM rfl bU)) rfl rfl TY TY rfl ?_;refine aT (i := 8) (er [1] 1) er.ext ?_ ?_
 ·intro ρ1 w1 hj hR;obtain ⟨A39, c39, h39, s39⟩ := hR.1;refine a9 rfl ((show ρ1 38 = Value.bool _ from hR.2.1)) ?_;exact bf rfl (aO al.out (aw rfl (aw h39 aZ))) (qj 1 [1] A39 1 c39 _ s39 TY rfl TY) (fun _ _ ⟨v, hq, hp, hb⟩ => ⟨v, hq, hb, hp⟩)
 refine a7 (i := 9) (cs := [_]) rfl (fun ρ1 w1 hj hR => (show ρ1 38 = Value.bool _ from hR.1)) bk.out aK.out (fun ρ1 w1 hj hR => (aM rfl bU)) rfl rfl TY TY rfl ?_;refine aT (i := 10) (Rows 1 6 (az SR.cells (jV [4]))) Rows.ext ?_ ?_
 ·intro ρ1 w1 hj hR;obtain ⟨A41, c41, h41, s41⟩ := hR.1;refine a9 rfl ((show ρ1 38 = Value.bool _ from hR.2.1)) ?_;exact bf rfl (aO al.out (aw h41 aZ)) (GV [4] A41 1 c41 _ s41 rfl TY) (fun _ _ ⟨v, hq, hp, hb⟩ => ⟨v, hq, hb, hp⟩)
 refine a7 (i := 11) (cs := [_, _]) rfl (fun ρ1 w1 hj hR => (show ρ1 38 = Value.bool _ from hR.1)) bk.out aK.out (fun ρ1 w1 hj hR => (aM rfl (aM rfl bU))) rfl rfl TY TY rfl ?_;refine aT (i := 12) (Is (.bool true)) Is.ext ?_ ?_
 ·intro ρ1 w1 hj hR;obtain ⟨A42, c42, h42, s42⟩ := hR.2.1;obtain ⟨A43, c43, h43, s43⟩ := hR.2.2.1;obtain ⟨g40, e40, o40⟩ := hR.1;refine a9 rfl ((show ρ1 38 = Value.bool _ from hR.2.2.2.1)) ?_;exact bf rfl (aO al.out (aw e40 (aw h42 (aw rfl (aw h43 aZ))))) (Rx 1 [1] [4] [] [0, 4] g40.1 g40.2 A42 1 c42 none 0 0 A43 2 c43 _ (hT.hp hj.hp) o40 s42 (Sl.nil _ _ _) TY s43 TY TY TY (by decide +kernel)) (fun _ _ hq => ⟨_, hq.1, hq.2, rfl⟩)
 refine GK ?_;refine oC ?_;refine a7 (i := 15) (cs := [_]) rfl (fun ρ1 w1 hj hR => (show ρ1 46 = Value.bool _ from hR.1)) bk.out aK.out (fun ρ1 w1 hj hR => (aM rfl bU)) rfl rfl TY TY rfl ?_;refine aT (i := 16) (er [2] 1) er.ext ?_ ?_
 ·intro ρ1 w1 hj hR;obtain ⟨A47, c47, h47, s47⟩ := hR.1;refine a9 rfl ((show ρ1 46 = Value.bool _ from hR.2.1)) ?_;exact bf rfl (aO al.out (aw rfl (aw h47 aZ))) (qj 1 [2] A47 1 c47 _ s47 TY rfl TY) (fun _ _ ⟨v, hq, hp, hb⟩ => ⟨v, hq, hb, hp⟩)
 refine a7 (i := 17) (cs := [_]) rfl (fun ρ1 w1 hj hR => (show ρ1 46 = Value.bool _ from hR.1)) bk.out aK.out (fun ρ1 w1 hj hR => (aM rfl bU)) rfl rfl TY TY rfl ?_;refine aT (i := 18) (Rows 1 6 (az SR.cells (jV [2]))) Rows.ext ?_ ?_
 ·intro ρ1 w1 hj hR;obtain ⟨A49, c49, h49, s49⟩ := hR.1;refine a9 rfl ((show ρ1 46 = Value.bool _ from hR.2.1)) ?_;exact bf rfl (aO al.out (aw h49 aZ)) (GV [2] A49 1 c49 _ s49 rfl TY) (fun _ _ ⟨v, hq, hp, hb⟩ => ⟨v, hq, hb, hp⟩)
 refine a7 (i := 19) (cs := [_, _, _]) rfl (fun ρ1 w1 hj hR => (show ρ1 46 = Value.bool _ from hR.1)) bk.out aK.out (fun ρ1 w1 hj hR => (aM rfl (aM rfl (aM rfl bU)))) rfl rfl TY TY rfl ?_;refine aT (i := 20) (Is (.bool true)) Is.ext ?_ ?_
 ·intro ρ1 w1 hj hR;obtain ⟨A50, c50, h50, s50⟩ := hR.2.1;obtain ⟨A51, c51, h51, s51⟩ := hR.2.2.1;obtain ⟨g48, e48, o48⟩ := hR.1;refine a9 rfl ((show ρ1 46 = Value.bool _ from hR.2.2.2.1)) ?_;exact bf rfl (aO al.out (aw e48 (aw h50 (aw rfl (aw h51 aZ))))) (Rx 1 [2] [2] [] [0, 0, 4] g48.1 g48.2 A50 1 c50 none 0 0 A51 3 c51 _ (hT.hp hj.hp) o48 s50 (Sl.nil _ _ _) TY s51 TY TY TY (by decide +kernel)) (fun _ _ hq => ⟨_, hq.1, hq.2, rfl⟩)
 refine GK ?_;refine oC ?_;refine a7 (i := 23) (cs := [_]) rfl (fun ρ1 w1 hj hR => (show ρ1 54 = Value.bool _ from hR.1)) bk.out aK.out (fun ρ1 w1 hj hR => (aM rfl bU)) rfl rfl TY TY rfl ?_;refine aT (i := 24) (er [0] 3) er.ext ?_ ?_
 ·intro ρ1 w1 hj hR;obtain ⟨A55, c55, h55, s55⟩ := hR.1;refine a9 rfl ((show ρ1 54 = Value.bool _ from hR.2.1)) ?_;exact bf rfl (aO al.out (aw rfl (aw h55 aZ))) (qj 3 [0] A55 1 c55 _ s55 TY rfl TY) (fun _ _ ⟨v, hq, hp, hb⟩ => ⟨v, hq, hb, hp⟩)
 refine a7 (i := 25) (cs := [_]) rfl (fun ρ1 w1 hj hR => (show ρ1 54 = Value.bool _ from hR.1)) bk.out aK.out (fun ρ1 w1 hj hR => (aM rfl bU)) rfl rfl TY TY rfl ?_;refine aT (i := 26) (Rows 1 6 (az SR.cells (jV [1]))) Rows.ext ?_ ?_
 ·intro ρ1 w1 hj hR;obtain ⟨A57, c57, h57, s57⟩ := hR.1;refine a9 rfl ((show ρ1 54 = Value.bool _ from hR.2.1)) ?_;exact bf rfl (aO al.out (aw h57 aZ)) (GV [1] A57 1 c57 _ s57 rfl TY) (fun _ _ ⟨v, hq, hp, hb⟩ => ⟨v, hq, hb, hp⟩)
 refine aT (i := 27) (iT 1 1 (bJ [2])) (iT.ext) ?_ ?_
 ·intro ρ1 w1 hj hR;exact a9 rfl (show ρ1 54 = Value.bool _ from hR.1) (ja (sz := 1) bk.out aK.out (show vT ρ1 [(0, .const (.int .i64 2))] = [(0, .int .i64 2)] from rfl) rfl rfl TY TY rfl fun v w2 h hb => ⟨hb, h⟩)
 refine a7 (i := 28) (cs := [_, _, _]) rfl (fun ρ1 w1 hj hR => (show ρ1 54 = Value.bool _ from hR.1)) bk.out aK.out (fun ρ1 w1 hj hR => (aM rfl (aM rfl (aM rfl bU)))) rfl rfl TY TY rfl ?_;refine aT (i := 29) (Is (.bool true)) Is.ext ?_ ?_
 ·intro ρ1 w1 hj hR;obtain ⟨A58, c58, h58, s58⟩ := hR.2.1;obtain ⟨A60, c60, h60, s60⟩ := hR.2.2.2.1;obtain ⟨g56, e56, o56⟩ := hR.1;obtain ⟨g59, e59, o59⟩ := hR.2.2.1;refine a9 rfl ((show ρ1 54 = Value.bool _ from hR.2.2.2.2.1)) ?_;exact bf rfl (aO al.out (aw e56 (aw h58 (aw e59 (aw h60 aZ))))) (Rx 3 [0] [1] [2] [3, 6, 3] g56.1 g56.2 A58 1 c58 (some ⟨g59, 0, none⟩) 1 1 A60 3 c60 _ (hT.hp hj.hp) o56 s58 o59 TY s60 TY TY TY (by decide +kernel)) (fun _ _ hq => ⟨_, hq.1, hq.2, rfl⟩)
 refine GK ?_;refine oC ?_;refine a7 (i := 32) (cs := [_, _]) rfl (fun ρ1 w1 hj hR => (show ρ1 63 = Value.bool _ from hR.1)) bk.out aK.out (fun ρ1 w1 hj hR => (aM rfl (aM rfl bU))) rfl rfl TY TY rfl ?_;refine aT (i := 33) (er [1, 1] 1) er.ext ?_ ?_
 ·intro ρ1 w1 hj hR;obtain ⟨A64, c64, h64, s64⟩ := hR.1;refine a9 rfl ((show ρ1 63 = Value.bool _ from hR.2.1)) ?_;exact bf rfl (aO al.out (aw rfl (aw h64 aZ))) (qj 1 [1, 1] A64 2 c64 _ s64 TY rfl TY) (fun _ _ ⟨v, hq, hp, hb⟩ => ⟨v, hq, hb, hp⟩)
 refine a7 (i := 34) (cs := [_, _]) rfl (fun ρ1 w1 hj hR => (show ρ1 63 = Value.bool _ from hR.1)) bk.out aK.out (fun ρ1 w1 hj hR => (aM rfl (aM rfl bU))) rfl rfl TY TY rfl ?_;refine aT (i := 35) (Rows 2 6 (az SR.cells (jV [1, 1]))) Rows.ext ?_ ?_
 ·intro ρ1 w1 hj hR;obtain ⟨A66, c66, h66, s66⟩ := hR.1;refine a9 rfl ((show ρ1 63 = Value.bool _ from hR.2.1)) ?_;exact bf rfl (aO al.out (aw h66 aZ)) (GV [1, 1] A66 2 c66 _ s66 rfl TY) (fun _ _ ⟨v, hq, hp, hb⟩ => ⟨v, hq, hb, hp⟩)
 refine a7 (i := 36) (cs := [_, _, _, _]) rfl (fun ρ1 w1 hj hR => (show ρ1 63 = Value.bool _ from hR.1)) bk.out aK.out (fun ρ1 w1 hj hR => (aM rfl (aM rfl (aM rfl (aM rfl bU))))) rfl rfl TY TY rfl ?_;refine aT (i := 37) (Is (.bool true)) Is.ext ?_ ?_
 ·intro ρ1 w1 hj hR;obtain ⟨A67, c67, h67, s67⟩ := hR.2.1;obtain ⟨A68, c68, h68, s68⟩ := hR.2.2.1;obtain ⟨g65, e65, o65⟩ := hR.1;refine a9 rfl ((show ρ1 63 = Value.bool _ from hR.2.2.2.1)) ?_;exact bf rfl (aO al.out (aw e65 (aw h67 (aw rfl (aw h68 aZ))))) (Rx 1 [1, 1] [1, 1] [] [0, 0, 0, 1] g65.1 g65.2 A67 2 c67 none 0 0 A68 4 c68 _ (hT.hp hj.hp) o65 s67 (Sl.nil _ _ _) TY s68 TY TY TY (by decide +kernel)) (fun _ _ hq => ⟨_, hq.1, hq.2, rfl⟩)
 refine GK ?_;refine oC ?_;refine dG (fU 5 [_,_,_] ?_);refine lT (i := 41) rfl (fun ρ1 w1 hj hR => (show ρ1 71 = Value.bool _ from hR.1)) (fun ρ1 w1 hj hR => aO al.out (aw rfl aZ)) (fun w1 hj => kX 1 _ TY TY) ?_;refine yi (i := 42) rfl (fun ρ1 w1 hj hR => (show ρ1 71 = Value.bool _ from hR.2.2.1)) (fun ρ1 w1 hj hR => Fm (show ρ1 72 = Value.agg (List.toArray _) from hR.1) (show ρ1 73 = Value.agg (List.toArray _) from hR.2.1) (by first | assumption | rfl)) ?_;refine GK ?_;refine oC ?_;refine dG (dF ?_);refine dG (x9 ?_);refine GK ?_;refine oC ?_;refine dG (fU 2 [_,_] ?_);refine a7 (i := 50) (cs := [_]) rfl (fun ρ1 w1 hj hR => (show ρ1 80 = Value.bool _ from hR.1)) bk.out aK.out (fun ρ1 w1 hj hR => (aM rfl bU)) rfl rfl TY TY rfl ?_;refine a7 (i := 51) (cs := [_, _]) rfl (fun ρ1 w1 hj hR => (show ρ1 80 = Value.bool _ from hR.1)) bk.out aK.out (fun ρ1 w1 hj hR => (aM rfl (aM rfl bU))) rfl rfl TY TY rfl ?_;refine aT (i := 52) (Rows 2 3 (az NR.cells ([0, 8].map eE))) Rows.ext ?_ ?_
 ·intro ρ1 w1 hj hR;obtain ⟨A83, c83, h83, s83⟩ := hR.1;refine a9 rfl ((show ρ1 80 = Value.bool _ from hR.2.1)) ?_;exact bf rfl (aO al.out (aw h83 aZ)) (RN [0, 8] A83 2 c83 _ s83 rfl TY) (fun _ _ ⟨v, hq, hp, hb⟩ => ⟨v, hq, hb, hp⟩)
 refine aT (i := 53) (wN [1] ([0, 8].map eE)) (wN.ext) ?_ ?_
 ·intro ρ1 w1 hj hR;obtain ⟨A82, c82, h82, s82⟩ := hR.1;obtain ⟨A84, c84, h84, s84⟩ := hR.2.1;exact a9 rfl (show ρ1 80 = Value.bool _ from hR.2.2.1) (fG rfl (sw (cs := [_, _]) aK.out kL.out (aM h82 (aM h84 bU)) rfl) ⟨Below.refl _ _, ⟨A82, 1, c82, A84, 2, c84, [1], [0, 8].map eE⟩, rfl, rfl, rfl, ⟨s82, s84⟩⟩)
 refine aT (i := 54) (Is (.bool true)) Is.ext ?_ ?_
 ·intro ρ1 w1 hj hR;obtain ⟨g85, e85, o85⟩ := hR.2.1;refine a9 rfl ((show ρ1 80 = Value.bool _ from hR.2.2.1)) ?_;exact bf rfl (aO al.out (aw (show ρ1 81 = Value.agg (List.toArray _) from hR.1) (aw e85 aZ))) (Pt g g85 _ og ⟨hj.hp.aC (i := 4) rfl, hj.hp.aC (i := 3) rfl⟩ o85) (fun _ _ hq => ⟨_, hq.1, hq.2, rfl⟩)
 refine GK ?_;refine oC ?_;refine dG (dF ?_);refine dG (x9 ?_);refine GK ?_;refine oC ?_;refine dG (fU 0 [_,_] ?_);refine a7 (i := 62) (cs := [_]) rfl (fun ρ1 w1 hj hR => (show ρ1 92 = Value.bool _ from hR.1)) bk.out aK.out (fun ρ1 w1 hj hR => (aM rfl bU)) rfl rfl TY TY rfl ?_;refine aT (i := 63) (er [2] 4) er.ext ?_ ?_
 ·intro ρ1 w1 hj hR;obtain ⟨A94, c94, h94, s94⟩ := hR.1;refine a9 rfl ((show ρ1 92 = Value.bool _ from hR.2.1)) ?_;exact bf rfl (aO al.out (aw rfl (aw h94 aZ))) (qj 4 [2] A94 1 c94 _ s94 TY rfl TY) (fun _ _ ⟨v, hq, hp, hb⟩ => ⟨v, hq, hb, hp⟩)
 refine aT (i := 64) (Is (.bool true)) Is.ext ?_ ?_
 ·intro ρ1 w1 hj hR;obtain ⟨g95, e95, o95⟩ := hR.2.1;refine a9 rfl ((show ρ1 92 = Value.bool _ from hR.2.2.1)) ?_;exact bf rfl (aO al.out (aw (show ρ1 93 = Value.agg (List.toArray _) from hR.1) (aw e95 aZ))) (Pd g30 g95 _ o30 (hj.hp.aC (i := 1) rfl) o95) (fun _ _ hq => ⟨_, hq.1, hq.2, rfl⟩)
 refine GK ?_;refine oC ?_;refine dG (dF ?_);refine dG (x9 ?_);refine GK ?_;refine oC ?_;refine a7 (i := 71) (cs := [_]) rfl (fun ρ1 w1 hj hR => (show ρ1 102 = Value.bool _ from hR.1)) bk.out aK.out (fun ρ1 w1 hj hR => (aM rfl bU)) rfl rfl TY TY rfl ?_;refine aT (i := 72) (Rows 3 3 (az NR.cells ([1, 2, 1].map eE))) Rows.ext ?_ ?_
 ·intro ρ1 w1 hj hR;obtain ⟨A103, c103, h103, s103⟩ := hR.1;refine a9 rfl ((show ρ1 102 = Value.bool _ from hR.2.1)) ?_;exact bf rfl (aO al.out (aw h103 aZ)) (S8 [2] [1, 2, 1] A103 1 c103 _ (hT.hp hj.hp) s103 (by decide +kernel)) (fun _ _ ⟨v, hq, hp, hb⟩ => ⟨v, hq, hb, hp⟩)
 refine a7 (i := 73) (cs := [_, _, _]) rfl (fun ρ1 w1 hj hR => (show ρ1 102 = Value.bool _ from hR.1)) bk.out aK.out (fun ρ1 w1 hj hR => (aM rfl (aM rfl (aM rfl bU)))) rfl rfl TY TY rfl ?_;refine aT (i := 74) (Rows 3 3 (az NR.cells ([1, 2, 1].map eE))) Rows.ext ?_ ?_
 ·intro ρ1 w1 hj hR;obtain ⟨A105, c105, h105, s105⟩ := hR.1;refine a9 rfl ((show ρ1 102 = Value.bool _ from hR.2.1)) ?_;exact bf rfl (aO al.out (aw h105 aZ)) (RN [1, 2, 1] A105 3 c105 _ s105 rfl TY) (fun _ _ ⟨v, hq, hp, hb⟩ => ⟨v, hq, hb, hp⟩)
 refine aT (i := 75) (Is (.bool true)) Is.ext ?_ ?_
 ·intro ρ1 w1 hj hR;obtain ⟨A104, c104, h104, s104⟩ := hR.1;obtain ⟨A106, c106, h106, s106⟩ := hR.2.1;refine a9 rfl ((show ρ1 102 = Value.bool _ from hR.2.2.1)) ?_;exact bf rfl (aO al.out (aw h104 (aw h106 aZ))) (ki A104 3 c104 ([1, 2, 1].map eE) A106 c106 _ s104 s106 TY) (fun _ _ hq => ⟨_, hq.1, hq.2, rfl⟩)
 refine GK ?_;refine oC ?_;refine a7 (i := 78) (cs := [_, _]) rfl (fun ρ1 w1 hj hR => (show ρ1 109 = Value.bool _ from hR.1)) bk.out aK.out (fun ρ1 w1 hj hR => (aM rfl (aM rfl bU))) rfl rfl TY TY rfl ?_;refine aT (i := 79) (Rows 6 3 (az NR.cells ([1, 2, 1, 1, 2, 1].map eE))) Rows.ext ?_ ?_
 ·intro ρ1 w1 hj hR;obtain ⟨A110, c110, h110, s110⟩ := hR.1;refine a9 rfl ((show ρ1 109 = Value.bool _ from hR.2.1)) ?_;exact bf rfl (aO al.out (aw h110 aZ)) (S8 [1, 2] [1, 2, 1, 1, 2, 1] A110 2 c110 _ (hT.hp hj.hp) s110 (by decide +kernel)) (fun _ _ ⟨v, hq, hp, hb⟩ => ⟨v, hq, hb, hp⟩)
 refine a7 (i := 80) (cs := [_, _, _, _, _, _]) rfl (fun ρ1 w1 hj hR => (show ρ1 109 = Value.bool _ from hR.1)) bk.out aK.out (fun ρ1 w1 hj hR => (aM rfl (aM rfl (aM rfl (aM rfl (aM rfl (aM rfl bU))))))) rfl rfl TY TY rfl ?_;refine aR ?_;intro f W hJ hV _;have hb_5 := hJ.bl;obtain ⟨v112, v111, v110, v109, v108, v107, v106, v105, v104, v103, v102, v101, v100, v99, v98, v97, v96, v95, v94, v93, v92, v91, v90, v89, v88, v87, v86, v85, v84, v83, v82, v81, v80, v79, v78, v77, v76, v75, v74, v73, v72, v71, v70, v69, v68, v67, v66, v65, v64, v63, v62, v61, v60, v59, v58, v57, v56, v55, v54, v53, v52, v51, v50, v49, v48, v47, v46, v45, v44, v43, v42, v41, v40, v39, v38, v37, v36, v35, v34, v33, v32, _⟩ := hV;obtain ⟨A32, c32, e32, f32⟩ : Rows _ _ _ (f 0) W := v32;obtain ⟨g33, e33, o33⟩ : er [1] 1 (f 1) W := v33;obtain ⟨A34, c34, e34, f34⟩ : Rows _ _ _ (f 2) W := v34;obtain ⟨A35, c35, e35, f35⟩ : Rows _ _ _ (f 3) W := v35;obtain ⟨A36, c36, e36, f36⟩ : Rows _ _ _ (f 4) W := v36;obtain ⟨A39, c39, e39, f39⟩ : Rows _ _ _ (f 7) W := v39;obtain ⟨g40, e40, o40⟩ : er [1] 1 (f 8) W := v40;obtain ⟨A41, c41, e41, f41⟩ : Rows _ _ _ (f 9) W := v41;obtain ⟨A42, c42, e42, f42⟩ : Rows _ _ _ (f 10) W := v42
 obtain ⟨A43, c43, e43, f43⟩ : Rows _ _ _ (f 11) W := v43;obtain ⟨A47, c47, e47, f47⟩ : Rows _ _ _ (f 15) W := v47;obtain ⟨g48, e48, o48⟩ : er [2] 1 (f 16) W := v48;obtain ⟨A49, c49, e49, f49⟩ : Rows _ _ _ (f 17) W := v49;obtain ⟨A50, c50, e50, f50⟩ : Rows _ _ _ (f 18) W := v50;obtain ⟨A51, c51, e51, f51⟩ : Rows _ _ _ (f 19) W := v51;obtain ⟨A55, c55, e55, f55⟩ : Rows _ _ _ (f 23) W := v55;obtain ⟨g56, e56, o56⟩ : er [0] 3 (f 24) W := v56;obtain ⟨A57, c57, e57, f57⟩ : Rows _ _ _ (f 25) W := v57;obtain ⟨A58, c58, e58, f58⟩ : Rows _ _ _ (f 26) W := v58;obtain ⟨g59, e59, o59⟩ : iT 1 1 (bJ [2]) (f 27) W := v59;obtain ⟨A60, c60, e60, f60⟩ : Rows _ _ _ (f 28) W := v60;obtain ⟨A64, c64, e64, f64⟩ : Rows _ _ _ (f 32) W := v64;obtain ⟨g65, e65, o65⟩ : er [1, 1] 1 (f 33) W := v65;obtain ⟨A66, c66, e66, f66⟩ : Rows _ _ _ (f 34) W := v66;obtain ⟨A67, c67, e67, f67⟩ : Rows _ _ _ (f 35) W := v67;obtain ⟨A68, c68, e68, f68⟩ : Rows _ _ _ (f 36) W := v68;obtain ⟨A82, c82, e82, f82⟩ : Rows _ _ _ (f 50) W := v82;obtain ⟨A83, c83, e83, f83⟩ : Rows _ _ _ (f 51) W := v83;obtain ⟨A84, c84, e84, f84⟩ : Rows _ _ _ (f 52) W := v84;obtain ⟨g85, e85, o85⟩ : wN [1] ([0, 8].map eE) (f 53) W := v85
 obtain ⟨A94, c94, e94, f94⟩ : Rows _ _ _ (f 62) W := v94;obtain ⟨g95, e95, o95⟩ : er [2] 4 (f 63) W := v95;obtain ⟨A103, c103, e103, f103⟩ : Rows _ _ _ (f 71) W := v103;obtain ⟨A104, c104, e104, f104⟩ : Rows _ _ _ (f 72) W := v104;obtain ⟨A105, c105, e105, f105⟩ : Rows _ _ _ (f 73) W := v105;obtain ⟨A106, c106, e106, f106⟩ : Rows _ _ _ (f 74) W := v106;obtain ⟨A110, c110, e110, f110⟩ : Rows _ _ _ (f 78) W := v110;obtain ⟨A111, c111, e111, f111⟩ : Rows _ _ _ (f 79) W := v111;obtain ⟨A112, c112, e112, f112⟩ : Rows _ _ _ (f 80) W := v112;replace hh := hJ.hp
 refine aY (br (ae e112 (ae e111 (ae e110 (ae v109 (ae v108 (ae v107 (ae e106 (ae e105 (ae e104 (ae e103 (ae v102 (ae v101 (ae v100 (ae v99 (ae v98 (ae v97 (ae v96 (ae e95 (ae e94 (ae v93 (ae v92 (ae v91 (ae v90 (ae v89 (ae v88 (ae v87 (ae v86 (ae e85 (ae e84 (ae e83 (ae e82 (ae v81 (ae v80 (ae v79 (ae v78 (ae v77 (ae v76 (ae v75 (ae v74 (ae v73 (ae v72 (ae v71 (ae v70 (ae v69 (ae e68 (ae e67 (ae e66 (ae e65 (ae e64 (ae v63 (ae v62 (ae v61 (ae e60 (ae e59 (ae e58 (ae e57 (ae e56 (ae e55 (ae v54 (ae v53 (ae v52 (ae e51 (ae e50 (ae e49 (ae e48 (ae e47 (ae v46 (ae v45 (ae v44 (ae e43 (ae e42 (ae e41 (ae e40 (ae e39 (ae v38 (ae v37 (ae e36 (ae e35 (ae e34 (ae e33 (ae e32 aX)))))))))))))))))))))))))))))))))))))))))))))))))))))))))))))))))))))))))))))))))) ?_;dsimp only [cf];clear e32 e33 e34 e35 e36 e39 e40 e41 e42 e43 e47 e48 e49 e50 e51 e55 e56 e57 e58 e59 e60 e64 e65 e66 e67 e68 e82 e83 e84 e85 e94 e95 e103 e104 e105 e106 e110 e111 e112 hJ;refine aH rfl rfl ?_;refine aF (lX [1, 2, 1, 1, 2, 1] A112 6 c112 _ f112 (me rfl) TY) al.out rfl TY ?_;rintro e_ w113 ⟨A113, c113, rfl, h2⟩;refine ⟨_, rfl, ?_⟩;replace hh := hh.ext h2.below;refine aH rfl rfl ?_
 refine bD hh (ki A111 6 c111 ([1, 2, 1, 1, 2, 1].map eE) A113 c113 _ (f111.ext h2.below) (h2.aC (i := 0) rfl) TY) rfl ?_;intro w114 hh;refine fL ?_;exact vc
theorem lL (a : NR) (w : World) :
  Calls Tryz.prog 43 #[.agg #[.bool a.neg, .string a.bz, .int .i64 a.e]] w fun r w' => r = .returned (.bool (u6 a)) ∧ Below w.heap.size w w' := by
 have hh := Hp.start w;by_cases h1 : (8 : Int) < a.bz.size
 ·refine Ex ?_;refine sr ?_;refine cD hh [_,_,_] ?_;intro b1 w1 hh;refine aB (aa (sr (bH (bH ?_))));refine bG hh 0 ?_;refine bI bk.out rfl TY ?_;refine cm (mB ?_);refine gS (gS (gS ?_));refine fL ?_;refine mB ?_;refine gS (gS (gS ?_));refine fL ?_;refine aB (aa (au ?_));refine cZ ?_;refine ⟨?_, hh.below⟩;unfold u6;rw [Um (.inl h1)]
 ·by_cases h2 : a.e < -60
  ·refine Ex ?_;refine sr ?_;refine cD hh [_,_,_] ?_;intro b1 w1 hh;refine aB (aa (sr (bH (bH ?_))));refine bG hh 0 ?_;refine bI bk.out rfl TY ?_;refine cm (mB (gT (bH (gT ?_))));refine bG hh 0 ?_;refine gT ?_;refine bg ?_;refine e7 ?_;refine mB ?_;refine gS (gS (gS ?_));refine fL ?_;refine aB (aa (au ?_));refine cZ ?_;refine ⟨?_, hh.below⟩;unfold u6;rw [Um (.inr (.inl h2))]
  ·by_cases h3 : 60 < a.e
   ·refine Ex ?_;refine sr ?_;refine cD hh [_,_,_] ?_;intro b1 w1 hh;refine aB (aa (sr (bH (bH ?_))));refine bG hh 0 ?_;refine bI bk.out rfl TY ?_;refine cm (mB (gT (bH (gT ?_))));refine bG hh 0 ?_;refine gT ?_;refine bg ?_;refine e7 ?_;refine mB (gT (bH (gT ?_)));refine bG hh 0 ?_;refine gT ?_;refine cm ?_;refine e7 ?_;refine aB (aa (au ?_));refine cZ ?_;refine ⟨?_, hh.below⟩;unfold u6;rw [Um (.inr (.inr h3))]
   ·refine Ex ?_;refine sr ?_;refine cD hh [_,_,_] ?_;intro b1 w1 hh;refine aB (aa (sr (bH (bH ?_))));refine bG hh 0 ?_;refine bI bk.out rfl TY ?_;refine cm (mB (gT (bH (gT ?_))));refine bG hh 0 ?_;refine gT ?_;refine bg ?_;refine e7 ?_;refine mB (gT (bH (gT ?_)));refine bG hh 0 ?_;refine gT ?_;refine cm ?_;refine e7 ?_;refine aB (aa (au ?_));refine cZ ?_;refine ⟨?_, hh.below⟩;unfold u6;rw [UB TX]
theorem yz (v : Int) (A : Option Addr) (n c : Nat) (ts : List TR) (w : World) (hp : Sl w A n 4 (az TR.cells ts)) :
  Calls Tryz.prog 26 #[.agg #[.int .i64 v, .slice A n c]] w fun r w' => ∃ b : Bool, r = .returned (.bool b) ∧ (b = false → n ≤ 8 ∧ iI 124 ts ∧ ∀ t ∈ ts, t.m.size ≤ 20 ∧ ∀ c ∈ t.m.data.toList, c.toNat ≤ 4) ∧ Below w.heap.size w w' := by
 have hh := Hp.start w;have hln : ts.length = n := hp.bq TR.len TY;by_cases h1 : 8 < n
 ·refine aj (N := 45) (l := [.agg #[.int .i64 v, .slice A n c]]) Tryz.func26 rfl rfl (by simp) ?_;refine sr ?_;refine cD hh [_,_] ?_;intro b1 w1 hh;refine aB (aa (ah (sr (bH ?_))));refine bG hh 0 ?_;refine aJ ?_;refine cm (aa (cT (sr (aB (aa (au (aG ?_)))))));exact Am
 ·refine aj (N := 45) (l := [.agg #[.int .i64 v, .slice A n c]]) Tryz.func26 rfl rfl (by simp) ?_;refine sr ?_;refine cD hh [_,_] ?_;intro b1 w1 hh;refine aB (aa (ah (sr (bH ?_))));refine bG hh 0 ?_;refine aJ ?_;refine cm (aa (cF (ar (ai (ah (sr (aI (aa (aq ?_)))))))));refine aP [2, 3, 4, 5, 10, 11, 12, 13, 14, 15, 16, 17, 18, 19, 20, 21, 22, 23, 24, 25, 26, 27, 28, 29, 30, 31, 32, 33, 34, 35, 36, 37, 38, 39, 40, 41, 42, 43, 44] 3
   (fun x w' => ∃ i : Nat, i ≤ n ∧ x = .int .i64 i ∧ iI 124 (ts.take i) ∧ (∀ t ∈ ts.take i, t.m.size ≤ 20 ∧ ∀ c ∈ t.m.data.toList, c.toNat ≤ 4) ∧ Hp w [.blk b1 24 [.int .i64 v, .slice A n c] (0, 0)] w')
   (fun v _ => n - (intOf v).toNat) ?_ ?_
  ·exact ⟨0, T6 _, rfl, fun t ht => (nomatch ht), fun t ht => (nomatch ht), hh⟩
  ·clear hh;rintro ρ' x_ w' ⟨i, hi, rfl, hall, hsz, hh⟩;by_cases hlt : i < n
   ·obtain ⟨x, hx⟩ := ak (l := ts) (k := i) TX;obtain ⟨ad, rfl, hr⟩ := hp.at_ TX;have hfa := fun w1 => lL x.c w1;have hbm := dE x.m;refine ah (sr (mI (bH ?_)));refine bG hh 0 ?_;refine aJ ?_;refine bg (aa (cT (ar (ai (ah (aq (sr (bH ?_))))))));refine bG hh 0 ?_;refine mI ?_;refine cu ?_;refine p6 ?_;refine Ia ?_;refine aS (aa (ah (sr (bH ?_))));refine bG hh 0 ?_;refine mI ?_;refine cu ?_;refine p6 ?_;refine cw (vs := [_, _, _]) aK.out rfl (((hr.ext hh.below).recAt TR.len hx).drop 1) rfl TY ?_;refine bD hh (hfa _) rfl ?_;intro w29 hh
    cases hf : u6 x.c with
    | true =>
     refine mB ?_;refine gS (gS (gS ?_));refine fL ?_;exact NY
    | false =>
     by_cases h5 : 20 < x.m.size
     ·refine mB (gT (mS (gT ?_)));refine bI bk.out rfl TY ?_;refine gT ?_;refine cm ?_;refine e7 ?_;exact NY
     ·refine mB (gT (mS (gT ?_)));refine bI bk.out rfl TY ?_;refine gT ?_;refine cm ?_;refine e7 ?_;refine aa (cF (ar (ai (sr (aI (aa (aq ?_)))))));refine aP [2, 5, 35, 36, 37, 38, 39, 40, 41, 42, 43, 44] 5
       (fun y w' => ∃ q : Nat, q ≤ x.m.size ∧ y = .int .i64 q ∧ (∀ c ∈ x.m.data.toList.take q, c.toNat ≤ 4) ∧ Hp w [.blk b1 24 [.int .i64 v, .slice (some ad) n c] (0, 0)] w')
       (fun v _ => x.m.size - (intOf v).toNat) ?_ ?_
      ·exact HP
      ·clear hh;rintro ρ' y_ w' ⟨q, hq, rfl, hex, hh⟩;by_cases hlq : q < x.m.size
       ·obtain ⟨e, he⟩ := ak (l := x.m.data.toList) (k := q) TX;have he8 : e.toNat < 256 := e.toNat_lt;by_cases h6 : 4 < e.toNat
        ·refine ah (sr (mI (mS ?_)));refine bI bk.out rfl TY ?_;refine bg (aa (cT (ar (ai (ah (aq (sr (mS (mI ?_)))))))));refine j0 ?_;refine cm (aa (cT (sr (aB (aa (au (cd (aG (aG (cd (cd (aG (aG (cd (aG ?_)))))))))))))));exact Am
        ·refine ah (sr (mI (mS ?_)));refine bI bk.out rfl TY ?_;refine bg (aa (cT (ar (ai (ah (aq (sr (mS (mI ?_)))))))));refine j0 ?_;refine cm (aa (cF (ar (bE (ai (ao (mI ?_)))))));refine bj (aI (aA (ai ?_)));refine ⟨⟨q + 1, TX, rfl, fun t ht => ?_, hh⟩, by show x.m.size - (q + 1) < x.m.size - q; omega, ?_⟩
         ·rw [ay he] at ht
          rcases UD.1 ht with ht | ht
          ·exact hex t ht
          ·rw [Un.1 ht]; omega
         ·exact dQ
       ·rw [T9 TX] at hex;refine ah (sr (mI (mS ?_)));refine bI bk.out rfl TY ?_;refine bg (aa (cF (a6 (aD (aD (bB (bE (ai (ao (mI ?_))))))))));refine bj (aI (aA (ai ?_)));refine ⟨⟨i + 1, TX, rfl, fun t ht => ?_, fun t ht => ?_, hh⟩, by show n - (i + 1) < n - i; omega, ?_⟩
        ·exact Qu
        ·rw [ay hx] at ht
         rcases UD.1 ht with ht | ht
         ·exact hsz t ht
         ·rw [Un.1 ht]; exact ⟨TX, hex⟩
        ·exact dQ
   ·rw [T9 TX] at hall hsz;refine ah (sr (mI (bH ?_)));refine bG hh 0 ?_;refine aJ ?_;refine Aq ?_;refine cZ ?_;exact ⟨_, rfl, fun _ => ⟨TX, hall, hsz⟩, hh.below⟩
theorem AW (A : Option Addr) (n c : Nat) (xs : List NR) (B : Option Addr) (m d : Nat) (b : List SR) (w : World) (hS : Sl w A n 3 (az NR.cells xs)) (hB : Sl w B m 6 (az SR.cells b)) :
  Calls Tryz.prog 27 #[.slice A n c, .slice B m d] w fun r w' => ∃ v : Bool, r = .returned (.bool v) ∧ (v = false → n ≤ 200 ∧ m ≤ 20 ∧ (∀ x ∈ xs, x.ok ∧ Sz 124 x.d) ∧ ∀ s ∈ b, s.fin 124) ∧ Below w.heap.size w w' := by
 have hh := Hp.start w;have hln : xs.length = n := hS.bq NR.len TY;have hlb : b.length = m := hB.bq SR.len TY;by_cases h1 : 200 < n
 ·refine Kl ?_;refine sr (aB (aa (ah (sr (mL (aJ ?_))))));refine cm (mB ?_);refine gS (gS (gS ?_));refine fL ?_;refine aa (cT (sr (aB (aa (au (aG ?_))))));exact Am
 ·by_cases h2 : 20 < m
  ·refine Kl ?_;refine sr (aB (aa (ah (sr (mL (aJ ?_))))));refine vR ?_;refine cm ?_;refine e7 ?_;refine aa (cT (sr (aB (aa (au (aG ?_))))));exact Am
  ·refine Kl ?_;refine sr (aB (aa (ah (sr (mL (aJ ?_))))));refine vR ?_;refine cm ?_;refine e7 ?_;refine aa (cF (ar (ai (ah (sr (aI (aa (aq ?_))))))));refine aP [4, 5, 15, 16, 17, 18, 19, 20, 21, 22, 23, 24, 25] 5
    (fun x w' => ∃ i : Nat, i ≤ n ∧ x = .int .i64 i ∧ (∀ x ∈ xs.take i, x.ok ∧ Sz 124 x.d) ∧ Hp w [] w')
    (fun v _ => n - (intOf v).toNat) ?_ ?_
   ·exact HP
   ·clear hh;rintro ρ' x_ w' ⟨i, hi, rfl, hall, hh⟩;by_cases hlt : i < n
    ·obtain ⟨x, hx⟩ := ak (l := xs) (k := i) TX;obtain ⟨ad, rfl, hr⟩ := hS.at_ TX;have hfa := fun w1 => lL x w1;refine ah (sr (mI (mL (aJ ?_))));refine ri ?_;refine cu ?_;refine cw (vs := [_, _, _]) aK.out rfl ((hr.ext hh.below).recAt NR.len hx) rfl TY ?_;refine bD hh (hfa _) rfl ?_;intro w25 hh
     cases hf : u6 x with
     | true =>
      exact Jn
     | false =>
      refine sZ ?_;refine bj (aI (aA (ai ?_)));refine ⟨⟨i + 1, TX, rfl, fun t ht => ?_, hh⟩, by show n - (i + 1) < n - i; omega, ?_⟩
      ·exact Qu
      ·exact dQ
    ·rw [T9 TX] at hall;refine ah (sr (mI (mL (aJ ?_))));refine bg (aa (cF (a6 (aD (aD (bB (ai (ah (sr (aI (aa (aq ?_))))))))))));refine aP [4, 6, 26, 27, 28, 29, 30, 31, 32, 33, 34, 35, 36, 37, 38, 39, 40, 41, 42, 43, 44, 45] 6
      (fun x w' => ∃ i : Nat, i ≤ m ∧ x = .int .i64 i ∧ (∀ s ∈ b.take i, s.fin 124) ∧ Hp w [] w')
      (fun v _ => m - (intOf v).toNat) ?_ ?_
     ·exact HP
     ·clear hh;rintro ρ' x_ w' ⟨j, hj, rfl, hbx, hh⟩;by_cases hlt2 : j < m
      ·obtain ⟨s, hs⟩ := ak (l := b) (k := j) TX;obtain ⟨ad, rfl, hr⟩ := hB.at_ TX;have hf1 := fun w1 => lL s.lo w1;have hf2 := fun w1 => lL s.hi w1;refine ah (sr (mI (mL (aJ ?_))));refine ri ?_;refine oQ ?_;refine p6 ?_;refine cw (vs := [_, _, _]) aK.out rfl (((((hr.ext hh.below).recAt SR.len hs).drop 0).take 3)) rfl TY ?_
       cases hg1 : u6 s.lo with
       | true =>
        rw [hg1] at hf1;refine bD hh (hf1 _) rfl ?_;intro w37 hh;refine mB ?_;refine gS (gS (gS (gS ?_)));refine ju ?_;refine ju ?_;refine fL ?_;exact Jn
       | false =>
        rw [hg1] at hf1;refine bD hh (hf1 _) rfl ?_;intro w37 hh;refine mB (gT (mL (gT (mI (gT ?_)))));refine oQ ?_;refine gT ?_;refine p6 ?_;refine aH rfl rfl ?_;refine cw (vs := [_, _, _]) aK.out rfl (((((hr.ext hh.below).recAt SR.len hs).drop 3).take 3)) rfl TY ?_
        cases hg2 : u6 s.hi with
        | true =>
         rw [hg2] at hf2;refine aH rfl rfl ?_;refine bD hh (hf2 _) rfl ?_;intro w44 hh;refine e7 ?_;exact Jn
        | false =>
         rw [hg2] at hf2;refine aH rfl rfl ?_;refine bD hh (hf2 _) rfl ?_;intro w44 hh;refine e7 ?_;refine sZ ?_;refine bj (aI (aA (ai ?_)));refine ⟨⟨j + 1, TX, rfl, fun t ht => ?_, hh⟩, by show m - (j + 1) < m - j; omega, ?_⟩
         ·rw [ay hs] at ht
          rcases UD.1 ht with ht | ht
          ·exact hbx t ht
          ·rw [Un.1 ht];obtain ⟨a1, a2⟩ := Pn hg1;obtain ⟨a3, a4⟩ := Pn hg2;exact ⟨⟨a1, a2⟩, ⟨a3, a4⟩⟩
         ·exact dQ
      ·rw [T9 TX] at hbx;refine ah (sr (mI (mL (aJ ?_))));refine Aq ?_;refine cZ ?_;exact ⟨_, rfl, fun _ => ⟨TX, TX, hall, hbx⟩, hh.below⟩
variable {N c : Nat} {ds : List Nat} {l ts : List TR}
theorem th : ∀ (N : Nat) (l : List Nat), l.Nodup → (∀ x ∈ l, x < N) → l.length ≤ N
 | 0, l, _, h => by
  cases l with
  | nil => exact T5 _
  | cons x l => exact absurd (h x Uc) TX
 | N + 1, l, hd, h => by
  by_cases hm : N ∈ l
  ·have h1 := th N (l.erase N) (hd.erase N) fun x hx => by
    have := (hd.mem_erase_iff).1 hx;have := h x this.2;omega
   rw [List.length_erase_of_mem hm] at h1;omega
  ·have := th N l hd fun x hx => by
    have := h x hx;have : x ≠ N := fun e => hm (e ▸ hx);omega
   omega
theorem Mx (hr : sC l) (h : ∀ t ∈ l, ll ds (cn t.m)) : l.length ≤ av ds := by
 have h1 := th (av ds) (l.map fun t => il ds (cn t.m)) (by
  unfold List.Nodup;rw [List.pairwise_map];refine List.Pairwise.imp_of_mem (fun {a b} ha hb hl e => ?_) hr;have e2 : cn a.m = cn b.m := by rw [← iC (h a ha), e, iC (h b hb)]
  rw [sY e2, gP] at hl
  cases hl) (fun x hx => by
  obtain ⟨t, ht, rfl⟩ := Ui.1 hx;exact mR (h t ht))
 rwa [Ug] at h1
theorem PB {v : Nat} {B : Nat → Nat} (hs : ∀ t ∈ l, t.m.size = v) (h : kA B l) : ∀ t ∈ l, ll ((List.range v).map B) (cn t.m) := fun t ht => by
 rw [jO];refine ⟨by rw [jY, hs t ht, Ug, V6], fun i d r hd hr => ?_⟩;have hi := (Uk.1 hd).1;rw [Ug, V6] at hi;rw [Ue, UY hi] at hd;have := h t ht i;rw [sx, hr] at this;rw [← UN hd];exact this
theorem pg {v : Nat} {B : Nat → Nat} (h : fH (v : Int) ts = 0) (hb : kA B ts) : ts.length ≤ av ((List.range v).map B) := by
 obtain ⟨_, _, h3, h4⟩ := ct h;refine Mx h4.rL (PB (fun t ht => ?_) hb);have := h3 t ht;unfold eK at this;rw [Uj, Up] at this;omega
theorem vY {v : Int} {q p : List TR} {sub : List TR → Int × List TR} {j D K T B c N : Nat} (hv : iU v = true) (hq : iW v K q) (hT : q.length ≤ T) (hD : ∀ t ∈ p, fK j t ≤ D) (hb : ∀ n, (sub (bh p j n)).1 = 0 → iW v B (sub (bh p j n)).2 ∧ (sub (bh p j n)).2.length ≤ N)
  (hN : ∀ i, i ≤ 128 → (bA q sub p j i).1 = 0 → (bA q sub p j i).2.length ≤ N) (hc : K + N * T + (N * T + N) ≤ c) (hS : B + D * c + N ≤ 500000) (hc2 : c ≤ 100000) (hN4 : N ≤ 4096) :
  ∀ i, i ≤ 128 → (bA q sub p j i).1 = 0 → iW v (B + (i + D - 128) * c + N) (bA q sub p j i).2
 | 0, _, _ => iW.nil hv
 | i + 1, hi, h0 => by
  by_cases h1 : i + 1 + D ≤ 127
  ·rw [gL hD _ h1];exact iW.nil hv
  ·have h2 : (bA q sub p j i).1 = 0 := by
    refine VO fun c => ?_;rw [jG c (Nat.le_succ i)] at h0;exact c h0
   have hle : (i + 1 + D - 128) * c ≤ D * c := U2 _ TX;have ih := vY hv hq hT hD hb hN hc hS hc2 hN4 i TX h2;have hNi := hN i TX h2;have hst : i + D ≤ 127 → bA q sub p j i = (0, []) := gL hD i;have hmul : ¬ i + D ≤ 127 → (i + 1 + D - 128) * c = (i + D - 128) * c + c := fun h => by rw [show i + 1 + D - 128 = (i + D - 128) + 1 by omega, Va]
   have hle0 : (i + D - 128) * c ≤ (i + 1 + D - 128) * c := U2 _ TX;rw [iV] at h0 ⊢;unfold hH at h0 ⊢;rw [T3 (fun h => h h2)] at h0 ⊢;by_cases c1 : (bA q sub p j i).2.length = 0 ∧ (bh p j (127 - i)).length = 0
   ·rw [T2 c1];exact ih.mono TX
   ·rw [T3 c1] at h0 ⊢;by_cases c2 : eZ (bA q sub p j i).2 q ≠ 0
    ·rw [T2 c2] at h0; exact absurd h0 c2
    ·rw [T3 c2] at h0 ⊢;by_cases c3 : (sub (bh p j (127 - i))).1 ≠ 0
     ·rw [T2 c3] at h0; exact absurd h0 c3
     ·rw [T3 c3] at h0 ⊢;by_cases c4 : gp (aE (cg (bA q sub p j i).2 q) ++ (sub (bh p j (127 - i))).2) ≠ 0
      ·rw [T2 c4] at h0; exact absurd h0 c4
      ·rw [T3 c4];obtain ⟨hs1, hs2⟩ := hb (127 - i) TX;obtain ⟨f1, f2, f3, f4⟩ := ct ih.e;obtain ⟨g1, g2, g3, g4⟩ := ct hs1.e;by_cases hlow : i + D ≤ 127
       ·rw [hst hlow];have hl : (aE (cg [] q) ++ (sub (bh p j (127 - i))).2).length ≤ N := hs2;refine (iQ (k := B) (n := N) hv (fun t ht => g3 t ht) (fun t ht => hs1.ok t ht) (fun t ht => hs1.sz t ht) hl TX TX).mono TX
       ·have ht := (j8 (p := (bA q sub p j i).2) (q := q) TX);have hpl : (cg (bA q sub p j i).2 q).length ≤ N * T := by rw [jF]; exact Vs hNi hT
        have hm := hmul hlow;rw [hm] at hle ⊢;generalize (i + D - 128) * c = y at *;generalize D * c = z at *;have hpo := o7 ih.ok hq.ok TX;have hg1 := lr (k := B + y + N + K) (j := B + y + N + K + N * T) hpo TX TX;have hg2 := bP (cg (bA q sub p j i).2 q);have hmm : ∀ {P : TR → Prop}, (∀ t ∈ aE (cg (bA q sub p j i).2 q), P t) → (∀ t ∈ (sub (bh p j (127 - i))).2, P t) → ∀ t ∈ aE (cg (bA q sub p j i).2 q) ++ (sub (bh p j (127 - i))).2, P t := fun a b t ht => (UD.1 ht).elim (a t) (b t);refine ⟨eA hv (sB TX) (hmm (lQ (mV f3 ht.2.1)) g3), lr (k := B + y + N + K + N * T) (hmm hg1 (hs1.ok.mono TX)) (by rw [Ua]; omega) TX, nZ (hmm (Aa ih.ok hq.ok hq.sz TX TX).2 hs1.sz)⟩
theorem JV {v K T : Nat} (hv : v ≤ 12) (D : Nat → Nat) (hN : av ((List.range v).map D) ≤ N) (hc : K + N * T + (N * T + N) ≤ c) (hc2 : c ≤ 100000) (hN4 : N ≤ 4096) : ∀ (qs : List (List TR)) (j : Nat) (p : List TR) (ds : List Nat) (k : Nat), (∀ (i : Nat) (q : List TR), qs[i]? = some q → iW v K q ∧ q.length ≤ T ∧ kA (fun x => if x = j + i then 1 else 0) q) → iI k p → ds.length = qs.length → (∀ (i d : Nat), ds[i]? = some d → D (j + i) = d) → (∀ t ∈ p, ∀ i, i < qs.length → fK (j + i) t ≤ D (j + i)) → k + 1 + (ds.sum + ds.length) * c ≤ 400000 →
  (ep v qs j p).1 = 0 → iW v (k + 1 + (ds.sum + ds.length) * c) (ep v qs j p).2 ∧ (ep v qs j p).2.length ≤ N := by
 intro qs
 induction qs with
 | nil =>
  intro j p ds k _ hok hds _ _ hB _;obtain rfl : ds = [] := V1.1 hds;have h1 : iW v (k + 1) (ep v [] j p).2 := by
   refine qw (ee hv) ?_ TX;exact QF
  refine ⟨h1.mono (Nat.le_add_right _ _), Ur (pg h1.e (B := fun _ => 0) (pq v _).aE) (Ur ?_ hN)⟩;have e : ∀ (f : Nat → Nat) (l : List Nat), av (l.map fun _ => 0) ≤ av (l.map f) := fun f l => by
   induction l with
   | nil => exact T5 _
   | cons x l ih => exact Vs (Nat.succ_le_succ (T6 _)) ih
  exact e D _
 | cons q qs ih =>
  intro j p ds k hq hok hds hdD hp hB h0
  cases ds with
  | nil => cases hds
  | cons d ds =>
   have hdj : D j = d := hdD 0 d rfl;obtain ⟨hq1, hq2, hq3⟩ := hq 0 q rfl;rw [Vu] at hq3;rw [List.sum_cons, Uq] at hB ⊢;have hBe : (d + ds.sum + (ds.length + 1)) * c = (ds.sum + ds.length) * c + d * c + c := by rw [show d + ds.sum + (ds.length + 1) = (ds.sum + ds.length) + d + 1 by omega, VV, VV, VX]
   rw [hBe] at hB ⊢;have hNc : N ≤ c := TX;have hpw : ∀ n, ∀ t ∈ bh p j n, ∀ i, i < qs.length → fK (j + 1 + i) t ≤ D (j + 1 + i) := fun n t ht i hi => by
    exact RA
   have hsub : ∀ n, (ep v qs (j + 1) (bh p j n)).1 = 0 → iW v (k + 1 + (ds.sum + ds.length) * c) (ep v qs (j + 1) (bh p j n)).2 ∧ (ep v qs (j + 1) (bh p j n)).2.length ≤ N := fun n hn => by
    refine ih (j + 1) (bh p j n) ds k (fun i r hr => ?_) (fun t ht => hok t (jh t ht)) (by simpa using hds) (fun i e he => ?_) (hpw n) TX hn
    ·have := hq (i + 1) r (by simpa using hr);rwa [show j + 1 + i = j + (i + 1) by omega]
    ·have := hdD (i + 1) e (by simpa using he);rwa [show j + 1 + i = j + (i + 1) by omega]
   have hsbn : ∀ n, (ep v qs (j + 1) (bh p j n)).1 = 0 → kA (fun x => if j + 1 ≤ x ∧ x < j + 1 + qs.length then D x else 0) (ep v qs (j + 1) (bh p j n)).2 := fun n hn => xy qs (j + 1) (bh p j n) D (fun i r hr => by
    have := (hq (i + 1) r (by simpa using hr)).2.2;rwa [show j + 1 + i = j + (i + 1) by omega]) (hpw n) hn
   have hDp : ∀ t ∈ p, fK j t ≤ d := fun t ht => by rw [← hdj]; exact hp t ht 0 (by rw [Uq]; omega)
   rw [qk] at h0 ⊢;generalize ep v qs (j + 1) = sub at hsub hsbn h0 ⊢;have hlim0 : ∀ i, i ≤ 128 → (bA q sub p j i).1 = 0 → fH (v : Int) (bA q sub p j i).2 = 0 := fun i hi hz => by
    clear h0
    induction i with
    | zero => exact (iW.nil (k := 0) (ee hv)).e
    | succ i ihi =>
     have h2 : (bA q sub p j i).1 = 0 := by
      refine VO fun c => ?_;rw [jG c (Nat.le_succ i)] at hz;exact c hz
     have e0 := ihi TX h2;rw [iV] at hz ⊢;unfold hH at hz ⊢;rw [T3 (fun h => h h2)] at hz ⊢;by_cases c1 : (bA q sub p j i).2.length = 0 ∧ (bh p j (127 - i)).length = 0
     ·rw [T2 c1]; exact e0
     ·rw [T3 c1] at hz ⊢;by_cases c2 : eZ (bA q sub p j i).2 q ≠ 0
      ·rw [T2 c2] at hz; exact absurd hz c2
      ·rw [T3 c2] at hz ⊢;by_cases c3 : (sub (bh p j (127 - i))).1 ≠ 0
       ·rw [T2 c3] at hz; exact absurd hz c3
       ·rw [T3 c3] at hz ⊢;by_cases c4 : gp (aE (cg (bA q sub p j i).2 q) ++ (sub (bh p j (127 - i))).2) ≠ 0
        ·rw [T2 c4] at hz; exact absurd hz c4
        ·rw [T3 c4];refine eA (ee hv) (sB TX) fun t ht => (UD.1 ht).elim (lQ (mV (ct e0).2.2.1 (j8 TX).2.1) t) ((ct (hsub _ TX).1.e).2.2.1 t)
   have hbn := oT hq3 hDp (E := fun x => if j + 1 ≤ x ∧ x < j + 1 + qs.length then D x else 0) (by rw [T3 TX]) hsbn;have hNN : ∀ i, i ≤ 128 → (bA q sub p j i).1 = 0 → (bA q sub p j i).2.length ≤ N := fun i hi hz => by
    refine Ur (pg (hlim0 i hi hz) ((hbn i hi hz).mono (C := D) fun x => ?_)) hN;by_cases hx : x = j
    ·rw [T2 hx, hx, hdj]; omega
    ·rw [T3 hx];split
     ·exact T5 _
     ·exact T6 _
   have e : ∀ m, m = 128 → (bA q sub p j m).1 = 0 → iW v (k + 1 + ((ds.sum + ds.length) * c + d * c + c)) (bA q sub p j m).2 ∧ (bA q sub p j m).2.length ≤ N := fun m hm hz => by
    have h3 := vY (ee hv) hq1 hq2 hDp hsub hNN hc TX hc2 hN4 m TX hz;rw [show m + d - 128 = d by omega] at h3;exact ⟨h3.mono TX, hNN m TX hz⟩
   exact e 128 rfl h0
variable {C k : Nat} {b : List SR} {xs : List Dyadic}
theorem BE {d a : Nat} (t : Dyadic) (h : a ≤ d) : sm (List.range (d + 1)) (fun r => dX d 1 1 a r * jx d r t) = t ^ a := by
 have e0 : (fun r => dX d 1 1 a r * jx d r t) = fun k => if k < a then 0 else (fun j => nD (bin (d - a) j) * jx d (j + a) t) (k - a) := funext fun k => by
  unfold dX;by_cases hk : k < a
  ·rw [T2 hk, T2 hk, Dyadic.zero_mul]
  ·rw [T3 hk, T3 hk, ij, ij];show nD (bin (d - a) (k - a)) * 1 * 1 * jx d k t = nD (bin (d - a) (k - a)) * jx d (k - a + a) t;rw [Nat.sub_add_cancel TX];grind
 have hb := MK (d - a) t (1 - t);rw [show t + (1 - t) = 1 by grind, ij] at hb;rw [e0, MJ d a h fun j => nD (bin (d - a) j) * jx d (j + a) t];have e1 : ∀ j, j ∈ List.range (d - a + 1) → nD (bin (d - a) j) * jx d (j + a) t = t ^ a * (nD (bin (d - a) j) * t ^ j * (1 - t) ^ (d - a - j)) := fun j hj => by
  have := UT.1 hj;unfold jx;rw [show d - (j + a) = d - a - j by omega, nn];grind
 rw [bo e1, iu, hb];grind
theorem JA : ∀ (ds s : List Nat) (ts : List Dyadic), ll ds s → ts.length = ds.length → sm (List.range (av ds)) (fun p => wK 0 ds s (cL ds p) * sS ds (cL ds p) ts) = dL s ts
 | [], [], [], _, _ => by show (1 : Dyadic) * 1 + 0 = 1; grind
 | [], _ :: _, _, h, _ => by cases h
 | _ :: _, [], _, h, _ => by cases h
 | [], [], _ :: _, _, h => by cases h
 | _ :: _, _ :: _, [], _, h => by cases h
 | d :: ds, a :: s, t :: ts, h1, h2 => by
  have ih := JA ds s ts h1.2 (by simpa using h2);rw [xF, dL, ← ih, ← BE t h1.1, ← iu];refine bo fun q _ => ?_;rw [← kF];refine bo fun r hr => ?_;have hr2 := UT.1 hr;rw [cL, VW, UG hr2, Vk _ _ TX, U1 hr2, Uv, sS];show dX d 1 1 a r * wK 0 ds s (cL ds q) * _ = _;grind
theorem ng : ∀ (s : List Nat) (ts : List Dyadic) (a : Nat) (t : Dyadic), s.length = ts.length → dL (s ++ [a]) (ts ++ [t]) = dL s ts * t ^ a
 | [], [], a, t, _ => by show t ^ a * 1 = 1 * t ^ a; grind
 | [], _ :: _, _, _, h => by cases h
 | _ :: _, [], _, _, h => by cases h
 | b :: s, u :: ts, a, t, h => by
  show u ^ b * dL (s ++ [a]) (ts ++ [t]) = u ^ b * dL s ts * t ^ a;rw [ng s ts a t (by simpa using h)];grind
theorem uH : ∀ (s : List Nat) (ts : List Dyadic), s.length = ts.length → dL s.reverse ts.reverse = dL s ts
 | [], [], _ => rfl
 | [], _ :: _, h => by cases h
 | _ :: _, [], h => by cases h
 | b :: s, u :: ts, h => by
  rw [Ww, Ww, ng _ _ _ _ (by simpa using h), uH s ts (by simpa using h), dL];grind
theorem O6 {ns : List Nat} {S : List TR} {ts : List Dyadic} (hS : ∀ t ∈ S, ll ns.reverse (cn t.m).reverse) (ht : ts.length = ns.length) : mC ns.reverse (qz ns S) ts = iG ts.reverse S := by
 unfold mC;have e1 : sm (List.range (av ns.reverse)) (fun p => ((qz ns S)[p]?).getD 0 * sS ns.reverse (cL ns.reverse p) ts) = sm (List.range (av ns.reverse)) fun p => sm S fun t => t.c.d * (wK 0 ns.reverse (cn t.m).reverse (cL ns.reverse p) * sS ns.reverse (cL ns.reverse p) ts) := bo fun p hp => by
  unfold qz;rw [Ue, UY (UT.1 hp)];show wS _ S * _ = _;rw [pH, ← kF];exact bo fun t _ => by grind
 rw [e1, oM];unfold iG;rw [pH];refine bo fun t h => ?_;rw [iu, JA _ _ _ (hS t h) (by rw [UJ]; exact ht)];have hl := yb (hS t h);rw [UJ, UJ] at hl;have := uH (cn t.m).reverse ts (by rw [UJ, hl, ht]);rw [Wn] at this;rw [this]
theorem Ef (f : ByteArray → Dyadic) (c : Dyadic) (l : List TR) : wS f (l.map (mh c)) = wS f l * c := by
 induction l with
 | nil => exact (Dyadic.zero_mul _).symm
 | cons t l ih =>
  rw [Ut, wS, wS, ih];show (nR (t.c.d * c)).d * f t.m + _ = _;rw [bR];grind
theorem uC : ∀ (v i : Nat) (xs : List Dyadic), xs.length = v → i < v → dL (((List.replicate v 0).set i 1)) xs = (xs[i]?).getD 0
 | 0, _, _, _, h => absurd h (Nat.not_lt_zero _)
 | v + 1, i, [], h, _ => by cases h
 | v + 1, 0, x :: xs, h, _ => by
  show x ^ 1 * dL (List.replicate v 0) xs = x;rw [k7];grind
 | v + 1, i + 1, x :: xs, h, hi => by
  show x ^ 0 * dL ((List.replicate v 0).set i 1) xs = (xs[i]?).getD 0;rw [uC v i xs (by simpa using h) TX, WB];grind
theorem zl (v i : Nat) : cn (jZ v i) = (List.replicate v 0).set i 1 := by
 unfold cn jZ;show ((((List.replicate (v : Int).toNat (0 : UInt8)).set i 1).toArray).toList).map UInt8.toNat = _;rw [List.toList_toArray, Wo, List.map_replicate]
 rfl
theorem wJ (v : Nat) : cn (dJ v) = List.replicate v 0 := by
 unfold cn dJ;show (((List.replicate (v : Int).toNat (0 : UInt8)).toArray).toList).map UInt8.toNat = _;rw [List.toList_toArray, List.map_replicate]
 rfl
theorem JB {v i : Nat} {s : SR} (hx : xs.length = v) (hi : i < v) : iG xs (gK v i s) = s.L + (s.H - s.L) * (xs[i]?).getD 0 := by
 unfold gK kK sF l5;rw [ea, nW, ea, ea];have e1 : iG xs [⟨dJ v, nR s.L⟩] = s.L := by
  show (nR s.L).d * dL (cn (dJ v)) xs + 0 = _;rw [bR, wJ, k7];grind
 have e2 : iG xs ((aE [⟨jZ v i, nR ((1 : Int) : Dyadic)⟩]).map (mh (s.H - s.L))) = (xs[i]?).getD 0 * (s.H - s.L) := by
  unfold iG;rw [Ef, qg];show ((nR ((1 : Int) : Dyadic)).d * dL (cn (jZ v i)) xs + 0) * _ = _;rw [bR, zl, uC v i xs hx hi, show (((1 : Int) : Dyadic)) = 1 from rfl];grind
 rw [e1, e2];grind
def l8 (b : List SR) (xs : List Dyadic) : List Dyadic := b.mapIdx fun i s => s.L + (s.H - s.L) * (xs[i]?).getD 0
theorem F0 (hx : xs.length = b.length) : (bp b).map (fun g => iG xs g.ts) = l8 b xs := by
 refine Ve fun i => ?_;unfold l8;rw [Ue, Wr]
 cases hs : b[i]? with
 | none =>
  rw [Uy (by rw [jX]; exact Xq.1 hs)]
  rfl
 | some s =>
  rw [fW hs];show some (iG xs (gK b.length i s)) = some _;rw [JB hx (Uk.1 hs).1]
theorem Lw {p : PX} (h0 : (cQ p (bp b)).1 = 0) (hx : xs.length = b.length) : iG xs (cQ p (bp b)).2 = iG (l8 b xs) p.ts := by
 rw [I9 h0, F0 hx]
theorem Gt {p : PX} {ns : List Nat} {s : Nat} (h : vh p b ns) (ho : iI k p.ts) (hb : ∀ z ∈ b, z.fin k) (hk : k ≤ 1000) (hN : av (cR p.v p.ts) ≤ N) (hN2 : N ≤ 1000) (hs : (cR p.v p.ts).sum ≤ s) (hB : k + 1 + (s + 12) * (k + k + 10 + 5 * N) ≤ 400000) (h0 : (cQ p (bp b)).1 = 0) :
  iW b.length (k + 1 + (s + 12) * (k + k + 10 + 5 * N)) (cQ p (bp b)).2 ∧ (cQ p (bp b)).2.length ≤ N := by
 have hl := h.kE;have hpos := h.pos;have hln := jX b;obtain ⟨_, o2, o3⟩ := mf h.e;have hol := h.yc;have hhv : eW (bp b) = b.length := by
  obtain ⟨z, hz⟩ := ak (l := b) (k := 0) TX;rw [j1 (fW hz)]
 unfold cQ at h0 ⊢;rw [T3 (fun c => c h.e), T3 (by rw [hln, h.v]; exact fun c => c rfl)] at h0 ⊢;by_cases hlk : (bp b).length ≠ 0 ∧ eY (bp b) ≠ 0
 ·rw [T2 hlk] at h0; exact absurd h0 hlk.2
 ·rw [T3 hlk, hhv] at h0 ⊢;have hD : (List.range b.length).map (fun i => ((cR p.v p.ts)[i]?).getD 0) = cR p.v p.ts := by
   refine Ve fun i => ?_;rw [Ue];by_cases hi : i < b.length
   ·obtain ⟨d, hd⟩ := ak (l := cR p.v p.ts) (k := i) TX;rw [UY hi, hd];show some (((cR p.v p.ts)[i]?).getD 0) = some d;rw [hd]
    rfl
   ·exact MZ
  have hsl : ((cR p.v p.ts).sum + (cR p.v p.ts).length) * (k + k + 10 + 5 * N) ≤ (s + 12) * (k + k + 10 + 5 * N) := U2 _ TX;have h1 := JV (K := k + k + 10) (T := 2) (c := k + k + 10 + 5 * N) (N := N) hl (fun i => ((cR p.v p.ts)[i]?).getD 0) (by rw [hD]; exact hN) TX TX TX ((bp b).map PX.ts) 0 p.ts (cR p.v p.ts) k (fun i q hq => ?_) ho (by rw [Ug, hln, hol]) (fun i d hd => by rw [Uv, hd]; rfl) (fun t ht i hi => ?_) TX h0
  ·exact ⟨h1.1.mono TX, h1.2⟩
  ·rw [Ue] at hq;obtain ⟨g, hg, rfl⟩ := VJ.1 hq;obtain ⟨z, hz⟩ := ak (l := b) (k := i) (by have := (Uk.1 hg).1; rwa [hln] at this);rw [fW hz] at hg;rw [← UN hg, Uv];obtain ⟨a1, a2⟩ := nh (v := b.length) (i := i) hl (hb z (T7 hz)) TX;exact ⟨a1, a2, wi _ i z⟩
  ·rw [Ug, hln] at hi;rw [Uv];obtain ⟨d, hd⟩ := ak (l := cR p.v p.ts) (k := i) TX;rw [hd];exact (o3 i d hd).2.1 t ht
theorem EO : ∀ (ds : List Nat), (∀ d ∈ ds, d ≤ 5) → 2 ^ ds.sum ≤ av ds * av ds
 | [], _ => T5 _
 | d :: ds, h => by
  have h1 := EO ds fun x hx => h x (Uf _ hx);have h2 := h d Uc;have h3 : 2 ^ d ≤ (d + 1) * (d + 1) := by
   match d, h2 with
   | 0, _ => decide
   | 1, _ => decide
   | 2, _ => decide
   | 3, _ => decide
   | 4, _ => decide
   | 5, _ => decide
  rw [List.sum_cons, Uu, av];have := Vs h3 h1
  calc 2 ^ d * 2 ^ ds.sum ≤ (d + 1) * (d + 1) * (av ds * av ds) := this
   _ = (d + 1) * av ds * ((d + 1) * av ds) := by rw [Nat.mul_mul_mul_comm]
theorem OH {s : Nat} (h : ∀ d ∈ ds, d ≤ 5) (hc : av ds ≤ C) (hs : C * C < 2 ^ (s + 1)) : ds.sum ≤ s := by
 have h1 := EO ds h;have h2 := Vs hc hc;have h3 : 2 ^ ds.sum < 2 ^ (s + 1) := TX;have := (Xr (by decide : 1 < 2)).1 h3;omega
theorem qp (c k : Nat) : ∀ ds : List Nat, fS c ds k = k + ds.sum * c + ds.length * 8192
 | [] => by rw [qF]; simp
 | d :: ds => by
  rw [oe, qp c k ds, List.sum_cons, Uq, VV, Va];omega
theorem QD {ns : List Nat} {S : List TR} (hS : ∀ t ∈ S, ll ns.reverse (cn t.m).reverse) (hk : iI k S) (hd : ∀ d ∈ ns, d ≤ 127) : ∀ x ∈ qz ns S, Sz (k + S.length + 520 * ns.length) x := by
 rw [← yI hS];exact B1 (Od hk) (fun d h => hd d (We.1 h)) ns.length
theorem Gy {v : Int} {a b : TR} (ha : eK v a = true) (hb : eK v b = true) (h : ∀ i, fK i a + fK i b ≤ 127) : mm a.m b.m = 0 := by
 unfold eK at ha hb;rw [Uj, Up] at ha hb;have hl : b.m.data.toList.length = a.m.data.toList.length := by rw [← dE, ← dE]; omega
 unfold mm;rw [DJ ha.1 hb.1 hl];rw [Ux];intro z hz;obtain ⟨i, hi⟩ := Vw.1 hz;rw [List.getElem?_zipWith] at hi
 cases hx : (ints a.m.data.toList)[i]? with
 | none => rw [hx] at hi; cases hi
 | some x =>
  cases hy : (ints b.m.data.toList)[i]? with
  | none => rw [hx, hy] at hi; cases hi
  | some y =>
   rw [hx, hy] at hi;have e : x + y = z := UN hi;unfold ints at hx hy;rw [Ue] at hx hy;obtain ⟨c, hc, rfl⟩ := VJ.1 hx;obtain ⟨d, hd, rfl⟩ := VJ.1 hy;have := h i;rw [mE hc, mE hd] at this;unfold cz;rw [← e, Uj, Up, Up];omega
theorem wh {v : Nat} {q p : List TR} {sub : List TR → Int × List TR} {j d N T : Nat} {E : Nat → Nat} (hv : v ≤ 12) (hq : fH v q = 0) (hqT : q.length ≤ T) (hqB : kA (fun x => if x = j then 1 else 0) q) (hD : ∀ t ∈ p, fK j t ≤ d) (hE : E j = 0) (hd : d ≤ 127) (hE2 : ∀ x, E x ≤ 127)
  (hs : ∀ n, (sub (bh p j n)).1 = 0 ∧ fH v (sub (bh p j n)).2 = 0 ∧ kA E (sub (bh p j n)).2) (hN : av ((List.range v).map fun x => if x = j then d else E x) ≤ N) (hNT : N * T + N ≤ 4096) :
  ∀ i, i ≤ 128 → (bA q sub p j i).1 = 0 ∧ fH v (bA q sub p j i).2 = 0
 | 0, _ => ⟨rfl, (iW.nil (k := 0) (ee hv)).e⟩
 | i + 1, hi => by
  obtain ⟨h1, h2⟩ := wh hv hq hqT hqB hD hE hd hE2 hs hN hNT i TX;have hb := oT hqB hD hE (fun n _ => (hs n).2.2) i TX h1;have hl : (bA q sub p j i).2.length ≤ N := Ur (pg h2 (hb.mono fun x => by
   by_cases hx : x = j
   ·rw [T2 hx, T2 hx]; omega
   ·rw [T3 hx, T3 hx]; exact T5 _)) hN
  have hls : ∀ n, (sub (bh p j n)).2.length ≤ N := fun n => Ur (pg (hs n).2.1 ((hs n).2.2.mono fun x => by
   by_cases hx : x = j
   ·rw [T2 hx, hx, hE]; exact T6 _
   ·rw [T3 hx]; exact T5 _)) hN
  obtain ⟨f1, f2, f3, f4⟩ := ct h2;obtain ⟨q1, q2, q3, q4⟩ := ct hq;have hpl : (cg (bA q sub p j i).2 q).length ≤ N * T := by rw [jF]; exact Vs hl hqT
  have hpe : ∀ e ∈ qW (bA q sub p j i).2 q, e = 0 := fun e he => by
   by_cases hlow : i + d ≤ 127
   ·rw [gL hD i hlow] at he
    cases he
   ·obtain ⟨x, hx, he⟩ := VY.1 he;obtain ⟨y, hy, rfl⟩ := Ui.1 he;refine Gy (f3 x hx) (q3 y hy) fun r => ?_;have a1 := hb x hx r;have a2 := hqB y hy r;have a3 := hE2 r;by_cases hr : r = j
    ·simp only [T2 hr] at a1 a2; omega
    ·simp only [T3 hr] at a1 a2; omega
  have htm : eZ (bA q sub p j i).2 q = 0 := by
   rw [Ah (by rw [← jF]; omega) hpe, gQ TX]
  obtain ⟨s1, s2, s3⟩ := hs (127 - i);have hgl := bP (cg (bA q sub p j i).2 q);have hg : gp (aE (cg (bA q sub p j i).2 q) ++ (sub (bh p j (127 - i))).2) = 0 := gQ (by rw [Ua]; have := hls (127 - i); omega);rw [iV];unfold hH;rw [T3 (fun c => c h1)];by_cases c1 : (bA q sub p j i).2.length = 0 ∧ (bh p j (127 - i)).length = 0
  ·rw [T2 c1]; exact ⟨h1, h2⟩
  ·rw [T3 c1, T3 (fun c => c htm), T3 (fun c => c s1), T3 (fun c => c hg)];refine ⟨rfl, eA (ee hv) (sB hg) fun t ht => (UD.1 ht).elim (lQ (mV f3 hpe) t) ((ct s2).2.2.1 t)⟩
theorem JX {f g : Nat → Nat} (l : List Nat) (h : ∀ x, f x ≤ g x) : av (l.map f) ≤ av (l.map g) := by
 induction l with
 | nil => exact T5 _
 | cons x l ih => exact Vs (Nat.succ_le_succ (h x)) ih
theorem zk {v N T : Nat} (hv : v ≤ 12) (D : Nat → Nat) (hD7 : ∀ x, D x ≤ 127) (hN : av ((List.range v).map D) ≤ N) (hNT : N * T + N ≤ 4096) : ∀ (qs : List (List TR)) (j : Nat) (p : List TR), (∀ (i : Nat) (q : List TR), qs[i]? = some q → fH v q = 0 ∧ q.length ≤ T ∧ kA (fun x => if x = j + i then 1 else 0) q) → (∀ t ∈ p, ∀ i, i < qs.length → fK (j + i) t ≤ D (j + i)) →
  (ep v qs j p).1 = 0 ∧ fH v (ep v qs j p).2 = 0
 | [], j, p, _, _ => ⟨rfl, eA (ee hv) (Ur (bP _) (by show 1 ≤ 4096; decide)) fun t ht => by
   rw [Un.1 ht];unfold eK;rw [Uj, Up];exact ⟨qT v, lM TX⟩⟩
 | q :: qs, j, p, hq, hp => by
  obtain ⟨q1, q2, q3⟩ := hq 0 q rfl;rw [Vu] at q3;have hpw : ∀ n, ∀ t ∈ bh p j n, ∀ i, i < qs.length → fK (j + 1 + i) t ≤ D (j + 1 + i) := fun n t ht i hi => by
   have := hp t (jh t ht) (i + 1) (by rw [Uq]; omega);rwa [show j + 1 + i = j + (i + 1) by omega]
  have hqs : ∀ (i : Nat) (r : List TR), qs[i]? = some r → fH v r = 0 ∧ r.length ≤ T ∧ kA (fun x => if x = j + 1 + i then 1 else 0) r := fun i r hr => by
   have := hq (i + 1) r (by simpa using hr);rwa [show j + 1 + i = j + (i + 1) by omega]
  have hs : ∀ n, (ep v qs (j + 1) (bh p j n)).1 = 0 ∧ fH v (ep v qs (j + 1) (bh p j n)).2 = 0 ∧ kA (fun x => if j + 1 ≤ x ∧ x < j + 1 + qs.length then D x else 0) (ep v qs (j + 1) (bh p j n)).2 := fun n => by
   obtain ⟨a1, a2⟩ := zk hv D hD7 hN hNT qs (j + 1) (bh p j n) hqs (hpw n);exact ⟨a1, a2, xy qs (j + 1) (bh p j n) D (fun i r hr => (hqs i r hr).2.2) (hpw n) a1⟩
  rw [qk];exact wh (d := D j) (E := fun x => if j + 1 ≤ x ∧ x < j + 1 + qs.length then D x else 0) hv q1 q2 q3 (fun t ht => hp t ht 0 (by rw [Uq]; omega)) (by rw [T3 TX]) (hD7 j) (fun x => by
   split
   ·exact hD7 x
   ·exact T6 _) hs (Ur (JX _ fun x => by
   by_cases hx : x = j
   ·rw [T2 hx, hx]; exact T5 _
   ·rw [T3 hx];split
    ·exact T5 _
    ·exact T6 _) hN) hNT 128 (T5 _)
theorem Gb {p : PX} {ls : List PX} {v T : Nat} (hv : v ≤ 12) (h0 : p.e = 0) (hpv : p.v = (ls.length : Int)) (hn : 0 < ls.length) (hl : ds.length = v) (hlv : ls.length = v) (hls : ∀ (i : Nat) (g : PX), ls[i]? = some g → g.v = (v : Int) ∧ fH v g.ts = 0 ∧ g.ts.length ≤ T ∧ kA (fun x => if x = i then 1 else 0) g.ts)
  (hd : ∀ (i d : Nat), ds[i]? = some d → d ≤ 127 ∧ ∀ t ∈ p.ts, fK i t ≤ d) (hN : av ds ≤ N) (hNT : N * T + N ≤ 4096) : (cQ p ls).1 = 0 ∧ fH v (cQ p ls).2 = 0 := by
 have hne : ls ≠ [] := fun e => by rw [e] at hn; exact absurd hn TY
 have hmem : ∀ g ∈ ls, g.v = (v : Int) ∧ fH v g.ts = 0 := fun g hg => by
  obtain ⟨i, hi⟩ := Vw.1 hg;exact ⟨(hls i g hi).1, (hls i g hi).2.1⟩
 have hlk : eY ls = 0 := GQ (v := v) hne (fun g hg => by unfold PX.e; rw [(hmem g hg).1]; exact (hmem g hg).2) fun g hg => (hmem g hg).1;have hhv : eW ls = v := by
  obtain ⟨g, hg⟩ := ak (l := ls) (k := 0) hn;rw [j1 hg];exact (hls 0 g hg).1
 unfold cQ;rw [T3 (fun c => c h0), T3 TX, T3 (fun c => c.2 hlk), hhv];have hDD : ∀ i, ds.getD i 0 ≤ 127 := fun i => by
  rw [U7]
  cases h : ds[i]? with
  | none => exact T6 _
  | some d => exact (hd i d h).1
 have hDm : (List.range v).map (fun i => ds.getD i 0) = ds := by
  refine Ve fun i => ?_;rw [Ue];by_cases hi : i < v
  ·obtain ⟨d, hdd⟩ := ak (l := ds) (k := i) TX;rw [UY hi, hdd];show some (ds.getD i 0) = some d;rw [U7, hdd]
   rfl
  ·exact MZ
 refine zk hv (fun i => ds.getD i 0) hDD (by rw [hDm]; exact hN) hNT (ls.map PX.ts) 0 p.ts (fun i q hq => ?_) fun t ht i hi => ?_
 ·rw [Ue] at hq;obtain ⟨g, hg, rfl⟩ := VJ.1 hq;rw [Uv];exact (hls i g hg).2
 ·rw [Ug] at hi;rw [Uv];obtain ⟨d, hdd⟩ := ak (l := ds) (k := i) TX;rw [U7, hdd];exact (hd i d hdd).2 t ht
theorem Gm {p : PX} {ds : List Int} (h : nK p b ds = 0) : pL p b (rO p ds) = 0 ∧ (cQ p (bp b)).1 = 0 := by
 unfold nK at h;by_cases h0 : pL p b (rO p ds) ≠ 0
 ·rw [T2 h0] at h; exact absurd h h0
 ·rw [T3 h0] at h; exact ⟨Wc.1 h0, h⟩
theorem tP (ns : List Nat) : (bL ns).map Int.toNat = ns := vF ns
theorem Out.fe {D : List Nat} {ys : List Dyadic} {g : FX} (o : Out 0 D ys g) (h12 : D.length ≤ 12) (hlow : ∀ d ∈ D, d ≤ 127) (hy : ys.length = av D) (hm : av D ≤ 4096) : g.e = 0 ∧ g.ds = bL D ∧ g.cs = ys.map nR := by
 have e1 : g.ds = bL D := o.ds;have e2 : g.cs = ys.map nR := o.cs;refine ⟨?_, e1, e2⟩;unfold FX.e;rw [e1, e2];exact (FV.mk rfl rfl h12 hlow hy hm : FV (bL D) (ys.map nR) D ys).ok
theorem Ar {t : TR} {B : Nat} (h : ∀ c ∈ t.m.data.toList, c.toNat ≤ B) (i : Nat) : l0 t.m i ≤ B := by
 unfold l0
 cases he : t.m.data.toList[i]? with
 | none => exact Int.natCast_nonneg B
 | some e => have := h e (T7 he); show ((e.toNat : Nat) : Int) ≤ B; omega
theorem Hw {v : Int} {B : Nat} (h : fH v ts = 0) (hb : ∀ t ∈ ts, ∀ c ∈ t.m.data.toList, c.toNat ≤ B) : ∀ d ∈ cR v ts, d ≤ B := fun d hd => by
 obtain ⟨i, hi⟩ := Vw.1 hd;have h1 := ((mf h).2.2 i d hi).2.2;have h2 := (Hy (l := ts) (i := i) (B := (B : Int)) (Int.natCast_nonneg B) fun t ht => Ar (hb t ht) i).2;omega
theorem GY {v : Int} (h : fH v ts = 0) (hC : C ≤ 4096) (hc : GG (q9 v ts) ≤ C) : av (cR v ts) ≤ C := by
 obtain ⟨o1, _, o3⟩ := mf h;have hlow : ∀ d ∈ cR v ts, d ≤ 127 := fun d hd => by
  obtain ⟨i, hi⟩ := Vw.1 hd;exact (o3 i d hi).1
 rw [o1] at hc;unfold GG at hc;rw [T3 (by rw [uS hlow]; decide)] at hc;have := zK (cR v ts) 1 (T5 _) TY;rw [VX] at this;rw [show xg 1 (bL (cR v ts)) = xg ((1 : Nat) : Int) (bL (cR v ts)) from rfl, this] at hc;omega
structure Kv (p : PX) (b : List SR) (C s : Nat) : Prop where
 n : p.ts.length ≤ 8
 ok : iI 124 p.ts
 sz : ∀ t ∈ p.ts, t.m.size ≤ 20
 ex : ∀ t ∈ p.ts, ∀ c ∈ t.m.data.toList, c.toNat ≤ 4
 box : ∀ z ∈ b, z.fin 124
 Rz : p.e = 0 → av (cR p.v p.ts) ≤ C
 N0 : C * C < 2 ^ (s + 1)
theorem Kv.sum {p : PX} {s : Nat} (h : Kv p b C s) (he : p.e = 0) : (cR p.v p.ts).sum ≤ s := OH (fun d hd => by have := Hw he h.ex d hd; omega) (h.Rz he) h.N0
theorem Kv.grow {p : PX} {s : Nat} (h : Kv p b C s) (hs : s ≤ 14) (he : p.e = 0) : fS (124 + 124 + 16394) (cR p.v p.ts) (124 + 1) ≤ 440000 := by
 have h1 := h.sum he;have h2 := (mf he).2.1;have h3 := (iA.1 (ct he).1).2;rw [qp];have h4 : (cR p.v p.ts).sum * (124 + 124 + 16394) ≤ 14 * (124 + 124 + 16394) := U2 _ TX;have h5 : (cR p.v p.ts).length * 8192 ≤ 12 * 8192 := U2 _ TX;omega
theorem Kv.small {p : PX} {s : Nat} {ns : List Nat} (h : Kv p b C s) (hs : s ≤ 14) (hC : C ≤ 200) (hF : vh p b ns) (h0 : (cQ p (bp b)).1 = 0) : (iI 40000 (cQ p (bp b)).2 ∧ ∀ t ∈ (cQ p (bp b)).2, ll ns.reverse (cn t.m).reverse) ∧ ∀ x ∈ qz ns (cQ p (bp b)).2, Sz 47000 x := by
 obtain ⟨h1, h2⟩ := Gt hF h.ok h.box TY (Ur (h.Rz hF.e) hC) TY (Ur (h.sum hF.e) hs) TY h0;have h3 := (wy hF h.ok h.box TY (h.grow hs hF.e) h0).2;have h4 := h1.ok.mono (show 124 + 1 + (14 + 12) * (124 + 124 + 10 + 5 * 200) ≤ 40000 by decide);refine ⟨⟨h4, h3⟩, fun x hx => (QD h3 h4 hF.low x hx).mono ?_⟩;have h5 := hF.nl;have h6 := hF.kE;omega
def Tn (a : NR) : Bool := decide ((8 : Int) < a.bz.size ∨ a.e < -60 ∨ 60 < a.e)
structure TP (ts : List TR) : Prop where
 n : ts.length ≤ 10
 ok : iI 124 ts
 sz : ∀ t ∈ ts, t.m.size ≤ 20
 ex : ∀ t ∈ ts, ∀ c ∈ t.m.data.toList, c.toNat ≤ 6
structure Nu (v : Int) (k n D : Nat) (ts : List TR) : Prop where
 e : fH v ts = 0
 ok : iI k ts
 sz : ∀ t ∈ ts, t.m.size ≤ 100000
 len : ts.length ≤ n
 ex : ∀ t ∈ ts, ∀ c ∈ t.m.data.toList, c.toNat ≤ D
variable {w : World}
theorem Pz {p : PX} {ns : List Nat} {ts : List Dyadic} (hF : vh p b ns) (h0 : (cQ p (bp b)).1 = 0) (h3 : ∀ t ∈ (cQ p (bp b)).2, ll ns.reverse (cn t.m).reverse) (ht : ts.length = ns.length) : mC ns.reverse (qz ns (cQ p (bp b)).2) ts = iG (l8 b ts.reverse) p.ts := by
 rw [O6 h3 ht, Lw h0 (by rw [UJ, ht, hF.nl])]
structure LP (p : PX) : Prop where
 n : p.ts.length ≤ 8
 ok : iI 124 p.ts
 ex : ∀ t ∈ p.ts, t.m.size ≤ 20 ∧ ∀ c ∈ t.m.data.toList, c.toNat ≤ 4
theorem LP.l9 {p : PX} (h : LP p) (hp : p.at_ w) (hc : p.n ≤ p.c) : p.l9 124 := ⟨by have := hp.ln; have := h.n; omega, hc, h.ok, fun t ht => Ur (h.ex t ht).1 TY⟩
structure Sf (p : PX) (b : List SR) (ns : List Nat) : Prop where
 vl : ∀ ts : List Dyadic, ts.length = ns.length → mC ns.reverse (qz ns (cQ p (bp b)).2) ts = iG (l8 b ts.reverse) p.ts
 sz : ∀ x ∈ qz ns (cQ p (bp b)).2, Sz 460000 x
structure Tx (p q s o : PX) (b : List SR) (ns : List Nat) (c : Dyadic) : Prop where
 fit : vh p b ns
 Rz : av ns ≤ 100
 es : nK s b (bL ns) = 0
 eo : nK o b (bL ns) = 0
 gs : Nu s.v 140 16 4 s.ts
 go : Nu o.v 125 1 0 o.ts
 ws : fS (140 + 140 + 16394) (cR s.v s.ts) (140 + 1) ≤ 440000
 wo : fS (140 + 140 + 16394) (cR o.v o.ts) (140 + 1) ≤ 440000
 sum : qz ns (cQ s (bp b)).2 = Qa (qz ns (cQ p (bp b)).2) (qz ns (cQ q (bp b)).2)
 TW : qz ns (cQ o (bp b)).2 = ((CH ns).map nD).map fun y => c * y
 zp : ∀ x ∈ qz ns (cQ p (bp b)).2, Sz 460000 x
 zq : ∀ x ∈ qz ns (cQ q (bp b)).2, Sz 460000 x
theorem ye (p : PX) (L : Option Addr) (n c : Nat) (b : List SR) (w : World) (hT : eh w) (hp : p.at_ w) (hpc : p.n ≤ p.c) (hB : Sl w L n 6 (az SR.cells b)) :
  Calls Tryz.prog 49 #[.agg #[.int .i64 p.v, .slice p.A p.n p.c], .slice L n c] w fun r w' => ∃ v : Bool, r = .returned (.bool v) ∧ (v = true → n ≤ 20 ∧ Kv p b 100 13) ∧ Below w.heap.size w w' := by
 have hh := Hp.start w;have hpl := hp.ln;refine aj (N := 19) (l := [.agg #[.int .i64 p.v, .slice p.A p.n p.c], .slice L n c]) Tryz.func49 rfl rfl (by simp) ?_;refine sr ?_;refine cD hh [_,_] ?_;intro b2 w2 hh;refine aB (aa (sr ?_));refine cG hh 0 [_,_] ?_;refine aF (yz p.v p.A p.n p.c p.ts _ (hp.ext hh.below)) al.out rfl TY ?_;rintro e_ w6 ⟨b1, rfl, hb1, hb_⟩;refine ⟨_, rfl, ?_⟩;replace hh := hh.ext hb_
 cases b1 with
 | true =>
  refine fm ?_;refine mB ?_;refine gS ?_;refine ju ?_;refine gS ?_;refine e7 ?_;exact NH
 | false =>
  obtain ⟨p1, p2, p3⟩ := hb1 rfl;clear hb1;refine fm ?_;refine mB (gT (mL ?_));refine aH rfl rfl ?_;refine aF (AW none 0 0 [] L n c b _ (Sl.nil _ _ _) (hB.ext hh.below)) al.out rfl TY ?_;rintro e_ w10 ⟨b1, rfl, hb1, hb_⟩;refine ⟨_, rfl, ?_⟩;replace hh := hh.ext hb_
  cases b1 with
  | true =>
   refine gT ?_;refine fm ?_;refine fL ?_;exact NH
  | false =>
   obtain ⟨_, Sc, _, hb⟩ := hb1 rfl;clear hb1;have f8p : LP p := ⟨TX, p2, p3⟩;have lp := f8p.l9 hp hpc;have hdg := fun w1 hT1 hb => mA p 124 w1 hT1 (hp.ext hb) lp;have hgl : (q9 p.v p.ts).length ≤ 1000000 := by
    exact Nh
   refine gT ?_;refine fm ?_;refine fL ?_;refine mB (gT ?_);refine cG hh 0 [_,_] ?_;refine aH rfl rfl ?_;refine aF (hdg _ (hT.hp hh) hh.below) al.out rfl TY ?_;rintro e_ w15 ⟨G, gc, rfl, h4⟩;refine ⟨_, rfl, ?_⟩;replace hh := hh.join h4;clear h4;simp only [Ud, Ub] at hh;refine aH rfl rfl ?_;refine bD hh (vn G (q9 p.v p.ts).length gc (q9 p.v p.ts) _ (hh.aC (i := 0) rfl) hgl) rfl ?_;intro w16 hh;by_cases h100 : GG (q9 p.v p.ts) ≤ 100
   ·refine gT ?_;refine Oy ?_;refine fL ?_;refine aB (aa (au ?_));refine cZ ?_;exact ⟨_, rfl, fun _ => ⟨Sc, f8p.n, f8p.ok, fun t ht => (f8p.ex t ht).1, fun t ht => (f8p.ex t ht).2, hb, fun he => GY he TY h100, TY⟩, hh.below⟩
   ·generalize GG (q9 p.v p.ts) = C at *;refine gT ?_;refine Oy ?_;refine fL ?_;refine aB (aa (au ?_));exact Am
def cC (f : Dyadic → Dyadic) : Prop := ∃ l : List Dyadic, ∀ t, f t = gy l t
def Cu : List Dyadic → List Dyadic → List Dyadic
 | [], b => b
 | x :: a, [] => x :: a
 | x :: a, y :: b => (x + y) :: Cu a b
theorem tm : ∀ (a b : List Dyadic) (t : Dyadic), gy (Cu a b) t = gy a t + gy b t
 | [], b, t => by rw [Cu, gy]; grind
 | x :: a, [], t => by rw [Cu, gy]; grind
 | x :: a, y :: b, t => by rw [Cu, gy, gy, gy, tm a b t]; grind
theorem EI (c : Dyadic) : ∀ (a : List Dyadic) (t : Dyadic), gy (a.map fun x => c * x) t = c * gy a t
 | [], t => by rw [UR, gy]; grind
 | x :: a, t => by rw [Ut, gy, gy, EI c a t]; grind
def HG : List Dyadic → List Dyadic → List Dyadic
 | [], _ => []
 | x :: a, b => Cu (b.map fun y => x * y) (0 :: HG a b)
theorem Bg : ∀ (a b : List Dyadic) (t : Dyadic), gy (HG a b) t = gy a t * gy b t
 | [], b, t => by rw [HG, gy]; grind
 | x :: a, b, t => by rw [HG, tm, EI, gy, gy, Bg a b t]; grind
theorem cC.const (c : Dyadic) : cC fun _ => c := ⟨[c], fun t => by simp only [gy]; grind⟩
theorem cC.id : cC fun t => t := ⟨[0, 1], fun t => by simp only [gy]; grind⟩
theorem cC.add {f g : Dyadic → Dyadic} (hf : cC f) (hg : cC g) : cC fun t => f t + g t := by
 obtain ⟨a, ha⟩ := hf;obtain ⟨b, hb⟩ := hg;exact ⟨Cu a b, fun t => by show f t + g t = _; rw [tm, ha, hb]⟩
theorem cC.mul {f g : Dyadic → Dyadic} (hf : cC f) (hg : cC g) : cC fun t => f t * g t := by
 obtain ⟨a, ha⟩ := hf;obtain ⟨b, hb⟩ := hg;exact ⟨HG a b, fun t => by show f t * g t = _; rw [Bg, ha, hb]⟩
theorem cC.of {f g : Dyadic → Dyadic} (hf : cC f) (h : ∀ t, g t = f t) : cC g := by
 obtain ⟨a, ha⟩ := hf;exact ⟨a, fun t => by rw [h, ha]⟩
theorem cC.pow {f : Dyadic → Dyadic} (hf : cC f) : ∀ n : Nat, cC fun t => f t ^ n
 | 0 => (cC.const 1).of fun t => WB _
 | n + 1 => ((cC.pow hf n).mul hf).of fun t => Xf _ _
theorem cC.sm {α : Type} {F : α → Dyadic → Dyadic} : ∀ (l : List α), (∀ a ∈ l, cC (F a)) → cC fun t => sm l fun a => F a t
 | [], _ => cC.const 0
 | a :: l, h => (h a Uc).add (cC.sm l fun b hb => h b (Uf _ hb))
theorem zr {L w : Dyadic} (hw : w ≠ 0) : ∀ (n : Nat) (cs bad : List Dyadic), cs.length ≤ n → (∀ t, t ∉ bad → gy cs (L + w * t) = 0) → ∀ x ∈ cs, x = 0
 | 0, cs, _, hn, _ => fun x hx => by
  rw [V1.1 (Nat.le_zero.1 hn)] at hx
  cases hx
 | n + 1, cs, bad, hn, h => by
  obtain ⟨a, ha⟩ := NM bad;have h1 : a ∉ bad := fun c => by have := ha a c; grind
  have h0 := h a h1;obtain ⟨g, g1, g2, g3⟩ := yn (L + w * a) cs;refine g3 (zr (L := L) hw n g (a :: bad) TX fun t ht => ?_) h0;have ht1 : t ≠ a := fun c => ht (c ▸ Uc);have ht2 := h t fun c => ht (Uf _ c);rw [g2, h0] at ht2;have e : (w * (t - a)) * gy g (L + w * t) = 0 := by grind
  refine kz e fun c => ?_;have := kz c hw;grind
theorem La {cs : List Dyadic} (t : Dyadic) (h : ∀ x ∈ cs, x = 0) : gy cs t = 0 := by
 induction cs with
 | nil => rfl
 | cons c cs ih =>
  rw [gy, h c Uc, ih fun x hx => h x (Uf _ hx)];grind
theorem cC.SG {f : Dyadic → Dyadic} {L w : Dyadic} (hf : cC f) (hw : w ≠ 0) (h : ∀ t, f (L + w * t) = 0) (x : Dyadic) : f x = 0 := by
 obtain ⟨a, ha⟩ := hf;rw [ha];exact La x (zr hw a.length a [] (T5 _) fun t _ => by rw [← ha]; exact h t)
def D1 (F : Dyadic → Dyadic) (a b : Dyadic) : Prop := ∃ R, cC R ∧ ∀ h, F h = a + h * b + h * h * R h
def RF (A B : List Nat) (d t : Nat) : List Nat := (List.range (av B)).flatMap fun q => (List.range (av A)).map fun f => df A d f t q
def SZ (A B : List Nat) (d t : Nat) (xs : List Dyadic) : List Dyadic := (RF A B d t).map fun p => (xs[p]?).getD 0
def Te (A : List Nat) (d : Nat) (B : List Nat) (X : List Dyadic) (ta tb : List Dyadic) (r : Nat) : Dyadic := sR (A ++ B) fun row => co (A ++ d :: B) X (row.take A.length ++ r :: row.drop A.length) * sS (A ++ B) row (ta ++ tb)
def Rs : List Nat → List Nat → List Nat
 | [], _ => []
 | _ :: _, [] => []
 | d :: ds, k :: ks => d * k :: Rs ds ks
variable {us : List Dyadic}
def Tj (A : List Nat) (e : Nat) (X : List Dyadic) : List Dyadic := ow (oS (av A) (e + 1)) (iP A (e + 1) (e + 1) (oU (e + 1)) X X.length 0) X.length
theorem KU {a : Nat} {s : SR} {z : Dyadic} (hs : b[a]? = some s) (hu : us.length = b.length) : l8 b (us.set a z) = (l8 b us).set a (s.L + (s.H - s.L) * z) := by
 have ha := (Uk.1 hs).1;refine Ve fun i => ?_;unfold l8;rw [Wr, VH, VH, Wr];by_cases hi : a = i
 ·subst hi;rw [T2 rfl, T2 rfl, T2 TX, T2 (by simpa using ha), hs]
  rfl
 ·rw [T3 hi, T3 hi]
theorem Pe {a : Nat} {s : SR} {u : Dyadic} (hs : b[a]? = some s) (hu : us[a]? = some u) : (l8 b us)[a]? = some (s.L + (s.H - s.L) * u) := by
 unfold l8;rw [Wr, hs, hu]
 rfl
theorem Ej {α : Type} : ∀ (l : List α) (x y : α) (k : List α), (l ++ x :: k).set l.length y = l ++ y :: k
 | [], _, _, _ => rfl
 | z :: l, x, y, k => by
  show z :: (l ++ x :: k).set l.length y = _;rw [Ej l x y k]
  rfl
variable {X : List Dyadic}
def Db : List (Nat → Dyadic) → List Nat → Dyadic
 | f :: fs, r :: rs => f r * Db fs rs
 | _, _ => 1
theorem Bx : ∀ (ds : List Nat) (a : Nat) (M : Nat → Nat → Dyadic) (G : List Nat → Dyadic) (fs : List (Nat → Dyadic)) (f f' : Nat → Dyadic), a < ds.length → fs.length = ds.length →
  (∀ i, i ≤ ds.getD a 0 → sm (List.range (ds.getD a 0 + 1)) (fun k => M i k * f k) = f' i) →
  sR ds (fun row => sm (List.range (ds.getD a 0 + 1)) (fun i => G (row.set a i) * M i (row.getD a 0)) * Db (fs.set a f) row) = sR ds fun row => G row * Db (fs.set a f') row
 | d :: ds, 0, M, G, u :: fs, f, f', _, _, h => by
  simp only [sR, List.getD_cons_zero, Uh, Db] at h ⊢;have e1 : ∀ r, sR ds (fun row => sm (List.range (d + 1)) (fun i => G (i :: row) * M i r) * (f r * Db fs row)) = sm (List.range (d + 1)) fun i => sR ds (fun row => G (i :: row) * Db fs row) * (M i r * f r) := fun r => by
   rw [bo (l := List.range (d + 1)) (g := fun i => sR ds fun row => G (i :: row) * Db fs row * (M i r * f r)) fun i _ => (x7 ds _ _).symm, ← N6];refine kP fun row _ => ?_;rw [← kF];exact bo fun i _ => by grind
  rw [bo fun r _ => e1 r, oM];refine bo fun i hi => ?_;have hi2 := UT.1 hi;rw [iu, h i TX, ← x7];exact kP fun row _ => by grind
 | d :: ds, a + 1, M, G, u :: fs, f, f', h1, h2, h => by
  simp only [sR, List.getD_cons_succ, UH, Db] at h ⊢;refine bo fun r _ => ?_;have ih := Bx ds a M (fun row => G (r :: row)) fs f f' (by simpa using h1) (by simpa using h2) h;have e1 : ∀ (F : List Nat → Dyadic) (us : List (Nat → Dyadic)), sR ds (fun row => F row * (u r * Db us row)) = sR ds (fun row => F row * Db us row) * u r := fun F us => by
   rw [← x7];exact kP fun row _ => by grind
  rw [e1, e1, ih]
def vG (ds : List Nat) (X : List Dyadic) (fs : List (Nat → Dyadic)) : Dyadic := sR ds fun row => co ds X row * Db fs row
theorem H9 {a : Nat} {M : Nat → Nat → Dyadic} {fs : List (Nat → Dyadic)} {f f' : Nat → Dyadic} (ha : a < ds.length) (hl : fs.length = ds.length) (h : ∀ i, i ≤ ds.getD a 0 → sm (List.range (ds.getD a 0 + 1)) (fun k => M i k * f k) = f' i) : vG ds (gu ds a M X) (fs.set a f) = vG ds X (fs.set a f') := by
 unfold vG;rw [← Bx ds a M (co ds X) fs f f' ha hl h];exact kP fun row hr => by rw [vE a M X hr]
def pM (ds : List Nat) (ts : List Dyadic) : List (Nat → Dyadic) := List.zipWith (fun d t r => jx d r t) ds ts
def P0 (ts : List Dyadic) : List (Nat → Dyadic) := ts.map fun t r => t ^ r
theorem Eu : ∀ (ds row : List Nat) (ts : List Dyadic), sS ds row ts = Db (pM ds ts) row
 | [], _, _ => rfl
 | _ :: _, _, [] => by cases ‹List Nat› <;> rfl
 | _ :: _, [], _ :: _ => rfl
 | d :: ds, r :: row, t :: ts => by
  show jx d r t * sS ds row ts = jx d r t * Db (pM ds ts) row;rw [Eu]
theorem Ee : ∀ (row : List Nat) (ts : List Dyadic), dL row ts = Db (P0 ts) row
 | [], [] => rfl
 | [], _ :: _ => rfl
 | _ :: _, [] => rfl
 | r :: row, t :: ts => by
  show t ^ r * dL row ts = t ^ r * Db (P0 ts) row;rw [Ee]
def rP (ds : List Nat) (ts : List Dyadic) (k : Nat) : List (Nat → Dyadic) := (pM ds ts).take (ds.length - k) ++ (P0 ts).drop (ds.length - k)
theorem Kh {ts : List Dyadic} (hl : ts.length = ds.length) (k : Nat) : (rP ds ts k).length = ds.length := by
 unfold rP pM P0;simp;omega
theorem yB {ts : List Dyadic} (hl : ts.length = ds.length) (k i : Nat) : (rP ds ts k)[i]? = if i < ds.length - k then (pM ds ts)[i]? else (P0 ts)[i]? := by
 have hb : (pM ds ts).length = ds.length := by unfold pM; simp; omega
 unfold rP;by_cases h : i < ds.length - k
 ·rw [T2 h, Wi (by rw [Us]; omega), List.getElem?_take_of_lt h]
 ·rw [T3 h, Vg (by rw [Us]; omega), Us, VD];congr 1;omega
theorem HN {d i : Nat} (t : Dyadic) (h : i ≤ d) : sm (List.range (d + 1)) (fun k => dX d 1 (-1) i k * t ^ k) = jx d i t := by
 have e0 : (fun k => dX d 1 (-1) i k * t ^ k) = fun k => if k < i then 0 else (fun j => nD (bin (d - i) j) * (-1) ^ j * t ^ (j + i)) (k - i) := funext fun k => by
  unfold dX;by_cases hk : k < i
  ·rw [T2 hk, T2 hk, Dyadic.zero_mul]
  ·rw [T3 hk, T3 hk, ij];show nD (bin (d - i) (k - i)) * 1 * (-1) ^ (k - i) * t ^ k = nD (bin (d - i) (k - i)) * (-1) ^ (k - i) * t ^ (k - i + i);rw [Nat.sub_add_cancel TX];grind
 rw [e0, MJ d i h fun j => nD (bin (d - i) j) * (-1) ^ j * t ^ (j + i)];have e1 : ∀ j, j ∈ List.range (d - i + 1) → nD (bin (d - i) j) * (-1) ^ j * t ^ (j + i) = t ^ i * (nD (bin (d - i) j) * (-1 * t) ^ j * 1 ^ (d - i - j)) := fun j hj => by
  rw [nn, wc, ij];grind
 rw [bo e1, iu, MK];unfold jx;rw [show -1 * t + 1 = 1 - t by grind]
theorem I6 {ds : List Nat} {X ts : List Dyadic} (hl : ts.length = ds.length) : ∀ k, k ≤ ds.length → vG ds (uZ ds X k) (rP ds ts k) = mC ds X ts
 | 0, _ => by
  rw [LJ];unfold vG;refine kP fun row _ => ?_;rw [Eu];unfold rP;rw [Nat.sub_zero, T9 (by unfold pM; simp; omega), Vz (by unfold P0; simp; omega), UF]
  rfl
 | k + 1, hk => by
  rw [← I6 hl k TX, uV];have ha : ds.length - 1 - k < ds.length := TX;obtain ⟨d, hd⟩ := ak ha;obtain ⟨t, ht⟩ := ak (l := ts) (k := ds.length - 1 - k) TX;have hg : ds.getD (ds.length - 1 - k) 0 = d := by rw [U7, hd]; rfl
  have hm := Kh hl k;have hlow : (rP ds ts k)[ds.length - 1 - k]? = some fun r => jx d r t := by
   rw [yB hl, T2 TX];unfold pM;rw [List.getElem?_zipWith, hd, ht]
  have e1 : rP ds ts (k + 1) = (rP ds ts k).set (ds.length - 1 - k) fun r => t ^ r := by
   refine Ve fun i => ?_;rw [VH, yB hl, yB hl, hm];by_cases hi : ds.length - 1 - k = i
   ·subst hi;rw [T3 TX, T2 rfl, T2 ha];unfold P0;rw [Ue, ht]
    rfl
   ·rw [T3 hi];by_cases h1 : i < ds.length - (k + 1)
    ·rw [T2 h1, T2 TX]
    ·rw [T3 h1, T3 TX]
  have e2 : rP ds ts k = (rP ds ts k).set (ds.length - 1 - k) fun r => jx d r t := by
   refine Ve fun i => ?_;rw [VH, hm];by_cases hi : ds.length - 1 - k = i
   ·subst hi;rw [T2 rfl, T2 ha, hlow]
   ·rw [T3 hi]
  rw [e1]
  conv => rhs; rw [e2]
  refine H9 ha hm fun i hi => ?_;rw [hg] at hi ⊢;exact HN t hi
theorem JN {ts : List Dyadic} (hl : ts.length = ds.length) : sm (List.range (av ds)) (fun p => jm (uZ ds X ds.length) p * dL (cL ds p) ts) = mC ds X ts := by
 rw [← I6 hl ds.length (T5 _)];unfold vG rP;rw [UW, Wb, W0, Ub, ← JG];refine bo fun p hp => ?_;rw [tB (UT.1 hp), Ee]
 rfl
def wT (b : List SR) (ns : List Nat) : Nat → Dyadic
 | 0 => 1
 | i + 1 => wT b ns i * ik b i ^ (ns.getD i 0)
theorem EV {i : Nat} {s : SR} (h : b[i]? = some s) : ik b i = s.H - s.L := by unfold ik; rw [h]
theorem JP {b : List SR} {ns es : List Nat} {us : List Dyadic} (hl : es.length = ns.length) (hu : us.length = ns.length) (he : ∀ (i d r : Nat), ns[i]? = some d → es[i]? = some r → r ≤ d) : ∀ i, i ≤ ns.length → wP b ns es i * dL (es.take i) ((us.mapIdx fun i u => ik b i * u).take i) = wT b ns i * dL (es.take i) (us.take i)
 | 0, _ => rfl
 | i + 1, hi => by
  have ih := JP (b := b) hl hu he i TX;obtain ⟨d, hd⟩ := ak (l := ns) (k := i) TX;obtain ⟨r, hr⟩ := ak (l := es) (k := i) TX;obtain ⟨u, hu1⟩ := ak (l := us) (k := i) TX;have hrd := he i d r hd hr;have hy : (us.mapIdx fun i u => ik b i * u)[i]? = some (ik b i * u) := by rw [Wr, hu1]; rfl
  have g1 : ns.getD i 0 = d := by rw [U7, hd]; rfl
  have g2 : es.getD i 0 = r := by rw [U7, hr]; rfl
  rw [ay hr, ay hu1, ay hy, ng _ _ _ _ (by simp; omega), ng _ _ _ _ (by simp; omega), wP, wT, g1, g2, wc];have e := nn (ik b i) (d - r) r;rw [Nat.sub_add_cancel hrd] at e;rw [e];generalize ik b i ^ (d - r) = x at *;generalize ik b i ^ r = y at *;generalize u ^ r = z at *;have e2 : wP b ns es i * x * (dL (es.take i) ((us.mapIdx fun i u => ik b i * u).take i) * (y * z)) = (wP b ns es i * dL (es.take i) ((us.mapIdx fun i u => ik b i * u).take i)) * (x * y * z) := by grind
  rw [e2, ih];grind
theorem JF {v i : Nat} {s : SR} (hx : xs.length = v) (hi : i < v) : iG xs (mj v i s) = (xs[i]?).getD 0 + -1 * s.L := by
 unfold mj kK l5;rw [ea, nW, ea, ea];have e1 : iG xs [⟨dJ v, nR (-s.L)⟩] = -1 * s.L := by
  show (nR (-s.L)).d * dL (cn (dJ v)) xs + 0 = _;rw [bR, wJ, k7];grind
 have e2 : iG xs [⟨jZ v i, nR ((1 : Int) : Dyadic)⟩] = (xs[i]?).getD 0 := by
  show (nR ((1 : Int) : Dyadic)).d * dL (cn (jZ v i)) xs + 0 = _;rw [bR, zl, uC v i xs hx hi, show (((1 : Int) : Dyadic)) = 1 from rfl];grind
 rw [e1, e2]
theorem G1 (hu : us.length = b.length) : (gW b).map (fun g => iG (l8 b us) g.ts) = us.mapIdx fun i u => ik b i * u := by
 have hp : (l8 b us).length = b.length := by unfold l8; simp
 refine Ve fun i => ?_;rw [Ue, Wr]
 cases hs : b[i]? with
 | none =>
  have hi := Xq.1 hs;rw [Uy (by rw [qy]; exact hi), Uy (l := us) TX]
  rfl
 | some s =>
  have hi := (Uk.1 hs).1;obtain ⟨u, hu1⟩ := ak (l := us) (k := i) TX;have gy := JF (s := s) hp hi;have hx := mu hs;generalize mj b.length i s = Q at gy hx;rw [hx, hu1, Vx, Vx];congr 1;show iG (l8 b us) Q = ik b i * u;rw [gy, Pe hs hu1, EV hs];show s.L + (s.H - s.L) * u + -1 * s.L = _;grind
theorem KR {ns : List Nat} (hnl : ns.length = b.length) (hlow : ∀ d ∈ ns, d ≤ 127) (hu : us.length = b.length) (h0 : (cQ (ve b ns (uZ ns.reverse X ns.length)) (gW b)).1 = 0) : iG (l8 b us) (cQ (ve b ns (uZ ns.reverse X ns.length)) (gW b)).2 = wT b ns b.length * mC ns.reverse X us.reverse := by
 rw [I9 h0, G1 hu];show iG _ (aE (kH b ns (uZ ns.reverse X ns.length))) = _;rw [ea];unfold iG;rw [pH];unfold kH;rw [jt, ← JN (ds := ns.reverse) (by simp; omega), ← iu, cU, UJ];generalize uZ ns.reverse X ns.length = C;refine bo fun p hp => ?_;have ec : (FE b ns C p).c.d = jm C p * wP b ns (gD ns p) b.length := bR _;have em : cn (FE b ns C p).m = gD ns p := pG hlow;rw [ec, em];have hrl := kY ns p;have h1 := JP (b := b) (us := us) hrl TX (fun i d r hd hr => pJ hd hr) ns.length (T5 _);rw [T9 TX, T9 (by simp; omega), T9 TX, hnl] at h1;have h2 := uH (cL ns.reverse p) us.reverse (by rw [uk, UJ, UJ]; omega);rw [Wn] at h2;rw [← h2, show (cL ns.reverse p).reverse = gD ns p from rfl];generalize dL (gD ns p) us = m1 at *;generalize dL (gD ns p) (us.mapIdx fun i u => ik b i * u) = m2 at *;generalize wP b ns (gD ns p) b.length = m3 at *;generalize wT b ns b.length = m4 at *;grind
theorem wB : ∀ (s : List Nat) (zs : List Dyadic) (k : Nat), cC fun x => dL s (zs.set k x)
 | [], zs, k => (cC.const 1).of fun t => by cases zs.set k t <;> rfl
 | a :: s, [], k => (cC.const 1).of fun t => rfl
 | a :: s, z :: zs, 0 => ((cC.id.pow a).mul (cC.const (dL s zs))).of fun t => rfl
 | a :: s, z :: zs, k + 1 => ((cC.const (z ^ a)).mul (wB s zs k)).of fun t => rfl
theorem Bp (l : List TR) (zs : List Dyadic) (k : Nat) : cC fun x => iG (zs.set k x) l :=
 (cC.sm l (F := fun (t : TR) x => t.c.d * dL (cn t.m) (zs.set k x)) fun t _ => (cC.const _).mul (wB _ zs k)).of fun x => pH (fun m => dL (cn m) (zs.set k x)) l
theorem z4 {b : List SR} {l k : List TR} (hw : ∀ s ∈ b, s.H - s.L ≠ 0) (h : ∀ us : List Dyadic, us.length = b.length → iG (l8 b us) l = iG (l8 b us) k) : ∀ i, i ≤ b.length → ∀ xs us : List Dyadic, xs.length = b.length → us.length = b.length → iG (xs.take i ++ (l8 b us).drop i) l = iG (xs.take i ++ (l8 b us).drop i) k
 | 0, _, xs, us, _, hu => h us hu
 | i + 1, hi, xs, us, hx, hu => by
  have ih := z4 hw h i TX;obtain ⟨s, hs⟩ := ak (l := b) (k := i) TX;obtain ⟨x, hx1⟩ := ak (l := xs) (k := i) TX;have hset : ∀ z, (xs.take (i + 1) ++ (l8 b us).drop (i + 1)).set i z = xs.take i ++ z :: (l8 b us).drop (i + 1) := fun z => by
   rw [ay hx1, UI, List.singleton_append];have := Ej (xs.take i) x z ((l8 b us).drop (i + 1));rwa [Us, U0 TX] at this
  have e0 : xs.take (i + 1) ++ (l8 b us).drop (i + 1) = (xs.take (i + 1) ++ (l8 b us).drop (i + 1)).set i x := by
   rw [hset, ay hx1, UI, List.singleton_append]
  have hp := (Bp l (xs.take (i + 1) ++ (l8 b us).drop (i + 1)) i).add ((cC.const (-1)).mul (Bp k (xs.take (i + 1) ++ (l8 b us).drop (i + 1)) i));have h0 := hp.SG (L := s.L) (hw s (T7 hs)) (fun t => by
   have e1 : (xs.take (i + 1) ++ (l8 b us).drop (i + 1)).set i (s.L + (s.H - s.L) * t) = xs.take i ++ (l8 b (us.set i t)).drop i := by
    rw [hset, KU hs hu];congr 1;have hpl : i < (l8 b us).length := by unfold l8; simp; omega
    rw [Vj (l := (l8 b us).set i (s.L + (s.H - s.L) * t)) (i := i) (by rw [Wp]; exact hpl), List.getElem_set_self, List.drop_set_of_lt (Nat.lt_succ_self i)]
   have := ih xs (us.set i t) hx (by rw [Wp]; exact hu);rw [← e1] at this;show _ + -1 * _ = (0 : Dyadic);rw [this];grind) x
  rw [e0];have h0' : iG ((xs.take (i + 1) ++ (l8 b us).drop (i + 1)).set i x) l + -1 * iG ((xs.take (i + 1) ++ (l8 b us).drop (i + 1)).set i x) k = 0 := h0;grind
theorem Mh {k : List TR} (hw : ∀ s ∈ b, s.H - s.L ≠ 0) (h : ∀ us : List Dyadic, us.length = b.length → iG (l8 b us) l = iG (l8 b us) k) (xs : List Dyadic) (hx : xs.length = b.length) : iG xs l = iG xs k := by
 have := z4 hw h b.length (T5 _) xs xs hx hx;rwa [T9 TX, Vz (by unfold l8; simp), UF] at this
theorem IK (v i : Nat) (s : SR) : kA (fun x => if x = i then 1 else 0) (mj v i s) :=
 kA.aE (kA.append (Eg v i _).aE ((pq v _).aE.mono fun x => T6 _))
theorem HX {ns : List Nat} {C : List Dyadic} {kb : Nat} (hbl : b.length = ns.length) (hpos : 0 < b.length) (h12 : ns.length ≤ 12) (hlow : ∀ d ∈ ns, d ≤ 127) (hb : ∀ s ∈ b, s.fin kb) (hkb : kb ≤ 1000) (hm : ∀ t ∈ kH b ns C, eK (ns.length : Int) t = true) (hN : av ns ≤ 1000) : (cQ (ve b ns C) (gW b)).1 = 0 ∧ fH (ns.length : Int) (cQ (ve b ns C) (gW b)).2 = 0 := by
 have hfl := qy b;refine Gb (v := ns.length) (T := 2) (N := 1000) (ds := ns) h12 ?_ (show (ns.length : Int) = ((gW b).length : Int) by omega) TX rfl TX (fun i g hg => ?_) (fun i d hd => ⟨hlow d (T7 hd), fun t ht => ?_⟩) hN TY
 ·exact eA (ee h12) (Ur (bP _) (by rw [sU]; omega)) hm
 ·have hi := (Uk.1 hg).1;obtain ⟨z, hz⟩ := ak (l := b) (k := i) TX;rw [mu hz] at hg;obtain ⟨a1, a2⟩ := tD (v := b.length) (i := i) TX (hb z (T7 hz)) TX;have a3 := IK b.length i z;obtain rfl := UN hg;rw [← hbl];dsimp only;refine ⟨rfl, ?_, ?_, ?_⟩
  ·exact a1.e
  ·exact a2
  ·exact a3
 ·obtain ⟨s, hs, e⟩ := fR t ht;obtain ⟨p, _, rfl⟩ := Ui.1 hs;have em : cn (FE b ns C p).m = gD ns p := pG hlow;rw [sx, ← e, em]
  cases hr : (gD ns p)[i]? with
  | none => exact T6 _
  | some r => exact pJ hd hr
theorem JW {s : SR} (h : kJ b = 0) (hs : s ∈ b) : s.lo.d < s.hi.d := by
 unfold kJ at h;by_cases h1 : b.any (fun s => !decide (s.lo.d < s.hi.d)) = true
 ·rw [T2 h1] at h; omega
 ·rw [Bool.not_eq_true, Vy] at h1;have := h1 s hs;simpa using this
theorem NO {s : SR} (h : kJ b = 0) (hs : s ∈ b) : s.L = s.lo.d ∧ s.H = s.hi.d := by
 have h1 := JW h hs;have h2 : ¬ s.hi.d < s.lo.d := by grind
 unfold SR.L SR.H OA Pf;rw [T3 h2, T2 h1];exact ⟨rfl, rfl⟩
theorem Ms {s : SR} (h : kJ b = 0) (hs : s ∈ b) : s.H - s.L ≠ 0 := fun c => by
 obtain ⟨h1, h2⟩ := NO h hs;have := JW h hs;rw [h1, h2] at c;grind
theorem Nb (b : List SR) (ns : List Nat) : ∀ i, wT b ns i = wP b ns [] i
 | 0 => rfl
 | i + 1 => by rw [wT, wP, Nb b ns i]; rfl
theorem Kv.Sg {p : PX} {s : Nat} (h : Kv p b C s) : LP p := ⟨h.n, h.ok, fun t ht => ⟨h.sz t ht, h.ex t ht⟩⟩
structure Q9 (p : PX) (b : List SR) (fx : FX) (ns : List Nat) : Prop where
 e : pE fx b = 0
 q : (u5 fx b).2 = aE (p.ts.map (mh (wT b ns b.length)))
 s : Bl p (wT b ns b.length) = 0
 n : (aE (p.ts.map (mh (wT b ns b.length)))).length ≤ 8
theorem Kb {p : PX} {fx : FX} (hs : Kv p b 100 13) (hF : vh p b (cR p.v p.ts)) (h0 : (cQ p (bp b)).1 = 0) (hfe : fx.e = 0) (hd : fx.ds = bL (cR p.v p.ts)) (hc : fx.cs = (qz (cR p.v p.ts) (cQ p (bp b)).2).map nR) (hn : b.length = fx.n) : Q9 p b fx (cR p.v p.ts) := by
 obtain ⟨⟨s1, s2⟩, s3⟩ := hs.small TY TY hF h0;have hnl := hF.nl;have h12 := hF.kE;have hlow := hF.low;have hcnt := hs.Rz hF.e;have hsum := hs.sum hF.e;have hns : fx.ns = cR p.v p.ts := by unfold FX.ns; rw [hd, tP]
 have hX : fx.cs.map NR.d = qz (cR p.v p.ts) (cQ p (bp b)).2 := by
  rw [hc, U5];refine (V7 fun x _ => ?_).trans (W5 _);exact bR x
 have hvl := fun (ts : List Dyadic) (ht : ts.length = (cR p.v p.ts).length) => Pz hF h0 s2 ht;have hR : u5 fx b = cQ (ve b (cR p.v p.ts) (uZ (cR p.v p.ts).reverse (qz (cR p.v p.ts) (cQ p (bp b)).2) (cR p.v p.ts).length)) (gW b) := by
  unfold u5 J1;rw [hns, hX]
 have hlen := sE (cR p.v p.ts) (cQ p (bp b)).2;generalize qz (cR p.v p.ts) (cQ p (bp b)).2 = X at *;have hpe := hF.e;have hpv := hF.v;generalize cR p.v p.ts = ns at *;have hC : ∀ x ∈ uZ ns.reverse X ns.length, Sz (47000 + 520 * ns.length) x := CU s3 (fun d hd => hlow d (We.1 hd)) ns.length;have hK : 47000 + 520 * ns.length + (1 + ns.length + (124 + 1) * ns.sum) ≤ 2999000 := by
  have : (124 + 1) * ns.sum ≤ (124 + 1) * 13 := Uz _ hsum;omega
 obtain ⟨k1, k2, k3⟩ := Hu hs.box TX hC hlow TX hK;obtain ⟨f1, f2⟩ := HX TX hF.pos TX hlow hs.box TY k2 TX;have hg := bP (p.ts.map (mh (wT b ns b.length)));rw [Ug] at hg;have h8 := hs.n;have hsc : Bl p (wT b ns b.length) = 0 := by
  unfold Bl;rw [T2 hpe];exact gQ (by rw [Ug]; omega)
 obtain ⟨p1, p2, p3, p4⟩ := ct hpe;obtain ⟨q1, q2, q3, q4⟩ := ct f2;have hsz : ∀ t ∈ aE (p.ts.map (mh (wT b ns b.length))), t.m.size = b.length := fun t ht => by
  obtain ⟨u, hu, e⟩ := fR t ht;obtain ⟨z, hz, rfl⟩ := Ui.1 hu;have := p3 z hz;unfold eK at this;rw [Uj, Up] at this;rw [← e];show z.m.size = b.length;omega
 have hsz2 : ∀ t ∈ (cQ (ve b ns (uZ ns.reverse X ns.length)) (gW b)).2, t.m.size = b.length := fun t ht => by
  have := q3 t ht;unfold eK at this;rw [Uj, Up] at this;omega
 have hwid : ∀ s ∈ b, s.H - s.L ≠ 0 := fun s hs => Ms hF.box hs;refine ⟨?_, ?_, hsc, TX⟩
 ·unfold pE;rw [T3 (fun c => c hfe), T3 (fun c => c hF.box), T3 (fun c => c hn), hR];exact f1
 ·rw [hR];refine PH q4 (eC _) hsz2 hsz fun xs hx => Mh hwid (fun us hu => ?_) xs hx;rw [KR hnl hlow hu f1, hvl us.reverse (by rw [UJ]; omega), Wn, ea];unfold iG;rw [Ef];grind
theorem Cf (A : Option Addr) (n c : Nat) (a : List TR) (B : Option Addr) (m d : Nat) (b : List TR) (w : World) (hS : Sl w A n 4 (az TR.cells a)) (hS2 : Sl w B m 4 (az TR.cells b)) (hn : n ≤ 1000000) (hm : m ≤ 1000000) :
  Calls Tryz.prog 143 #[.slice A n c, .slice B m d] w fun r w' => ∃ v, r = .returned (.bool v) ∧ (v = true ↔ a = b) ∧ Below w.heap.size w w' := by
 have hh := Hp.start w;have hla := hS.bq TR.len TY;have hlb := hS2.bq TR.len TY;by_cases hnm : n = m
 ·subst hnm;refine aj (N := 26) (l := [.slice A n c, .slice B n d]) Tryz.func143 rfl rfl (by simp) ?_;refine xc ?_;refine dn (aa (cF (ar (ai (ah (sr (mL (aJ (mI (aa (aq ?_)))))))))));refine aP [4, 5, 13, 14, 15, 16, 17, 18, 19, 20, 21, 22, 23, 24, 25] 13
   (fun v w' => ∃ i : Nat, i ≤ n ∧ v = .int .i64 i ∧ a.take i = b.take i ∧ Hp w [] w')
   (fun v _ => n - (intOf v).toNat) ?_ ?_
  ·exact ⟨0, T6 _, rfl, rfl, hh⟩
  ·clear hh;rintro ρ' v w' ⟨i, hi, rfl, he, hh⟩;by_cases hlt : i < n
   ·obtain ⟨s, hs⟩ := ak (l := a) (k := i) TX;obtain ⟨t, ht⟩ := ak (l := b) (k := i) TX;obtain ⟨ad, rfl, hr⟩ := hS.at_ TX;obtain ⟨ad2, rfl, hr2⟩ := hS2.at_ TX;by_cases hst : s = t
    ·refine sr ?_;refine IA ?_;refine Np ?_;refine fT ?_;refine dF ?_;refine l3 (i) ?_;refine DD ?_;refine fT ?_;refine dF ?_;refine l3 (i) ?_;refine EN ?_;refine aR ?_;intro f W hJ hV;have hb_6 := hJ.bl;obtain ⟨v23, v22, v21, v20, v19, v18, v17, v16, _⟩ := hV;replace hh := hJ.hp;refine MV ?_;dsimp only [cf];clear hJ;refine aQ rfl rfl TY (Eh (s := s) (t := t) rfl rfl hst) ?_;skip;refine wv ?_;refine bj (mI (aA (ai ?_)));exact Ot
    ·refine sr ?_;refine IA ?_;refine Np ?_;refine fT ?_;refine dF ?_;refine l3 (i) ?_;refine DD ?_;refine fT ?_;refine dF ?_;refine l3 (i) ?_;refine EN ?_;refine aR ?_;intro f W hJ hV;have hb_6 := hJ.bl;obtain ⟨v23, v22, v21, v20, v19, v18, v17, v16, _⟩ := hV;replace hh := hJ.hp;refine MV ?_;exact Q0
   ·refine sr ?_;refine bg (aa (ah (cF (a6 (aD (aD (bB (ai (sr (aB (aa (au ?_))))))))))));exact Ny
 ·refine aj (N := 26) (l := [.slice A n c, .slice B m d]) Tryz.func143 rfl rfl (by simp) ?_;exact Ra
theorem zj (p q : PX) (w : World) (hp : p.at_ w) (hq : q.at_ w) (hn : p.n ≤ 1000000) (hm : q.n ≤ 1000000) :
  Calls Tryz.prog 54 #[.agg #[.int .i64 p.v, .slice p.A p.n p.c], .agg #[.int .i64 q.v, .slice q.A q.n q.c]] w fun r w' => ∃ v, r = .returned (.bool v) ∧ (v = true ↔ p.v = q.v ∧ p.ts = q.ts) ∧ Below w.heap.size w w' := by
 have hh := Hp.start w;have ht := fun w1 hb => Cf p.A p.n p.c p.ts q.A q.n q.c q.ts w1 (hp.ext hb) (hq.ext hb) hn hm;by_cases hv : p.v = q.v
 ·refine NV ?_;exact Qw
 ·refine NV ?_;exact RO
theorem Dc {g h : PX} (w : World) (hg : g.at_ w) (hh : h.at_ w) (e : g.v = h.v ∧ g.ts = h.ts) (hn : g.n ≤ 1000000) (hm : h.n ≤ 1000000) :
  Calls Tryz.prog 54 #[.agg #[.int .i64 g.v, .slice g.A g.n g.c], .agg #[.int .i64 h.v, .slice h.A h.n h.c]] w fun r w' => r = .returned (.bool true) ∧ Below w.heap.size w w' :=
 (zj g h w hg hh hn hm).mono fun r w' ⟨v, hr, hv, hb⟩ => ⟨by rw [hr, hv.2 e], hb⟩
set_option maxRecDepth 10000 in
theorem tX (p : PX) (L : Option Addr) (n c : Nat) (b : List SR) (w : World) (hT : eh w) (hp : p.at_ w) (hpc : p.n ≤ p.c) (hB : Sl w L n 6 (az SR.cells b)) :
  Calls Tryz.prog 8 #[.agg #[.int .i64 p.v, .slice p.A p.n p.c], .slice L n c] w fun r w' => r = .returned (.bool true) ∧ Below w.heap.size w w' := by
 have hh := Hp.start w;have hpl := hp.ln;have hbl : b.length = n := hB.bq SR.len TY;refine aj (N := 87) (l := [.agg #[.int .i64 p.v, .slice p.A p.n p.c], .slice L n c]) Tryz.func8 rfl rfl (by simp) ?_;refine sr ?_;refine cD hh [_,_] ?_;intro b2 w2 hh;refine aB (aa (ah (sr ?_)));refine cG hh 0 [_,_] (mL ?_);refine aF (ye p L n c b _ (hT.hp hh) (hp.ext hh.below) hpc (hB.ext hh.below)) al.out rfl TY ?_;rintro e_ w15 ⟨v, rfl, hv, hb_⟩;refine ⟨_, rfl, ?_⟩;replace hh := hh.ext hb_
 cases v with
 | false =>
  refine fm ?_;refine aa (cT (sr ?_));refine bD hh (lz _ (hT.hp hh)) rfl ?_;intro w17 hh;refine aB (aa (au (aG ?_)));refine cZ ?_;exact ⟨rfl, hh.below⟩
 | true =>
  obtain ⟨Sc, hs⟩ := hv rfl;clear hv;have f8p := hs.Sg;have lp := f8p.l9 hp hpc;have hof := fun w1 hT1 hb1 => we p L n c b none 0 0 [] 124 w1 hT1 (hp.ext hb1) lp (hB.ext hb1) hs.box TX (Sl.nil _ _ _) TY (T5 _) TY (fun h => hs.grow TY (BC h).2.e);have hE0 : nK p b [] = 0 → vh p b (cR p.v p.ts) ∧ (cQ p (bp b)).1 = 0 := fun h => by
   obtain ⟨a1, a2⟩ := Gm h;exact ⟨(BC a1).2, a2⟩
  replace hof : ∀ w1, eh w1 → Below w.heap.size w w1 → Calls Tryz.prog 20 #[.agg #[.int .i64 p.v, .slice p.A p.n p.c], .slice L n c, .slice none 0 0] w1 fun r w' => ∃ g : FX, Out (nK p b []) (cR p.v p.ts) (qz (cR p.v p.ts) (cQ p (bp b)).2) g ∧ r = .returned (.tuple #[.agg #[.slice g.A g.n g.a, .slice g.B g.m g.b], .int .i64 (nK p b [])]) ∧ Hp w1 [g.vq, g.uT] w' := hof;generalize nK p b [] = E at *;refine fm ?_;refine uJ ?_;refine cG hh 0 [_,_] (mL ?_);refine aF (hof _ (hT.hp hh) hh.below) al.out rfl TY ?_;rintro e_ w21 ⟨f0, o1, rfl, h4⟩;refine ⟨_, rfl, ?_⟩;have hfa : f0.n ≤ f0.a := h4.e8 (i := 1) rfl;replace hh := hh.join h4;clear h4;simp only [Ud, Ub] at hh;replace hh := show Hp w (.row f0.B f0.m f0.b 65 3 (az NR.cells f0.cs) :: .row f0.A f0.n f0.a 3 1 (bJ f0.ds) :: _) _ from hh;by_cases hE : E = 0
  ·subst hE;obtain ⟨hF, hZ⟩ := hE0 rfl;clear hE0 hof;obtain ⟨e1, e2, e3⟩ := o1.fe (by rw [hF.nl]; exact hF.kE) hF.low (sE _ _) hF.most;have hfn : b.length = f0.n := by
    have h8 := (hh.aC (i := 1) rfl).1;rw [bX, e2, k6, hF.nl] at h8;omega
   have hba := Kb hs hF hZ e1 e2 e3 hfn;obtain ⟨⟨s1, s2⟩, s3⟩ := hs.small TY TY hF hZ;have hns : f0.ns = cR p.v p.ts := by unfold FX.ns; rw [e2, tP]
   have hlim : f0.l9 47000 := ⟨by have := hF.kE; omega, by
    have h8 := (hh.aC (i := 0) rfl).bq NR.len TY;rw [e3, Ug, sE] at h8;have := hs.Rz hF.e;omega, fun z hz => by
    rw [e3] at hz;obtain ⟨y, hy, rfl⟩ := Ui.1 hz;rw [bR];exact ⟨(s3 y hy).ok TY, s3 y hy⟩⟩
   have hsum := hs.sum hF.e;have hbk := fun w1 hT1 ha hb1 => rl f0 L n c b 47000 124 w1 hT1 ha hlim hfa (hB.ext hb1) hs.box TX TY (fun _ _ => by
    rw [hns];unfold pV;have := hF.kE;have h9 : (124 + 1) * (cR p.v p.ts).sum ≤ (124 + 1) * 13 := Uz _ hsum;omega) (fun _ _ => by
    rw [hns, qp];unfold pV;have := hF.kE;have := hF.nl;have h9 : (124 + 1) * (cR p.v p.ts).sum ≤ (124 + 1) * 13 := Uz _ hsum;have h10 : (cR p.v p.ts).sum * (124 + 16394) ≤ 13 * (124 + 16394) := U2 _ hsum;omega)
   rw [hba.e] at hbk;refine mT ?_;refine du ?_;refine du ?_;refine bV hh ?_;intro b5 w5 hh;refine bW hh 0 [_,_] ?_;intro ws hh;replace hh : Hp _ (.blk _ _ [_, _] _ :: _) _ := hh;refine aI (aa (ah (sr (mI ?_))));refine tW ?_;refine cG hh 0 [_,_] (mL ?_);refine aF (hbk _ (hT.hp hh) ⟨hh.aC (i := 2) rfl, hh.aC (i := 1) rfl⟩ hh.below) al.out rfl TY ?_;rintro e_ w30 ⟨q, oq, rfl, h4⟩;refine ⟨_, rfl, ?_⟩;replace hh := hh.join h4;clear h4;simp only [Ud, Ub] at hh;replace hh := show Hp w (.row q.A q.n q.c 96 4 (az TR.cells q.ts) :: _) _ from hh;have hqn := oq.len (hh.aC (i := 0) rfl);refine mT ?_;refine du ?_;refine du ?_;refine bV hh ?_;intro b7 w7 hh;refine bW hh 0 [_,_] ?_;intro ws hh;replace hh : Hp _ (.blk _ _ [_, _] _ :: _) _ := hh;refine aI (aa (sr ?_));refine bD hh (jI 1 _ (hT.hp hh) TY TY) rfl ?_;intro w33 hh;refine bV hh ?_;intro b9 w9 hh;refine bW hh 0 [_,_,_] ?_;intro ws hh;replace hh : Hp _ (.blk _ _ [_, _, _] _ :: _) _ := hh;refine aa (ah (sr (aI (aa (aq ?_)))));have e10 : (((1 : Int)) : Dyadic) = wT b (cR p.v p.ts) 0 := rfl;rw [e10, e2] at hh;have hlow := hF.low;have hnl := hF.nl;have hbx := hF.box;have hpe := hF.e;have hbb := hs.box
   have hsq := hba.s;have hqq := hba.q;have hq8 := hba.n;have hpv := hF.v;have qv := oq.v0;have qt := oq.t0;have h12 := hF.kE;have hzw : ∀ i, i ≤ n → Sz (1 + i + (124 + 1) * ((cR p.v p.ts).take i).sum) (wT b (cR p.v p.ts) i) := fun i hi => by
    rw [Nb];exact Dk hbb i TX
   have hts : ∀ i, ((cR p.v p.ts).take i).sum ≤ 13 := fun i => by
    have h1 : (cR p.v p.ts).sum = ((cR p.v p.ts).take i).sum + ((cR p.v p.ts).drop i).sum := by rw [← List.sum_append, UZ]
    omega
   have hd5 : ∀ d ∈ cR p.v p.ts, d ≤ 13 := fun d hd => by
    have := Hw hpe hs.ex d hd;omega
   clear hba e1 e3 o1 hbk hlim hs s1 s2 s3 oq hF;generalize cR p.v p.ts = ns at *;generalize f0.A = fA at *;generalize f0.n = fn at *;generalize f0.a = fa at *;obtain rfl : fn = n := TX;replace hh := hh.sub (T4 _ (T4 _ (T4 _ (T4 _ (T8 _ (T4 _ (T4 _ UA)))))));refine aP [10, 34, 35, 36, 37, 38, 39, 40, 41, 42, 43, 44, 45, 46, 47, 48, 49, 50, 51, 52, 53, 54, 55, 56, 57, 58, 59, 60, 61, 62, 63, 64, 65, 66] 10
    (fun v w' => ∃ i : Nat, i ≤ fn ∧ v = .int .i64 i ∧ Hp w [.blk b9 65 [.bool (nR (wT b ns i)).neg, .string (nR (wT b ns i)).bz, .int .i64 (nR (wT b ns i)).e] (0, 0), .blk b7 24 [.int .i64 q.v, .slice q.A q.n q.c] (0, 0), .row q.A q.n q.c 96 4 (az TR.cells q.ts), .blk b5 39 [.slice fA fn fa, .slice f0.B f0.m f0.b] (0, 0), .row fA fn fa 3 1 (bJ (bL ns)), .blk b2 24 [.int .i64 p.v, .slice p.A p.n p.c] (0, 0)] w')
    (fun v _ => fn - (intOf v).toNat) ?_ ?_
   ·exact ⟨0, T6 _, rfl, hh⟩
   ·clear hh;rintro ρ' v_ w' ⟨i, hi, rfl, hh⟩;by_cases hlt : i < fn
    ·obtain ⟨s, hsi⟩ := ak (l := b) (k := i) TX;obtain ⟨d, hd⟩ := ak (l := ns) (k := i) TX;obtain ⟨ad, rfl, hr⟩ := hB.at_ TX;have hsm := T7 hsi;have hd2 := hd5 d (T7 hd);have hgd : (bJ (bL ns))[i]? = some (.int .i64 (d : Int)) := cj (ix hd);have hfs := hbb s hsm;obtain ⟨c1, c2⟩ := NO hbx hsm;have hwd : s.hi.d - s.lo.d = ik b i := by rw [EV hsi, c1, c2]
     have hsu := fun w1 hT1 => j6 s.hi s.lo w1 hT1 hfs.2.ok hfs.1.ok 124 hfs.2.sz hfs.1.sz TY;rw [hwd] at hsu;have zw : Sz 125 (ik b i) := by rw [← hwd]; exact hfs.2.sz.sub hfs.1.sz
     have hpw := fun w1 hT1 => oE (nR (ik b i)) (d : Int) w1 hT1 (zw.ok TY) (by
      have h1 := zw.bz;rw [Vp];have : d * (nR (ik b i)).bz.size ≤ 13 * 126 := Vs hd2 h1;omega) TX
     rw [bR, Vp] at hpw;have zp : Sz 1626 (ik b i ^ d) := (zw.pow d).mono (by
      have : 125 * d ≤ 125 * 13 := Uz _ hd2;omega)
     have zt : Sz 1700 (wT b ns i) := (hzw i hi).mono (by
      have : (124 + 1) * (ns.take i).sum ≤ (124 + 1) * 13 := Uz _ (hts i);omega)
     have hwt : wT b ns (i + 1) = wT b ns i * ik b i ^ d := by
      rw [wT, U7, hd]
      rfl
     have hm2 := fun A cc w1 hT1 hS1 => eI A 2 cc [nR (wT b ns i), nR (ik b i ^ d)] w1 hT1 hS1 (by simpa using ⟨zt.ok TX, zp.ok TX⟩) 1700 (by simpa [bR] using ⟨zt, zp.mono TX⟩) TX TX;rw [show g8 ([nR (wT b ns i), nR (ik b i ^ d)].map NR.d) = wT b ns (i + 1) by rw [hwt]; simp only [Ut, UR, bR]; show 1 * wT b ns i * _ = _; rw [V4]] at hm2;generalize ik b i ^ d = u at *;generalize ik b i = v at *;obtain ⟨gd, rfl⟩ := hh.cB (i := 4) rfl TX;refine ah (sr (mI (mL (aJ ?_))));refine bg (mB (gT (mI (gT (bH (gT ?_))))));refine bG hh 3 ?_;refine gT (aJ (gT ?_));refine bg ?_;refine fL ?_;refine aa (cT (ar (ai (ah (aq ?_)))));refine aV 18 [[(9, none)], [(1, none)], [(10, none)], [(48, some 1), (49, some 2)], [(50, some 3)], [(51, some 4)], [(1, none)], [(10, none)], [(53, some 6), (54, some 7)], [(55, some 8)], [(56, some 9)], [(52, some 5), (57, some 10)], [(5, none)], [(59, some 12)], [(10, none)], [(60, some 13), (61, some 14)], [(62, some 15)], [(58, some 11), (63, some 16)]] [(17, 64), (16, 63), (15, 62), (14, 61), (13, 60), (12, 59), (11, 58), (10, 57), (9, 56), (8, 55), (7, 54), (6, 53), (5, 52), (4, 51), (3, 50), (2, 49), (1, 48), (0, 47)] hh mixed TZ ?_
     refine fU 0 [_,_,_] ?_;refine fT ?_;refine dF ?_;refine l3 (i) ?_;refine Kx ?_;refine r9 [_,_,_] (fun _ hj => ((((hr.ext hj.hp.below).recAt SR.len hsi).drop 3).take 3)) ?_;refine fT ?_;refine dF ?_;refine l3 (i) ?_;refine Kx ?_;refine r9 [_,_,_] (fun _ hj => ((((hr.ext hj.hp.below).recAt SR.len hsi).drop 0).take 3)) ?_;refine dC (fun _ hj => hsu _ (hT.hp hj.hp)) ?_;refine ej ?_;refine fY 3 ?_;refine dF ?_;refine Ke (i) ?_;refine bu (i := 16) (fun ρ1 w1 hj hR => jb aK.out (show ρ1 62 = Value.pointer _ from hR.1) (hj.hp.fh (i := 4) rfl (by simp only [Uo]; exact hgd))) ?_;refine dC (fun _ hj => hpw _ (hT.hp hj.hp)) ?_;refine aR ?_;intro f W hJ hV;have hb_11 := hJ.bl;obtain ⟨v64, v63, v62, v61, v60, v59, v58, v57, v56, v55, v54, v53, v52, v51, v50, v49, v48, v47, _⟩ := hV;replace hh := hJ.hp;refine aY (br (ae v64 (ae v63 (ae v62 (ae v61 (ae v60 (ae v59 (ae v58 (ae v57 (ae v56 (ae v55 (ae v54 (ae v53 (ae v52 (ae v51 (ae v50 (ae v49 (ae v48 (ae v47 aX))))))))))))))))))) ?_;dsimp only [cf];clear hJ;refine s9 ?_;intro b65 w65 hh;refine bD hh (hm2 _ _ _ (hT.hp hh) (hh.aC (i := 0) rfl)) rfl ?_;intro w66 hh;refine bW hh 1 [_,_,_] ?_;intro ws hh
     replace hh : Hp _ (_ :: .blk _ _ [_, _, _] _ :: _) _ := hh;refine aA (bE (ai (ao (mI ?_))));refine bj (aI (aA (ai ?_)));replace hh := hh.sub (T8 _ (T4 _ (T4 _ (T4 _ (T4 _ (T4 _ (T4 _ UA)))))));refine ⟨⟨i + 1, TX, rfl, hh⟩, by show fn - (i + 1) < fn - i; omega, ?_⟩;exact dQ
    ·obtain rfl : i = fn := TX;have hsc := fun w1 hT1 ha => px p (nR (wT b ns i)) 2000 w1 hT1 ha ⟨lp.n, lp.cap, lp.ok.mono TY, lp.sz⟩ ⟨((hzw i (T5 _)).mono (show _ ≤ 2000 by
      have : (124 + 1) * (ns.take i).sum ≤ (124 + 1) * 13 := Uz _ (hts i);omega)).ok TY, by
      rw [bR];exact (hzw i (T5 _)).mono (show _ ≤ 2000 by
       have : (124 + 1) * (ns.take i).sum ≤ (124 + 1) * 13 := Uz _ (hts i);omega)⟩ TY
     rw [bR] at hsc;rw [hbl] at hsq hqq hq8;rw [hsq] at hsc;refine ah (sr (mI (mL (aJ ?_))));refine bg (mB ?_);refine gS (gS (gS (gS (gS ?_))));refine e7 ?_;refine aa (cF (a6 (aD (aD (bB (ai (sr ?_)))))));refine cG hh 5 [_,_] ?_;refine cG hh 0 [_,_,_] ?_;refine aF (hsc _ (hT.hp hh) (hp.ext hh.below)) al.out rfl TY ?_;rintro e_ w70 ⟨g, og, rfl, h4⟩;refine ⟨_, rfl, ?_⟩;replace hh := hh.join h4;clear h4;simp only [Ud, Ub] at hh;replace hh := show Hp w (.row g.A g.n g.c 96 4 (az TR.cells g.ts) :: _) _ from hh;have hgn := og.len (hh.aC (i := 0) rfl);have hsame : q.v = g.v ∧ q.ts = g.ts := ⟨by rw [qv, og.v0, hpv, hbl], by rw [qt, og.t0, hqq]⟩;rw [hqq] at hqn;refine mT ?_;refine du ?_;refine du ?_;refine bV hh ?_;intro b11 w11 hh;refine bW hh 0 [_,_] ?_;intro ws hh;replace hh : Hp _ (.blk _ _ [_, _] _ :: _) _ := hh;refine aI (aa (sr (mI ?_)));refine db (mB (gT (mI (gT ?_))));refine db ?_;refine fL ?_;refine mB (gT ?_);refine cG hh 3 [_,_] (gT ?_);refine cG hh 0 [_,_] ?_;refine aH rfl rfl ?_;refine bD hh (Dc (g := q) (h := g) _ (hh.aC (i := 4) rfl) (hh.aC (i := 1) rfl) hsame TX TX) rfl ?_;intro w82 hh;refine fL ?_;refine mB ?_;refine aH rfl rfl ?_
     refine bD hh (lz _ (hT.hp hh)) rfl ?_;intro w85 hh;refine fL ?_;exact vc
  ·refine mT ?_;refine du ?_;refine du ?_;refine bV hh ?_;intro b5 w5 hh;refine bW hh 0 [_,_] ?_;intro ws hh;replace hh : Hp _ (.blk _ _ [_, _] _ :: _) _ := hh;refine aI (aa (ah (sr (mI ?_))));refine dn (aa (cT (sr ?_)));refine bD hh (lz _ (hT.hp hh)) rfl ?_;intro w26 hh;refine aB (aa (au (aG ?_)));refine cZ ?_;exact ⟨rfl, hh.below⟩
end Go.Proofs.YteeckcbbnegmcaaGreatDoor
namespace Go.Proofs.YteeckcbbnegmcaaGreatDoor.bernBack
open Go.ChangeShapes Go.WideShapes Go.ChangeAt Go.RowKit Go.ChangeMaps
theorem own : ownKnob Tryz.prog.godebug = none := by kernel_rfl
set_option maxRecDepth 100000 in
theorem lifted (os : Os) (started : os.Started) (H : Type) (enc : TypeId × Value → H) :
  ReturnsInHanded {} Tryz.checked os 8 .any (fun w args => (Rows.bernBackSpec.pre enc Tryz.prog Tryz.f8 Rows.bernBackRow.domain false w args ∧ laidMetH Tryz.prog Rows.bernBackRow.laid w) ∧ sizedMet enc Tryz.prog Tryz.f8 (OpenSpec.ofChange Rows.bernBackSpec) false w args)
   (Rows.bernBackSpec.post enc Tryz.prog Tryz.f8 false true false false) := by
 refine returnsInHanded_of_change_and (C := Tryz.checked) (X := fun w _ => laidMetH Tryz.prog Rows.bernBackRow.laid w) (fun _ _ _ hh h => h.of_heap hh) own started TZ Tryz.func8
  (ChangeSpec.witness_shaped (enc := enc) (C := Tryz.checked) (os := os) (X := fun w _ => laidMetH Tryz.prog Rows.bernBackRow.laid w) false (World.laidAll Tryz.prog os Rows.bernBackRow.laid) #[.agg #[.int .i64 0, .slice none 0 0], .slice none 0 0] 8 (World.laidAll_os _ _ _)
   (World.shaped_of_ZipB TZ TZ) TZ TZ TZ
   (by rw [MakeChecks.laidMetH_plain _ _ _ TZ]; exact laidMet_laidAll _ TZ TZ)) ?_
 intro W base args ds gs before hval0 hW hc _ hL _;have hval : ∀ (j : Nat) t v, Tryz.f8.params[j]? = some t → args[j]? = some v → Value.okWide Tryz.prog W .any base t v := hval0;have hW' := hW;obtain ⟨p, q, hA0, hV, rfl, hfz, hnd⟩ := hW;have hA : DataW.TrodAll enc Tryz.prog W 0 (fun _ => true) true Tryz.f8.params.toList args.toList ds p := hA0;rw [Tryz.params8] at hA hval;obtain ⟨v0, vs0, d0, ds0, p0, q0, hargs, rfl, rfl, h0, r0⟩ := trodAll_cons hA;obtain ⟨v1, vs1, d1, ds1, p1, q1, rfl, rfl, rfl, h1, r1⟩ := trodAll_cons r0;obtain ⟨rfl, rfl, rfl⟩ := trodAll_nil r1;obtain rfl : args = #[v0, v1] := by cases args; simp_all
 obtain ⟨rfl, rfl⟩ := trodVars_none hV;obtain ⟨f0, rfl, hS0, hR0⟩ := Gp (hval 0 24 v0 rfl rfl) h0;obtain ⟨A1, n1, c1, l1, rfl, hS1, _⟩ := Jq (hval 1 34 v1 rfl rfl) h1;refine (tX f0 A1 n1 c1 l1 W (Bb hL) hS0 hR0 hS1).mono fun e W' ⟨he, hb⟩ => ?_;subst he;exact ⟨_, rfl, Hc hW' rfl TZ (by rw [Tryz.params8]; exact Vv TZ) TZ Tryz.underlying4 rfl rfl rfl hb⟩
set_option maxHeartbeats 8000000 in
theorem row_holds : Rows.BernBackSaid :=
 OpenClaim.holds_of_wide 8 Tryz.f8 rfl rfl rfl rfl rfl rfl rfl ⟨rfl, rfl, rfl, rfl, rfl⟩ rfl rfl rfl rfl rfl (by as_aux_lemma => kernel_rfl) Tryz.func8 (by rw [joinedFacts]; simp only [Uj]; and_intros <;> as_aux_lemma => kernel_rfl)
  (Vv (by as_aux_lemma => kernel_rfl)) (by unfold Func.isWrapper; first | (rw [T2 (by decide +kernel)]; kernel_rfl) | (rw [T3 (by decide +kernel)]; exact ⟨rfl, rfl⟩))
  (fun os started H enc _ => lifted os started H enc)
set_option maxHeartbeats 8000000 in
theorem holds : Rows.BernBackCardSaid :=
 Claim7.holds_tied_plain_at .later [] [.data, .data, .pinned] true (true, "2e00f90462f683c83fa0963bfbbf790e29f51abb4608f860dd030f3668376368") false row_holds (fun _ h => by cases h) (by as_aux_lemma => kernel_rfl) (fun _ h => by cases h) bernBack_row_tie rfl ⟨rfl, rfl⟩ (by as_aux_lemma => kernel_rfl) rfl
  (fun f fn hf hfn => by
   obtain rfl : f = 8 := UN ((show Tryz.prog.funcNamed "ogee/ogeelaw12.BernBack" = some 8 by as_aux_lemma => kernel_rfl).symm.trans hf) |>.symm;obtain rfl : fn = Tryz.f8 := (UN (Tryz.func8.symm.trans hfn)).symm;exact ⟨by as_aux_lemma => kernel_rfl, fun j t ht => by
    rw [Tryz.params8] at ht;have hm : t ∈ [24, 34] := by simpa using Array.mem_of_getElem? ht
    have hall : ([24, 34].all fun u => !Tryz.prog.wantsStandIn u) = true := by as_aux_lemma => kernel_rfl
    exact (show Tryz.prog.wantsStandIn t = false by simpa using Ux.1 hall t hm)⟩)
  (by as_aux_lemma => kernel_rfl)
#print axioms holds
end Go.Proofs.YteeckcbbnegmcaaGreatDoor.bernBack
