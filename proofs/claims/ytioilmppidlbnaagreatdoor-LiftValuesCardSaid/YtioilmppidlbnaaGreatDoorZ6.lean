/- The row and the card of LiftValues. -/
import Derived.Test.YtioilmppidlbnaaGreatDoorCards
import Derived.Test.YtioilmppidlbnaaGreatDoorTie
import Derived.SevenTiedAt
import Derived.Test.YtioilmppidlbnaaGreatDoorZ5
/- The walk through bern.Eval. -/
namespace Go.Proofs.YtioilmppidlbnaaGreatDoor
open Go.RowKit
instance : aD Tryz.prog 95 1 false 8 [.nilFunc] := ⟨by kernel_rfl⟩
theorem jn (fx : FX) (L : Option Addr) (m2 c2 : Nat) (tn : List NR) (k q G : Nat) (w : World) (hT : fQ w) (hf : fx.at_ w) (hl : fx.iA k) (hcap : fx.m ≤ fx.b) (hS : Sl w L m2 3 (bG NR.cells tn)) (hv : ∀ s ∈ tn, Val q s s.d ∧ Sz q (1 - s.d)) (hq : q ≤ 2000)
  (hG : fx.e = 0 → ∀ d ∈ fx.ns, 2 + 2 * (q * d) + (d + 1) ≤ G) (hk : k + fx.n * G ≤ 500000) :
  Calls Tryz.prog 29 #[.agg #[.slice fx.A fx.n fx.a, .slice fx.B fx.m fx.b], .slice L m2 c2] w fun r w' => r = .returned (.tuple #[.agg #[.bool (nR (kG fx tn)).neg, .string (nR (kG fx tn)).bP, .int .i64 (nR (kG fx tn)).e], .int .i64 (su fx m2)]) ∧ Below w.heap.size w w' := by
 have hh := Hp.start w
 have hck := fun w1 hT1 hb => pg fx k w1 hT1 (hf.ext hb) hl
 have hlt := hS.cR NR.len (by decide)
 have hev0 : su fx m2 ≠ 0 → kG fx tn = 0 := fun h => by unfold kG; rw [hlt, if_neg h]
 by_cases h0 : fx.e = 0
 ·by_cases h1 : m2 = fx.n
  ·have hE : su fx m2 = 0 := by unfold su; rw [if_neg (by omega), if_neg (by omega)]
   have hV : kG fx tn = fH fx.ns.reverse (fx.cs.map NR.d) (tn.map NR.d).reverse := by unfold kG; rw [hlt, hE, if_pos rfl]
   rw [hE, hV]
   obtain ⟨hdeg, hnum, h12, hlow, hcnt, hmax⟩ := FX.fv h0
   have hln : fx.ds.length = fx.n := hf.ln.1
   have hlm := hf.ln.2
   have hnl : fx.ns.length = fx.n := by unfold FX.ns; rw [List.length_map]; exact hln
   have hm : fx.m = au fx.ns := by rw [← hlm, hcnt]
   have hdg : Sl w fx.A fx.n 1 (bI (bp fx.ns)) := by rw [← hdeg]; exact hf.dg
   have hxz : ∀ x ∈ fx.cs.map NR.d, Sz k x := fun x h => by
    obtain ⟨c, hc, rfl⟩ := List.mem_map.1 h
    exact (hl.num c hc).2
   have hxl : (fx.cs.map NR.d).length = au fx.ns := by rw [List.length_map, hcnt]
   have hval := oP fx.ns.reverse (tn.map NR.d).reverse (fx.cs.map NR.d) (by rw [List.length_reverse, List.length_reverse, List.length_map]; omega) (by rw [hxl, dI])
   have hnm : Sl w fx.B (au fx.ns) 3 (bG NR.cells ((fx.cs.map NR.d).map nR)) := by rw [← hm, ← hnum]; exact hf.nm
   have hG := hG h0
   rw [hm] at hcap
   refine k5 (N := 58) (l := [.agg #[.slice fx.A fx.n fx.a, .slice fx.B fx.m fx.b], .slice L m2 c2]) Tryz.func29 rfl rfl (by simp) ?_
   refine gA fun D_ => ?_
   refine ao ?_
   refine dw hh [_,_] ?_
   intro b2 w2 hh
   refine cu hh ?_
   intro b4 w4 hh
   refine aI (aa ?_)
   refine gA fun D_ => ?_
   refine sr ?_
   refine cP hh 1 [_,_] ?_
   refine bF hh (hck _ (hT.hp hh) hh.below) rfl ?_
   intro w13 hh
   refine aI (aa (sr (mI ?_)))
   refine dt (aa (cF (ak (ai ?_))))
   refine gA fun D_ => ?_
   refine sr (mL (aV (bK ?_)))
   refine bL hh 1 ?_
   refine aV ?_
   refine dt (aa (cF (ak (ai ?_))))
   refine gA fun D_ => ?_
   refine ao (bK ?_)
   refine bL hh 1 ?_
   refine aL (aa ?_)
   refine qg ?_
   refine gA fun D_ => ?_
   refine ao (mL (aV ?_))
   refine et (aI (aa ?_))
   rw [hm]
   have hst : ∀ (H : List HE) (w1 : World), Hp w (H ++ []) w1 → Sl w1 fx.B (au fx.ns) 3 (bG NR.cells ((fx.cs.map NR.d).map nR)) := fun H w1 h => hnm.ext h.below
   generalize fx.cs.map NR.d = xs at *
   refine mv (wI [7, 8, 9, 10, 11, 30, 31, 32, 33, 34, 35, 36, 37, 38, 39, 40, 41, 42, 43, 44, 45, 46, 47, 48, 49, 50, 51, 52, 53, 54] 7 8
    (fun M v7 v8 w' => ∃ (j : Nat) (z : Int) (X : List Dyadic) (A : Option Addr) (a : Nat) (R : List HE), j ≤ fx.n ∧ v8 = .int .i64 z ∧ z = (j : Int) - 1 ∧ v7 = .slice A (au (fx.ns.take j)) a ∧ au (fx.ns.take j) ≤ a ∧ X.length = au (fx.ns.take j) ∧ (∀ x ∈ X, Sz (k + (fx.n - j) * G) x) ∧ jO (fx.ns.take j).reverse ((tn.map NR.d).take j).reverse X = jO fx.ns.reverse (tn.map NR.d).reverse xs ∧ (∀ x ∈ R, x.zX = true) ∧ (∀ (H : List HE) (w1 : World), Hp w (H ++ R) w1 → Sl w1 A (au (fx.ns.take j)) 3 (bG NR.cells (X.map nR))) ∧ Hp w (.blk b4 39 [.bool false, .string (ByteArray.mk #[]), .int .i64 0] (0, 0) :: .blk b2 28 [.slice fx.A fx.n fx.a, .slice fx.B fx.m fx.b] (0, 0) :: (R ++ kA M)) w')
    (fun _ v _ => (intOf v + 1).toNat) ?_ ?_)
   ·refine ⟨fx.n, _, xs, _, _, [], Nat.le_refl _, rfl, by omega, by rw [List.take_of_length_le (by omega)]; rfl, by rw [List.take_of_length_le (by omega)]; exact hcap, by rw [List.take_of_length_le (by omega)]; exact hxl, fun x h => (hxz x h).mono (by omega), by rw [List.take_of_length_le (by omega), List.take_of_length_le (by rw [List.length_map]; omega)], fun x h => (by cases h), by rw [List.take_of_length_le (by omega)]; exact hst, hh⟩
   ·clear hh hst
    rintro M ρ' v7 v8 w' ⟨j, z, X, A, a, R, hj, rfl, hz, rfl, hca, hXl, hXz, hXe, hcR, hrd, hh⟩
    by_cases hj0 : j = 0
    ·subst hj0
     obtain rfl : z = -1 := by omega
     have hX : X = [fH fx.ns.reverse xs (tn.map NR.d).reverse] := by
      rw [← hval, ← hXe]
      simp [jO]
     subst hX
     have hh1 : Hp w ([_, _] ++ R) w' := hh.sub (.cons_cons _ (.cons_cons _ (List.sublist_append_left R _)))
     have hsl := hrd _ _ hh1
     rw [List.take_zero] at hsl
     obtain ⟨ac, rfl, sc⟩ := hsl.at_ (show 0 < au [] by decide)
     have hx0 : ([fH fx.ns.reverse xs (tn.map NR.d).reverse].map nR)[0]? = some (nR (fH fx.ns.reverse xs (tn.map NR.d).reverse)) := rfl
     generalize fH fx.ns.reverse xs (tn.map NR.d).reverse = V at *
     rw [List.take_zero]
     refine gA fun D_ => ?_
     refine sr (mI ?_)
     refine dz (aa (cF ?_))
     refine aN ?_
     refine az ?_
     refine yi ?_
     refine gA fun D_ => ?_
     refine ao (mL ?_)
     refine aC (k := 0) aH.out aD.size rfl rfl (by omega) (show 0 < au [] by decide) (by decide) ?_
     refine cI (vs := [_, _, _]) aD.out rfl (sc.recAt NR.len hx0) rfl (by decide) ?_
     refine bM hh 0 [_,_,_] ?_
     intro ws hh
     replace hh : Hp _ (.blk _ _ [_, _, _] _ :: _) _ := hh
     refine aI (aa ?_)
     refine tB fun D_ => ?_
     refine aq ?_
     refine lk (M := M) (vs := [.agg #[.bool (nR V).neg, .string (nR V).bP, .int .i64 (nR V).e], .int .i64 0]) (hh.perm (List.perm_append_comm (l₁ := _ :: _ :: R))) (.inr rfl) rfl ?_
     intro w9 hh
     refine ⟨(aY rfl (aX (vs := [_, _, _]) aD.out (hh.ax (i := 0) (n := 3) rfl rfl) rfl) (dq (ew rfl) bC)), ?_⟩
     exact ⟨rfl, hh.below⟩
    ·obtain ⟨i, rfl⟩ : ∃ i, j = i + 1 := ⟨j - 1, by omega⟩
     obtain rfl : z = (i : Int) := by omega
     obtain ⟨tq, htq⟩ := ay (l := tn) (k := i) (by omega)
     obtain ⟨vt, ht1⟩ := hv tq (List.mem_of_getElem? htq)
     obtain ⟨d, hd⟩ := ay (l := fx.ns) (k := i) (by omega)
     have hmd := List.mem_of_getElem? hd
     have hdl := hlow d hmd
     have hGd := hG d hmd
     have hgd := bX (dY hd)
     obtain ⟨adL, rfl, sL⟩ := hS.at_ (by omega)
     obtain ⟨adD, hAD, sD⟩ := hdg.at_ (by omega)
     have hev : Value.slice fx.A fx.n fx.a = .slice (some adD) fx.n fx.a := by rw [hAD]
     have hh1 : Hp w ([_, _] ++ R) w' := hh.sub (.cons_cons _ (.cons_cons _ (List.sublist_append_left R _)))
     obtain ⟨ac, rfl, -⟩ := (hrd _ _ hh1).at_ (eO _)
     clear hh1
     have hcs : au (fx.ns.take (i + 1)) = au (fx.ns.take i) * (d + 1) := by rw [aO hd, eQ]; simp [au]
     have hct := ep fx.ns (i + 1)
     have hcp := eO (fx.ns.take i)
     have hc4 := ep fx.ns i
     have hd1c : d + 1 ≤ au (fx.ns.take (i + 1)) := by rw [hcs]; exact Nat.le_mul_of_pos_left _ hcp
     have hKG : k + (fx.n - (i + 1)) * G + G = k + (fx.n - i) * G := by
      rw [show fx.n - i = fx.n - (i + 1) + 1 by omega, Nat.add_mul, Nat.one_mul]
      omega
     have hKle : k + (fx.n - (i + 1)) * G ≤ 500000 := by
      have := Nat.mul_le_mul_right G (show fx.n - (i + 1) ≤ fx.n by omega)
      omega
     have eD : (d : Int) + 1 = ((d + 1 : Nat) : Int) := by omega
     refine gA fun D_ => ?_
     refine sr (mI ?_)
     refine dz (aa (cT (ak (ai ?_))))
     refine qg (mv ?_)
     refine gA fun D_ => ?_
     refine ao (mL (mI ?_))
     refine aC (k := i) aH.out aD.size rfl rfl (by omega) (by omega) (by decide) ?_
     refine cI (vs := [_, _, _]) aD.out rfl ((sL.ext hh.below).recAt NR.len htq) rfl (by decide) ?_
     refine aR (pC tq tq.d q _ (hT.hp hh) vt hq) av.out rfl (by decide) ?_
     rintro e_ w38 ⟨b1, b3, rfl, h2⟩
     refine ⟨_, rfl, ?_⟩
     replace hh := hh.join h2
     simp only [List.cons_append, List.nil_append] at hh
     clear h2
     refine cu hh ?_
     intro b9 w9 hh
     refine bM hh 0 [_] ?_
     intro ws hh
     replace hh : Hp _ (.blk _ _ [_] _ :: _) _ := hh
     refine aa ?_
     refine gA fun D_ => ?_
     refine ao ?_
     refine cu hh ?_
     intro b10 w10 hh
     refine aa ?_
     refine qg ?_
     refine gA fun D_ => ?_
     refine ao (mL (bK ?_))
     refine bL hh 5 ?_
     refine mI ?_
     refine aC (k := i) aH.out aD.size hev rfl (by omega) (by omega) (by decide) ?_
     refine aK aD.out rfl ((sD.ext hh.below).eC hgd) (by decide) ?_
     refine bx ?_
     rw [eD]
     refine aR (qn (some ac) (au (fx.ns.take (i + 1))) a (d + 1) _ (by omega)) av.out rfl (by decide) ?_
     rintro e_ w46 ⟨c2, c1, rfl, h2⟩
     refine ⟨_, rfl, ?_⟩
     replace hh := hh.join h2
     simp only [List.cons_append, List.nil_append] at hh
     clear h2
     replace hh := hh.perm (List.perm_middle (l₁ := [_, _]))
     simp only [List.cons_append, List.nil_append] at hh
     replace hh := hh.eI 39 3
     refine aa ?_
     have hmk := hh.zu (M := M) (by repeat (first | exact List.sublist_append_right _ _ | apply List.Sublist.cons))
     have hmlt := hmk.lt
     replace hh := hh.sub (H' := _ :: _ :: _ :: _ :: _ :: _ :: _ :: _ :: _ :: R) (by repeat (first | exact List.sublist_append_left _ _ | apply List.Sublist.cons_cons))
     have hc2 := hh.eS (i := 3) (o := 0) rfl rfl
     have hc1 := hh.eS (i := 2) (o := 0) rfl rfl
     have hseq := uX c2 c1 ac (au (fx.ns.take (i + 1))) a (d + 1) (au (fx.ns.take i)) _ hc2 hc1 hcs (by omega) hca (by omega) (by omega)
     have hcel : ∀ (A1 : Option Addr) (n1 k1 : Nat) (cs vs : List Value), ∀ x ∈ (HE.row A1 n1 k1 39 3 cs :: .blk b10 26 vs (0, 0) :: .blk c1 3 [.int .i64 ((d + 1 : Nat) : Int)] (0, 0) :: .blk c2 26 [.slice (some ac) (au (fx.ns.take (i + 1))) a] (0, 0) :: .blk b9 95 [.func (.func 120) #[] #[.pointer (some ⟨b1, 0, none⟩), .pointer (some ⟨b3, 0, none⟩)]] (0, 0) :: .blk b3 39 [.bool (nR (1 - tq.d)).neg, .string (nR (1 - tq.d)).bP, .int .i64 (nR (1 - tq.d)).e] (0, 0) :: .blk b1 39 [.bool tq.neg, .string tq.bP, .int .i64 tq.e] (0, 0) :: .blk b4 39 [.bool false, .string (ByteArray.mk #[]), .int .i64 0] (0, 0) :: .blk b2 28 [.slice fx.A fx.n fx.a, .slice fx.B fx.m fx.b] (0, 0) :: R), x.zX = true := fun A1 n1 k1 cs vs x hx => by
      simp only [List.mem_cons] at hx
      rcases hx with rfl | rfl | rfl | rfl | rfl | rfl | rfl | rfl | rfl | hx
      all_goals first | rfl | exact hcR x hx
     trace_state
     refine mv (uG (α := Fin (au (fx.ns.take i))) (enc := fun jj : Fin (au (fx.ns.take i)) => .slice (some (ac.add (jj.val * (d + 1) * 3))) (d + 1) (d + 1)) 11 (by decide) (by decide) rfl (enters_of Tryz.func122 (by kernel_rfl) rfl) hseq xC (fun W l o o' h _ _ _ => x5 (kE hc2) (kE hc1) W l o o' h)
      (fun bs W => ∃ (Y : List Dyadic) (A1 : Option Addr) (k1 : Nat), Y.length = bs.length ∧ (∀ y ∈ Y, Sz (k + (fx.n - i) * G) y) ∧ (bs = (List.finRange (au (fx.ns.take i))).take bs.length → Y = (ik d tq.d (au (fx.ns.take i)) X).take bs.length) ∧ Marks w M W ∧ Hp w (.row A1 bs.length k1 39 3 (bG NR.cells (Y.map nR)) :: .blk b10 26 [.slice A1 bs.length k1] (0, 0) :: .blk c1 3 [.int .i64 ((d + 1 : Nat) : Int)] (0, 0) :: .blk c2 26 [.slice (some ac) (au (fx.ns.take (i + 1))) a] (0, 0) :: .blk b9 95 [.func (.func 120) #[] #[.pointer (some ⟨b1, 0, none⟩), .pointer (some ⟨b3, 0, none⟩)]] (0, 0) :: .blk b3 39 [.bool (nR (1 - tq.d)).neg, .string (nR (1 - tq.d)).bP, .int .i64 (nR (1 - tq.d)).e] (0, 0) :: .blk b1 39 [.bool tq.neg, .string tq.bP, .int .i64 tq.e] (0, 0) :: .blk b4 39 [.bool false, .string (ByteArray.mk #[]), .int .i64 0] (0, 0) :: .blk b2 28 [.slice fx.A fx.n fx.a, .slice fx.B fx.m fx.b] (0, 0) :: R) W)
      ?own ?zero ?asg ?body ?done)
     case own =>
      intro s W W' row ⟨Y, A1, k1, h1, h2, h3, h4, h5⟩ hg hr
      exact ⟨Y, A1, k1, h1, h2, h3, h4.grown hmlt hg (fun r e => (hr r e).1), h5.y5 (hcel _ _ _ _ _) hg fun r e => ⟨Nat.le_trans hh.size (hr r e).1, (hr r e).2⟩⟩
     case zero => exact ⟨[], none, 0, rfl, fun y h => (by cases h), fun _ => rfl, hmk, hh⟩
     case asg =>
      intro l x W
      refine ao (aL (aE ?_))
      exact ⟨rfl, rfl⟩
     case body =>
      rintro l bs qq W ⟨Y, A1, k1, hYl, hYz, hYe, hmk2, hh0⟩ hbl
      have hqm := qq.isLt
      have hh := hh0.xW
      simp only [List.cons_append, List.nil_append] at hh
      generalize hO : sC _ _ _ = O at hh
      have hq1 : qq.val * (d + 1) + (d + 1) ≤ au (fx.ns.take (i + 1)) := by
       have := Nat.mul_le_mul_right (d + 1) (show qq.val + 1 ≤ au (fx.ns.take i) from hqm)
       rw [Nat.succ_mul] at this
       omega
      have hline := (hrd [_, _, _, _, _, _, _, _, _] W hh0).part (qq.val * (d + 1)) (d + 1) hq1 (by omega)
      rw [oX] at hline
      have hfo := fun w1 hT1 hS1 hb1 hb2 => nS tq tq.d ⟨b1, 0, none⟩ ⟨b3, 0, none⟩ (some (ac.add (qq.val * (d + 1) * 3))) (d + 1) (d + 1) d (jb (d + 1) qq.val X) (k + (fx.n - (i + 1)) * G) q w1 hT1 hS1 rfl hdl (fun x hx => hXz x (lj hx)) vt ht1 hb1 hb2 hKle hq
      have hfz := pr (d := d) (i := d + 1) (fun x hx => hXz x (lj (K := d + 1) (q := qq.val) hx)) vt.sz ht1 (Nat.le_refl _)
      have hfa := wY (d := d) (m := au (fx.ns.take i)) tq.d X hqm
      generalize iI d tq.d (jb (d + 1) qq.val X) (d + 1) = y at *
      refine aj ?_
      refine wK hh mixed fun W2 hJ2 => ?_
      have hst2 := hJ2.hp
      refine wA (I := fun c x1 x2 e g ρ w' => ρ 9 = .pointer (some ⟨b9, 0, none⟩) ∧ ρ 10 = .pointer (some ⟨b10, 0, none⟩) ∧ ρ 11 = .slice (some (ac.add (qq.val * (d + 1) * 3))) (d + 1) (d + 1) ∧ (c = true → ρ 48 = .slice A1 bs.length k1) ∧ (x1 = true → ρ 49 = .func (.func 120) #[] #[.pointer (some ⟨b1, 0, none⟩), .pointer (some ⟨b3, 0, none⟩)]) ∧ (x2 = true → ρ 50 = .slice (some (ac.add (qq.val * (d + 1) * 3))) (d + 1) (d + 1)) ∧ (e = true → ρ 51 = .agg #[.bool (nR y).neg, .string (nR y).bP, .int .i64 (nR y).e]) ∧ ∃ R52 : List HE, Hp w (R52 ++ (.row A1 bs.length k1 39 3 (bG NR.cells (Y.map nR)) :: .blk b10 26 [.slice A1 bs.length k1] (0, 0) :: .blk c1 3 [.int .i64 ((d + 1 : Nat) : Int)] (0, 0) :: .blk c2 26 [.slice (some ac) (au (fx.ns.take (i + 1))) a] (0, 0) :: .blk b9 95 [.func (.func 120) #[] #[.pointer (some ⟨b1, 0, none⟩), .pointer (some ⟨b3, 0, none⟩)]] (0, 0) :: .blk b3 39 [.bool (nR (1 - tq.d)).neg, .string (nR (1 - tq.d)).bP, .int .i64 (nR (1 - tq.d)).e] (0, 0) :: .blk b1 39 [.bool tq.neg, .string tq.bP, .int .i64 tq.e] (0, 0) :: .blk b4 39 [.bool false, .string (ByteArray.mk #[]), .int .i64 0] (0, 0) :: .blk b2 28 [.slice fx.A fx.n fx.a, .slice fx.B fx.m fx.b] (0, 0) :: (R ++ O))) w' ∧ (g = true → ∃ g52, ρ 52 = .slice (some ⟨g52, 0, none⟩) 1 1 ∧ R52 = [.row (some ⟨g52, 0, none⟩) 1 1 39 3 [.bool (nR y).neg, .string (nR y).bP, .int .i64 (nR y).e]]))
       (J := fun ρ w' => ρ 10 = .pointer (some ⟨b10, 0, none⟩) ∧ ∃ (A3 : Option Addr) (k3 : Nat), ρ 53 = .slice A3 (bs.length + 1) k3 ∧ Hp w (.row A3 (bs.length + 1) k3 39 3 (bG NR.cells (Y.map nR) ++ [.bool (nR y).neg, .string (nR y).bP, .int .i64 (nR y).e]) :: .blk b10 26 [.slice A1 bs.length k1] (0, 0) :: .blk c1 3 [.int .i64 ((d + 1 : Nat) : Int)] (0, 0) :: .blk c2 26 [.slice (some ac) (au (fx.ns.take (i + 1))) a] (0, 0) :: .blk b9 95 [.func (.func 120) #[] #[.pointer (some ⟨b1, 0, none⟩), .pointer (some ⟨b3, 0, none⟩)]] (0, 0) :: .blk b3 39 [.bool (nR (1 - tq.d)).neg, .string (nR (1 - tq.d)).bP, .int .i64 (nR (1 - tq.d)).e] (0, 0) :: .blk b1 39 [.bool tq.neg, .string tq.bP, .int .i64 tq.e] (0, 0) :: .blk b4 39 [.bool false, .string (ByteArray.mk #[]), .int .i64 0] (0, 0) :: .blk b2 28 [.slice fx.A fx.n fx.a, .slice fx.B fx.m fx.b] (0, 0) :: (R ++ O)) w')
       (K := fun _ w' => ∃ (A3 : Option Addr) (k3 : Nat), Hp w (.row A3 (bs.length + 1) k3 39 3 (bG NR.cells (Y.map nR) ++ [.bool (nR y).neg, .string (nR y).bP, .int .i64 (nR y).e]) :: .blk b10 26 [.slice A3 (bs.length + 1) k3] (0, 0) :: .blk c1 3 [.int .i64 ((d + 1 : Nat) : Int)] (0, 0) :: .blk c2 26 [.slice (some ac) (au (fx.ns.take (i + 1))) a] (0, 0) :: .blk b9 95 [.func (.func 120) #[] #[.pointer (some ⟨b1, 0, none⟩), .pointer (some ⟨b3, 0, none⟩)]] (0, 0) :: .blk b3 39 [.bool (nR (1 - tq.d)).neg, .string (nR (1 - tq.d)).bP, .int .i64 (nR (1 - tq.d)).e] (0, 0) :: .blk b1 39 [.bool tq.neg, .string tq.bP, .int .i64 tq.e] (0, 0) :: .blk b4 39 [.bool false, .string (ByteArray.mk #[]), .int .i64 0] (0, 0) :: .blk b2 28 [.slice fx.A fx.n fx.a, .slice fx.B fx.m fx.b] (0, 0) :: (R ++ O)) w')
       rfl rfl rfl rfl rfl rfl rfl (by kernel_rfl) (by kernel_rfl) (by kernel_rfl) (by kernel_rfl) (by kernel_rfl) (by kernel_rfl) (by kernel_rfl) (by kernel_rfl) (by kernel_rfl) (by kernel_rfl) (by kernel_rfl) (by kernel_rfl) (by kernel_rfl) (by kernel_rfl) ?s0 ?s1 ?s2 ?s3 ?s4 ?s5 ?s6 ?fin ?st
      case st => exact ⟨rfl, rfl, rfl, fun h => (by cases h), fun h => (by cases h), fun h => (by cases h), fun h => (by cases h), [], hst2, fun h => (by cases h)⟩
      case s0 =>
       rintro a b e g ρ w3 ⟨h9, h10, h11, -, h49, h50, h51, R52, hp, h52⟩
       have hp2 := hp.sub (List.sublist_append_right R52 _)
       refine aK aD.out h10 (hp2.eS (i := 1) (o := 0) rfl rfl) (by decide) (aa ?_)
       refine ⟨(bk _ (by decide) _).trans h9, (bk _ (by decide) _).trans h10, (bk _ (by decide) _).trans h11, fun _ => fJ _ _ _, fun h => (bk _ (by decide) _).trans (h49 h), fun h => (bk _ (by decide) _).trans (h50 h), fun h => (bk _ (by decide) _).trans (h51 h), R52, hp, fun h => ?_⟩
       obtain ⟨g52, h1, h2⟩ := h52 h
       exact ⟨g52, (bk _ (by decide) _).trans h1, h2⟩
      case s1 =>
       rintro c b ρ w3 ⟨h9, h10, h11, h48, -, h50, h51, R52, hp, h52⟩
       have hp2 := hp.sub (List.sublist_append_right R52 _)
       refine aK aD.out h9 (hp2.eS (i := 4) (o := 0) rfl rfl) (by decide) (aa ?_)
       exact ⟨(bk _ (by decide) _).trans h9, (bk _ (by decide) _).trans h10, (bk _ (by decide) _).trans h11, fun h => (bk _ (by decide) _).trans (h48 h), fun _ => fJ _ _ _, fun h => (bk _ (by decide) _).trans (h50 h), fun h => (by cases h), R52, hp, fun h => (by cases h)⟩
      case s2 =>
       rintro c a ρ w3 ⟨h9, h10, h11, h48, h49, -, h51, R52, hp, h52⟩
       refine a8 rfl rfl (by decide) (j0 h11) (aa ?_)
       exact ⟨(bk _ (by decide) _).trans h9, (bk _ (by decide) _).trans h10, (bk _ (by decide) _).trans h11, fun h => (bk _ (by decide) _).trans (h48 h), fun h => (bk _ (by decide) _).trans (h49 h), fun _ => fJ _ _ _, fun h => (by cases h), R52, hp, fun h => (by cases h)⟩
      case s3 =>
       rintro c ρ w3 ⟨h9, h10, h11, h48, h49, h50, -, R52, hp, h52⟩
       have hp2 := hp.sub (List.sublist_append_right R52 _)
       have hp3 : Hp w ([_, _, _, _, _, _, _, _, _] ++ R) w3 := hp2.sub (by repeat (first | exact List.sublist_append_left _ _ | apply List.Sublist.cons_cons))
       have hl3 := (hrd _ w3 hp3).part (qq.val * (d + 1)) (d + 1) hq1 (by omega)
       rw [oX] at hl3
       refine iE (first := []) (cap := [_, _]) (hfo w3 (hT.hp hp2) hl3 (hp2.ax (i := 6) (n := 3) rfl rfl) (hp2.ax (i := 5) (n := 3) rfl rfl)) av.out (h49 rfl) (congrArg (fun l => [] ++ (l ++ [_, _])) (bj (show ev ρ (Operand.tmp 50) = _ from h50 rfl) cj)) (by decide) ?_
       rintro e_ w5 ⟨rfl, hb_⟩
       refine ⟨_, rfl, aa ?_⟩
       exact ⟨(bk _ (by decide) _).trans h9, (bk _ (by decide) _).trans h10, (bk _ (by decide) _).trans h11, fun h => (bk _ (by decide) _).trans (h48 h), fun h => (bk _ (by decide) _).trans (h49 h), fun h => (bk _ (by decide) _).trans (h50 h), fun _ => fJ _ _ _, R52, hp.ext hb_, fun h => (by cases h)⟩
      case s4 =>
       rintro c ρ w3 ⟨h9, h10, h11, h48, h49, h50, h51, R52, hp, -⟩
       have hp2 := hp.sub (List.sublist_append_right R52 _)
       refine aG hp2 (cs := [_, _, _]) aH.out aD.out (aF (show ev ρ (Operand.tmp 51) = _ from h51 rfl) bE) rfl rfl (by decide) (by decide) (by decide) rfl (by decide) ?_
       intro g52 w5 hp5
       refine aa ?_
       exact ⟨(bk _ (by decide) _).trans h9, (bk _ (by decide) _).trans h10, (bk _ (by decide) _).trans h11, fun h => (bk _ (by decide) _).trans (h48 h), fun h => (bk _ (by decide) _).trans (h49 h), fun h => (bk _ (by decide) _).trans (h50 h), fun h => (bk _ (by decide) _).trans (h51 h), [_], hp5, fun _ => ⟨g52, fJ _ _ _, rfl⟩⟩
      case s5 =>
       rintro ρ w3 ⟨h9, h10, h11, h48, h49, h50, h51, R52, hp, h52⟩
       obtain ⟨g52, h52', rfl⟩ := h52 rfl
       refine dL hp (i := 1) rfl (show ev ρ (Operand.tmp 48) = _ from h48 rfl) (show ev ρ (Operand.tmp 52) = _ from h52') (hp.aQ (i := 0) rfl) aH.out aD.out rfl (by decide) (cD NR.one [nR y]) (by omega) (by omega) (by decide) ?_
       intro A3 k3 w5 hp5
       refine aa ⟨(bk _ (by decide) _).trans h10, A3, k3, fJ _ _ _, ?_⟩
       exact hp5.sub (List.sublist_cons_self _ _)
      case s6 =>
       rintro ρ w3 ⟨h10, A3, k3, h53, hp⟩
       refine qv hp h10 (i := 1) rfl h53 rfl aD.out rfl (by simp) rfl ?_
       intro w5 hp5
       exact aa ⟨A3, k3, hp5⟩
      case fin =>
       rintro ρ ws ⟨A3, k3, hh⟩
       refine aW ?_
       subst hO
       obtain ⟨gr, rfl⟩ := hh.ed (i := 0) rfl (by omega)
       have hkeep := Hp.zQ (T' := _ :: _ :: _ :: _ :: _ :: _ :: _ :: _ :: R) hh0 (hcel _ _ _ _ _) hh rfl rfl
       have el : (bs ++ [qq]).length = bs.length + 1 := by simp
       refine ⟨hkeep, ⟨by rw [hh.eS (i := 3) (o := 0) rfl rfl, hh0.eS (i := 3) (o := 0) rfl rfl], by rw [hh.eS (i := 2) (o := 0) rfl rfl, hh0.eS (i := 2) (o := 0) rfl rfl]⟩, Y ++ [y], some ⟨gr, 0, none⟩, k3, ?_, ?_, ?_, hmk2.keeps hkeep, ?_⟩
       ·rw [el, List.length_append, hYl]; rfl
       ·intro x hx
        rcases List.mem_append.1 hx with hx | hx
        ·exact hYz x hx
        ·obtain rfl := List.mem_singleton.1 hx
         exact hfz.mono (by omega)
       ·intro h
        obtain ⟨h1, h2⟩ := uE h hbl
        rw [el, hYe h1, ← h2, aO hfa]
       ·rw [el, List.map_append, eN]
        exact hh.sub (by repeat (first | exact List.sublist_append_left _ _ | apply List.Sublist.cons_cons))
     case done =>
      rintro D bs W hD2 rfl ⟨Y, A1, k1, hYl, hYz, hYe, hmk2, hh0⟩ hDo
      have hA2 := hYe (by rw [List.take_of_length_le (Nat.le_refl _)])
      rw [List.take_of_length_le (by rw [lu, List.length_finRange]; exact Nat.le_refl _)] at hA2
      rw [List.length_finRange] at hh0
      subst hA2
      have hmk3 := hmk2.cons hmlt hh.size hD2 hDo
      have hroom := hh0.lN (i := 0) rfl
      replace hh := hh0.zF (hcel _ _ _ _ _) hmk3
      simp only [List.cons_append, List.nil_append] at hh
      refine tB fun D_ => ?_
      refine ao ?_
      refine bL hh 1 ?_
      refine aL (aE ?_)
      refine zK ?_
      refine tB fun D_ => ?_
      refine ao (mI ?_)
      refine et (aI (aE ?_))
      refine vS ?_
      replace hh := hh.sub (List.Sublist.cons_cons _ (List.Sublist.cons _ (List.Sublist.cons _ (List.Sublist.cons _ (List.Sublist.cons _ (List.Sublist.cons _ (List.Sublist.cons _ (List.Sublist.cons_cons _ (List.Sublist.cons_cons _ (List.Sublist.refl _))))))))))
      replace hh := hh.perm (List.perm_middle (l₁ := [_, _]))
      simp only [List.cons_append, List.nil_append] at hh
      replace hh := hh.perm (List.perm_middle (l₁ := [_, _]))
      simp only [List.cons_append, List.nil_append] at hh
      refine ⟨⟨i, (i : Int) - 1, ik d tq.d (au (fx.ns.take i)) X, A1, k1, .row A1 (au (fx.ns.take i)) k1 39 3 (bG NR.cells ((ik d tq.d (au (fx.ns.take i)) X).map nR)) :: R, by omega, rfl, rfl, rfl, hroom, lu _ _ _ _, fun x hx => (vB hXz vt.sz ht1 x hx).mono (by omega), ?_, fun x hx => ?_, fun H w1 h1 => ?_, hh⟩, ?_, ?_⟩
      ·rw [← sk X hd (by rw [List.getElem?_map, htq]; rfl)]
       exact hXe
      ·rcases List.mem_cons.1 hx with rfl | hx
       ·rfl
       ·exact hcR x hx
      ·exact kg (h1.own (.row A1 (au (fx.ns.take i)) k1 39 3 (bG NR.cells ((ik d tq.d (au (fx.ns.take i)) X).map nR))) (List.mem_append_right _ List.mem_cons_self))
      ·show ((i : Int) - 1 + 1).toNat < ((i : Int) + 1).toNat
       omega
      ·(repeat (first | exact aw _ _ _ | refine aA rfl ?_ | refine ar rfl ?_))
  ·have hE : su fx m2 = 1 := by unfold su; rw [if_neg (by omega), if_pos h1]
   rw [hev0 (by rw [hE]; decide), hE]
   refine k5 (N := 58) (l := [.agg #[.slice fx.A fx.n fx.a, .slice fx.B fx.m fx.b], .slice L m2 c2]) Tryz.func29 rfl rfl (by simp) ?_
   refine gA fun D_ => ?_
   refine ao ?_
   refine dw hh [_,_] ?_
   intro b2 w2 hh
   refine cu hh ?_
   intro b4 w4 hh
   refine aI (aa ?_)
   refine gA fun D_ => ?_
   refine sr ?_
   refine cP hh 1 [_,_] ?_
   refine bF hh (hck _ (hT.hp hh) hh.below) rfl ?_
   intro w13 hh
   refine aI (aa (sr (mI ?_)))
   refine dt (aa (cF (ak (ai ?_))))
   refine gA fun D_ => ?_
   refine sr (mL (aV (bK ?_)))
   refine bL hh 1 ?_
   refine aV ?_
   refine dt (aa (cT (sr ?_)))
   refine gb [_,_,_] ?_
   refine bM hh 0 [_,_,_] ?_
   intro ws hh
   replace hh : Hp _ (.blk _ _ [_, _, _] _ :: _) _ := hh
   refine aI (aa (aq (aM ?_)))
   refine lk (M := []) (vs := [.agg #[.bool false, .string (ByteArray.mk #[]), .int .i64 0], .int .i64 1]) hh (.inr rfl) rfl ?_
   intro w9 hh
   refine ⟨(aY rfl (aX (vs := [_, _, _]) aD.out (hh.ax (i := 0) (n := 3) rfl rfl) rfl) (dq (ew rfl) bC)), ?_⟩
   exact ⟨rfl, hh.below⟩
 ·have hE : su fx m2 = fx.e := by unfold su; rw [if_pos h0]
  rw [hev0 (by rw [hE]; exact h0), hE]
  refine k5 (N := 58) (l := [.agg #[.slice fx.A fx.n fx.a, .slice fx.B fx.m fx.b], .slice L m2 c2]) Tryz.func29 rfl rfl (by simp) ?_
  refine gA fun D_ => ?_
  refine ao ?_
  refine dw hh [_,_] ?_
  intro b2 w2 hh
  refine cu hh ?_
  intro b4 w4 hh
  refine aI (aa ?_)
  refine gA fun D_ => ?_
  refine sr ?_
  refine cP hh 1 [_,_] ?_
  refine bF hh (hck _ (hT.hp hh) hh.below) rfl ?_
  intro w13 hh
  refine aI (aa (sr (mI ?_)))
  refine dt (aa (cT (sr ?_)))
  refine gb [_,_,_] (mI ?_)
  refine bM hh 0 [_,_,_] ?_
  intro ws hh
  replace hh : Hp _ (.blk _ _ [_, _, _] _ :: _) _ := hh
  refine aI (aa (aq (aM ?_)))
  refine lk (M := []) (vs := [.agg #[.bool false, .string (ByteArray.mk #[]), .int .i64 0], .int .i64 fx.e]) hh (.inr rfl) rfl ?_
  intro w9 hh
  refine ⟨(aY rfl (aX (vs := [_, _, _]) aD.out (hh.ax (i := 0) (n := 3) rfl rfl) rfl) (dq (ew rfl) bC)), ?_⟩
  exact ⟨rfl, hh.below⟩
end Go.Proofs.YtioilmppidlbnaaGreatDoor
/- Plain laws: the values of forms that are raised, added, multiplied. No program in sight. -/
namespace Go.Proofs.YtioilmppidlbnaaGreatDoor
theorem oA {ns ms : List Nat} (xs ys ts : List Dyadic) (h : ns.length = ms.length) : fH (bU ns ms).reverse (fS ns ms xs ys) ts = fH ns.reverse xs ts * fH ms.reverse ys ts := by
 have := wC (ds := ns.reverse) (es := ms.reverse) (xs := xs) (ys := ys) (ts := ts) (by rw [List.length_reverse, List.length_reverse, h])
 rw [kz h, dI] at this
 rw [← this]
 unfold fS nA qS
 rw [dI ms]
theorem val_one (ds : List Nat) (ts : List Dyadic) (h : ts.length = ds.length) : fH ds.reverse ((oH ds).map nD) ts = 1 := by
 rw [← tD ds.reverse ts (by rw [List.length_reverse, h])]
 unfold fH
 refine di fun p hp => ?_
 have hp := List.mem_range.1 hp
 congr 1
 unfold oH
 rw [List.getElem?_map, List.getElem?_map, List.getElem?_range hp]
 rfl
theorem og {ns D : List Nat} {xs ts : List Dyadic} (hl : ns.length = D.length) (h : ∀ (i n t : Nat), ns[i]? = some n → D[i]? = some t → n ≤ t) (ht : ts.length = D.length) : fH D.reverse (k4 ns D xs) ts = fH ns.reverse xs ts := by
 have hs : (eA D ns).length = D.length := jc hl.symm
 have := oA (ns := ns) (ms := eA D ns) xs ((oH (eA D ns)).map nD) ts (by rw [hs, hl])
 rw [mo hl h, val_one _ _ (by rw [hs, ht])] at this
 unfold k4
 rw [this]
 grind
theorem val_add {ds : List Nat} {a b ts : List Dyadic} (h : a.length = b.length) : fH ds (gJ a b) ts = fH ds a ts + fH ds b ts := by
 unfold fH
 rw [← te]
 refine di fun p _ => ?_
 by_cases hp : p < a.length
 ·obtain ⟨x, hx⟩ := ay hp
  obtain ⟨y, hy⟩ := ay (l := b) (k := p) (by omega)
  rw [pP hx hy, hx, hy]
  show (x + y) * _ = x * _ + y * _
  grind
 ·rw [List.getElem?_eq_none (by rw [gk h]; omega), List.getElem?_eq_none (by omega), List.getElem?_eq_none (by omega)]
  show (0 : Dyadic) * _ = 0 * _ + 0 * _
  grind
theorem iq (a b : List Nat) : bU a b = bU b a := by
 unfold bU
 exact List.zipWith_comm_of_comm fun x y => Nat.add_comm x y
theorem rY {ns ms : List Nat} (xs ys : List Dyadic) (hx : xs.length = au ns) (hy : ys.length = au ms) : fS ns ms xs ys = fS ms ns ys xs := by
 unfold fS
 rw [iq ms ns]
 unfold fM
 refine List.map_congr_left fun p _ => ?_
 unfold nA
 rw [j5, j5]
 simp only [rU]
 rw [tN, dI, dI]
 refine di fun i _ => di fun k _ => ?_
 rw [jJ (bY ns.reverse i), iq, ← jJ, jJ ns.reverse, iq ns.reverse, ← jJ, Dyadic.mul_comm]
theorem uV (ns ms : List Nat) (xs ys : List Dyadic) : (fS ns ms xs ys).length = au (bU ns ms) := gm _ _
theorem qN {ns ms : List Nat} {xs ys : List Dyadic} {k1 k2 : Nat} (hx : ∀ x ∈ xs, Sz k1 x) (hy : ∀ y ∈ ys, Sz k2 y) : ∀ x ∈ fS ns ms xs ys, Sz (k1 + k2 + au ms * au ns) x := fun x h => by
 have := qa (N := au (bU ns ms)) (qi (ds := ns.reverse) (es := ms.reverse) hx hy (au ms)) x h
 rwa [p5, dI] at this
theorem uQ {ns D : List Nat} {xs : List Dyadic} {k : Nat} (hx : ∀ x ∈ xs, Sz k x) (hl : ns.length = D.length) (h12 : D.length ≤ 12) (hD : ∀ d ∈ D, d ≤ 127) : ∀ x ∈ k4 ns D xs, Sz (k + 1600 + au (eA D ns) * au ns) x := fun x h => by
 have hs : (eA D ns).length = D.length := jc hl.symm
 have hsb : ∀ d ∈ eA D ns, d ≤ 127 := fun d hd => by
  obtain ⟨i, hi⟩ := List.mem_iff_getElem?.1 hd
  have hi2 := (List.getElem?_eq_some_iff.1 hi).1
  obtain ⟨a, ha⟩ := ay (l := D) (k := i) (by omega)
  obtain ⟨b, hb⟩ := ay (l := ns) (k := i) (by omega)
  rw [mj ha hb] at hi
  have := hD a (List.mem_of_getElem? ha)
  have := Option.some.inj hi
  omega
 exact qN hx (fun y hy => by
  obtain ⟨z, hz, rfl⟩ := List.mem_map.1 hy
  exact um hz (by omega) hsb) x h
theorem mM : ∀ {ds : List Nat} {d : Nat}, d ∈ ds → d + 1 ≤ au ds
 | e :: ds, d, h => by
  rw [au]
  rcases List.mem_cons.1 h with rfl | h
  ·exact Nat.le_mul_of_pos_right _ (eO ds)
  ·exact Nat.le_trans (mM h) (Nat.le_mul_of_pos_left _ (by omega))
end Go.Proofs.YtioilmppidlbnaaGreatDoor
/- The walks through ogeelaw14's own helpers: what is more than is reckoned with. -/
namespace Go.Proofs.YtioilmppidlbnaaGreatDoor
open Go.RowKit
def nC (a : NR) : Bool := decide ((8 : Int) < a.bP.size ∨ a.e < -60 ∨ 60 < a.e)
theorem nJ (a : NR) (w : World) :
  Calls Tryz.prog 22 #[.agg #[.bool a.neg, .string a.bP, .int .i64 a.e]] w fun r w' => r = .returned (.bool (nC a)) ∧ Below w.heap.size w w' := by
 have hh := Hp.start w
 by_cases h1 : (8 : Int) < a.bP.size
 ·refine al (N := 18) (l := [.agg #[.bool a.neg, .string a.bP, .int .i64 a.e]]) Tryz.func22 rfl rfl (by simp) ?_
  refine sr ?_
  refine dw hh [_,_,_] ?_
  intro b1 w1 hh
  refine aB (aa (sr (bK (bK ?_))))
  refine bL hh 0 ?_
  refine cK aH.out rfl (by decide) ?_
  refine bQ (mB ?_)
  first | refine gS ?_ | (refine gT ?_; refine bK ?_) | refine gV ?_
  first | refine gS ?_ | (refine gT ?_; refine bL hh 0 ?_) | refine gV ?_
  first | refine gS ?_ | (refine gT ?_; refine aJ ?_) | refine gV ?_
  first | refine dh ?_ | refine de ?_
  refine mB ?_
  first | refine gS ?_ | (refine gT ?_; refine bK ?_) | refine gV ?_
  first | refine gS ?_ | (refine gT ?_; refine bL hh 0 ?_) | refine gV ?_
  first | refine gS ?_ | (refine gT ?_; refine bQ ?_) | refine gV ?_
  first | refine dh ?_ | refine de ?_
  refine aB (aa (aq ?_))
  refine ck ?_
  refine ⟨?_, hh.below⟩
  unfold nC
  rw [decide_eq_true (.inl h1)]
 ·by_cases h2 : a.e < -60
  ·refine al (N := 18) (l := [.agg #[.bool a.neg, .string a.bP, .int .i64 a.e]]) Tryz.func22 rfl rfl (by simp) ?_
   refine sr ?_
   refine dw hh [_,_,_] ?_
   intro b1 w1 hh
   refine aB (aa (sr (bK (bK ?_))))
   refine bL hh 0 ?_
   refine cK aH.out rfl (by decide) ?_
   refine bQ (mB ?_)
   first | refine gS ?_ | (refine gT ?_; refine bK ?_) | refine gV ?_
   first | refine gS ?_ | (refine gT ?_; refine bL hh 0 ?_) | refine gV ?_
   first | refine gS ?_ | (refine gT ?_; refine aJ ?_) | refine gV ?_
   first | refine dh ?_ | refine de ?_
   refine mB ?_
   first | refine gS ?_ | (refine gT ?_; refine bK ?_) | refine gV ?_
   first | refine gS ?_ | (refine gT ?_; refine bL hh 0 ?_) | refine gV ?_
   first | refine gS ?_ | (refine gT ?_; refine bQ ?_) | refine gV ?_
   first | refine dh ?_ | refine de ?_
   refine aB (aa (aq ?_))
   refine ck ?_
   refine ⟨?_, hh.below⟩
   unfold nC
   rw [decide_eq_true (.inr (.inl h2))]
  ·by_cases h3 : 60 < a.e
   ·refine al (N := 18) (l := [.agg #[.bool a.neg, .string a.bP, .int .i64 a.e]]) Tryz.func22 rfl rfl (by simp) ?_
    refine sr ?_
    refine dw hh [_,_,_] ?_
    intro b1 w1 hh
    refine aB (aa (sr (bK (bK ?_))))
    refine bL hh 0 ?_
    refine cK aH.out rfl (by decide) ?_
    refine bQ (mB ?_)
    first | refine gS ?_ | (refine gT ?_; refine bK ?_) | refine gV ?_
    first | refine gS ?_ | (refine gT ?_; refine bL hh 0 ?_) | refine gV ?_
    first | refine gS ?_ | (refine gT ?_; refine aJ ?_) | refine gV ?_
    first | refine dh ?_ | refine de ?_
    refine mB ?_
    first | refine gS ?_ | (refine gT ?_; refine bK ?_) | refine gV ?_
    first | refine gS ?_ | (refine gT ?_; refine bL hh 0 ?_) | refine gV ?_
    first | refine gS ?_ | (refine gT ?_; refine bQ ?_) | refine gV ?_
    first | refine dh ?_ | refine de ?_
    refine aB (aa (aq ?_))
    refine ck ?_
    refine ⟨?_, hh.below⟩
    unfold nC
    rw [decide_eq_true (.inr (.inr h3))]
   ·refine al (N := 18) (l := [.agg #[.bool a.neg, .string a.bP, .int .i64 a.e]]) Tryz.func22 rfl rfl (by simp) ?_
    refine sr ?_
    refine dw hh [_,_,_] ?_
    intro b1 w1 hh
    refine aB (aa (sr (bK (bK ?_))))
    refine bL hh 0 ?_
    refine cK aH.out rfl (by decide) ?_
    refine bQ (mB ?_)
    first | refine gS ?_ | (refine gT ?_; refine bK ?_) | refine gV ?_
    first | refine gS ?_ | (refine gT ?_; refine bL hh 0 ?_) | refine gV ?_
    first | refine gS ?_ | (refine gT ?_; refine aJ ?_) | refine gV ?_
    first | refine dh ?_ | refine de ?_
    refine mB ?_
    first | refine gS ?_ | (refine gT ?_; refine bK ?_) | refine gV ?_
    first | refine gS ?_ | (refine gT ?_; refine bL hh 0 ?_) | refine gV ?_
    first | refine gS ?_ | (refine gT ?_; refine bQ ?_) | refine gV ?_
    first | refine dh ?_ | refine de ?_
    refine aB (aa (aq ?_))
    refine ck ?_
    refine ⟨?_, hh.below⟩
    unfold nC
    rw [decide_eq_false (by omega)]
theorem Av {a : NR} (h : nC a = false) : a.ok ∧ Sz 124 a.d := by
 have h' := of_decide_eq_false h
 have h1 : (a.bP.size : Int) ≤ 8 := by omega
 have h2 : -60 ≤ a.e := by omega
 have h3 : a.e ≤ 60 := by omega
 exact ⟨⟨by omega, by omega, by omega⟩, Sz.raw (m := 64) (E := 60) (by omega) h2 h3⟩
def FX.small (f : FX) : Prop := f.iA 124 ∧ f.m ≤ 60 ∧ f.n ≤ 20
theorem pe (f : FX) (w : World) (hf : f.at_ w) :
  Calls Tryz.prog 20 #[.agg #[.slice f.A f.n f.a, .slice f.B f.m f.b]] w fun r w' => ∃ b : Bool, r = .returned (.bool b) ∧ (b = false → f.small) ∧ Below w.heap.size w w' := by
 have hh := Hp.start w
 have hl1 := hf.ln.1
 have hl2 := hf.ln.2
 by_cases h1 : 20 < f.n
 ·refine al (N := 49) (l := [.agg #[.slice f.A f.n f.a, .slice f.B f.m f.b]]) Tryz.func20 rfl rfl (by simp) ?_
  refine sr ?_
  refine dw hh [_,_] ?_
  intro b1 w1 hh
  refine aB (aa (ah (sr (bK ?_))))
  refine bL hh 0 ?_
  refine aV ?_
  refine bQ (mB ?_)
  first | refine gS ?_ | (refine gT ?_; refine bK ?_) | refine gV ?_
  first | refine gS ?_ | (refine gT ?_; refine bL hh 0 ?_) | refine gV ?_
  first | refine gS ?_ | (refine gT ?_; refine aV ?_) | refine gV ?_
  first | refine gS ?_ | (refine gT ?_; refine bQ ?_) | refine gV ?_
  first | refine dh ?_ | refine de ?_
  refine aa ?_
  refine cT (sr (aB (aa (aq (aM ?_)))))
  refine ck ?_
  exact ⟨_, rfl, fun h => (by cases h), hh.below⟩
 ·by_cases h2 : 60 < f.m
  ·refine al (N := 49) (l := [.agg #[.slice f.A f.n f.a, .slice f.B f.m f.b]]) Tryz.func20 rfl rfl (by simp) ?_
   refine sr ?_
   refine dw hh [_,_] ?_
   intro b1 w1 hh
   refine aB (aa (ah (sr (bK ?_))))
   refine bL hh 0 ?_
   refine aV ?_
   refine bQ (mB ?_)
   first | refine gS ?_ | (refine gT ?_; refine bK ?_) | refine gV ?_
   first | refine gS ?_ | (refine gT ?_; refine bL hh 0 ?_) | refine gV ?_
   first | refine gS ?_ | (refine gT ?_; refine aV ?_) | refine gV ?_
   first | refine gS ?_ | (refine gT ?_; refine bQ ?_) | refine gV ?_
   first | refine dh ?_ | refine de ?_
   refine aa ?_
   refine cT (sr (aB (aa (aq (aM ?_)))))
   refine ck ?_
   exact ⟨_, rfl, fun h => (by cases h), hh.below⟩
  ·refine al (N := 49) (l := [.agg #[.slice f.A f.n f.a, .slice f.B f.m f.b]]) Tryz.func20 rfl rfl (by simp) ?_
   refine sr ?_
   refine dw hh [_,_] ?_
   intro b1 w1 hh
   refine aB (aa (ah (sr (bK ?_))))
   refine bL hh 0 ?_
   refine aV ?_
   refine bQ (mB ?_)
   first | refine gS ?_ | (refine gT ?_; refine bK ?_) | refine gV ?_
   first | refine gS ?_ | (refine gT ?_; refine bL hh 0 ?_) | refine gV ?_
   first | refine gS ?_ | (refine gT ?_; refine aV ?_) | refine gV ?_
   first | refine gS ?_ | (refine gT ?_; refine bQ ?_) | refine gV ?_
   first | refine dh ?_ | refine de ?_
   refine aa ?_
   refine cF (ak (ai (ah (sr (aI (aa (aj ?_)))))))
   refine bo [2, 3, 15, 16, 17, 18, 19, 20, 21, 22, 23, 24, 25, 26, 27] 3
    (fun v w' => ∃ i : Nat, i ≤ f.m ∧ v = .int .i64 i ∧ (∀ x ∈ f.cs.take i, nC x = false) ∧ Hp w [.blk b1 28 [.slice f.A f.n f.a, .slice f.B f.m f.b] (0, 0)] w')
    (fun v _ => f.m - (intOf v).toNat) ?_ ?_
   ·exact ⟨0, Nat.zero_le _, rfl, fun x hx => (by simp at hx), hh⟩
   ·clear hh
    rintro ρ' v w' ⟨i, hi, rfl, hall, hh⟩
    by_cases hlt : i < f.m
    ·obtain ⟨x, hx⟩ := ay (l := f.cs) (k := i) (by omega)
     obtain ⟨a2, hA2, s2⟩ := hf.nm.at_ (by omega)
     have hev : Value.slice f.B f.m f.b = .slice (some a2) f.m f.b := by rw [hA2]
     have hc := fun w1 => nJ x w1
     cases hb : nC x with
     | true =>
      rw [hb] at hc
      refine ah (sr (mI (bK ?_)))
      refine bL hh 0 ?_
      refine aV ?_
      refine aJ (aa (cT (ak (ai (ah (aj (sr (bK ?_))))))))
      refine bL hh 0 ?_
      refine mI ?_
      refine aC (k := i) aH.out aD.size hev rfl (by omega) (by omega) (by decide) ?_
      refine cI (vs := [_, _, _]) aD.out rfl ((s2.ext hh.below).recAt NR.len hx) rfl (by decide) ?_
      refine bF hh (hc _) rfl ?_
      intro w27 hh
      refine aa (cT (sr (aB (aa (aq (bO (aM (aM (bO (aM ?_))))))))))
      refine ck ?_
      exact ⟨_, rfl, fun h => (by cases h), hh.below⟩
     | false =>
      rw [hb] at hc
      refine ah (sr (mI (bK ?_)))
      refine bL hh 0 ?_
      refine aV ?_
      refine aJ (aa (cT (ak (ai (ah (aj (sr (bK ?_))))))))
      refine bL hh 0 ?_
      refine mI ?_
      refine aC (k := i) aH.out aD.size hev rfl (by omega) (by omega) (by decide) ?_
      refine cI (vs := [_, _, _]) aD.out rfl ((s2.ext hh.below).recAt NR.len hx) rfl (by decide) ?_
      refine bF hh (hc _) rfl ?_
      intro w27 hh
      refine aa (cF (ak (aW (ai (ao (mI ?_))))))
      refine bx (aI (aE (ai ?_)))
      refine ⟨⟨i + 1, by omega, rfl, fun y hy => ?_, hh⟩, by show f.m - (i + 1) < f.m - i; omega, ?_⟩
      ·rw [aO hx, List.mem_append, List.mem_singleton] at hy
       rcases hy with hy | rfl
       ·exact hall y hy
       ·exact hb
      ·(repeat (first | exact aw _ _ _ | refine aA rfl ?_ | refine ar rfl ?_))
    ·rw [List.take_of_length_le (by omega)] at hall
     have hfin : f.small := ⟨⟨by omega, by omega, fun c hc => Av (hall c hc)⟩, by omega, by omega⟩
     clear hall
     refine ah (sr (mI (bK ?_)))
     refine bL hh 0 ?_
     refine aV ?_
     refine aJ (aa (cF ?_))
     refine aN ?_
     refine az (az (a7 (ai (ah (sr (aI (aa (aj ?_))))))))
     refine bo [2, 4, 28, 29, 30, 31, 32, 33, 34, 35, 36, 37, 38, 39, 40, 41, 42, 43, 44, 45, 46, 47, 48] 4
      (fun v w' => ∃ i : Nat, i ≤ f.n ∧ v = .int .i64 i ∧ Hp w [.blk b1 28 [.slice f.A f.n f.a, .slice f.B f.m f.b] (0, 0)] w')
      (fun v _ => f.n - (intOf v).toNat) ?_ ?_
     ·exact ⟨0, Nat.zero_le _, rfl, hh⟩
     ·clear hh
      rintro ρ2 v w2 ⟨j, hj, rfl, hh⟩
      by_cases hlt2 : j < f.n
      ·obtain ⟨d, hd⟩ := ay (l := f.ds) (k := j) (by omega)
       have hgd := bX hd
       obtain ⟨a1, hA1, s1⟩ := hf.dg.at_ (by omega)
       have hev : Value.slice f.A f.n f.a = .slice (some a1) f.n f.a := by rw [hA1]
       by_cases h6 : 6 < d
       ·by_cases h128 : d < 128
        ·refine ah (sr (mI (bK ?_)))
         refine bL hh 0 ?_
         refine aV ?_
         refine aJ (aa (cT (ak (ai (ah (aj (sr (bK ?_))))))))
         refine bL hh 0 ?_
         refine mI ?_
         refine aC (k := j) aH.out aD.size hev rfl (by omega) (by omega) (by decide) ?_
         refine aK aD.out rfl ((s1.ext hh.below).eC hgd) (by decide) ?_
         refine bQ (mB ?_)
         first | refine gS ?_ | (refine gT ?_; refine bK ?_) | refine gV ?_
         first | refine gS ?_ | (refine gT ?_; refine bL hh 0 ?_) | refine gV ?_
         first | refine gS ?_ | (refine gT ?_; refine mI ?_) | refine gV ?_
         first | refine gS ?_ | (refine gT ?_; refine aC (k := j) aH.out aD.size hev rfl (by omega) (by omega) (by decide) ?_) | refine gV ?_
         refine aZ rfl rfl ?_
         refine aK aD.out rfl ((s1.ext hh.below).eC hgd) (by decide) ?_
         first | refine gS ?_ | (refine gT ?_; refine aJ ?_) | refine gV ?_
         first | refine dh ?_ | refine de ?_
         refine aa (cT (sr (aB (aa (aq (bO (aM (aM (bO (aM ?_))))))))))
         refine ck ?_
         exact ⟨_, rfl, fun h => (by cases h), hh.below⟩
        ·refine ah (sr (mI (bK ?_)))
         refine bL hh 0 ?_
         refine aV ?_
         refine aJ (aa (cT (ak (ai (ah (aj (sr (bK ?_))))))))
         refine bL hh 0 ?_
         refine mI ?_
         refine aC (k := j) aH.out aD.size hev rfl (by omega) (by omega) (by decide) ?_
         refine aK aD.out rfl ((s1.ext hh.below).eC hgd) (by decide) ?_
         refine bQ (mB ?_)
         first | refine gS ?_ | (refine gT ?_; refine bK ?_) | refine gV ?_
         first | refine gS ?_ | (refine gT ?_; refine bL hh 0 ?_) | refine gV ?_
         first | refine gS ?_ | (refine gT ?_; refine mI ?_) | refine gV ?_
         first | refine gS ?_ | (refine gT ?_; refine aC (k := j) aH.out aD.size hev rfl (by omega) (by omega) (by decide) ?_) | refine gV ?_
         refine aZ rfl rfl ?_
         refine aK aD.out rfl ((s1.ext hh.below).eC hgd) (by decide) ?_
         first | refine gS ?_ | (refine gT ?_; refine aJ ?_) | refine gV ?_
         first | refine dh ?_ | refine de ?_
         refine aa (cF (ak (aW (ai (ao (mI ?_))))))
         refine bx (aI (aE (ai ?_)))
         refine ⟨⟨j + 1, by omega, rfl, hh⟩, by show f.n - (j + 1) < f.n - j; omega, ?_⟩
         (repeat (first | exact aw _ _ _ | refine aA rfl ?_ | refine ar rfl ?_))
       ·refine ah (sr (mI (bK ?_)))
        refine bL hh 0 ?_
        refine aV ?_
        refine aJ (aa (cT (ak (ai (ah (aj (sr (bK ?_))))))))
        refine bL hh 0 ?_
        refine mI ?_
        refine aC (k := j) aH.out aD.size hev rfl (by omega) (by omega) (by decide) ?_
        refine aK aD.out rfl ((s1.ext hh.below).eC hgd) (by decide) ?_
        refine bQ (mB ?_)
        first | refine gS ?_ | (refine gT ?_; refine bK ?_) | refine gV ?_
        first | refine gS ?_ | (refine gT ?_; refine bL hh 0 ?_) | refine gV ?_
        first | refine gS ?_ | (refine gT ?_; refine mI ?_) | refine gV ?_
        first | refine gS ?_ | (refine gT ?_; refine gu aH.out aD.size rfl rfl (by omega) (by omega) (by decide) ?_) | refine gV ?_
        first | (refine bZ (by decide) rfl rfl (by decide) ?_) | (refine wl_guard_skipV (by decide) rfl rfl ?_)
        first | refine gS ?_ | (refine gT ?_; refine aJ ?_) | refine gV ?_
        first | refine dh ?_ | refine de ?_
        refine aa (cF (ak (aW (ai (ao (mI ?_))))))
        refine bx (aI (aE (ai ?_)))
        refine ⟨⟨j + 1, by omega, rfl, hh⟩, by show f.n - (j + 1) < f.n - j; omega, ?_⟩
        (repeat (first | exact aw _ _ _ | refine aA rfl ?_ | refine ar rfl ?_))
      ·refine ah (sr (mI (bK ?_)))
       refine bL hh 0 ?_
       refine aV ?_
       refine aJ (aa (cF ?_))
       refine aN ?_
       refine az (az (a7 (ai (sr (aB (aa (aq ?_)))))))
       refine ck ?_
       exact ⟨_, rfl, fun _ => hfin, hh.below⟩
theorem pL (A : Option Addr) (n c : Nat) (ds : List Int) (w : World) (hS : Sl w A n 1 (bI ds)) :
  Calls Tryz.prog 21 #[.slice A n c] w fun r w' => ∃ b : Bool, r = .returned (.bool b) ∧ (b = false → n ≤ 20) ∧ Below w.heap.size w w' := by
 have hh := Hp.start w
 have hln : ds.length = n := by have := hS.1; simpa [bI] using this
 by_cases h1 : 20 < n
 ·refine al (N := 38) (l := [.slice A n c]) Tryz.func21 rfl rfl (by simp) ?_
  refine sr (aB (aa (ah (sr (mL (aV ?_))))))
  refine bQ (aa (cT (sr (aB (aa (aq (aM ?_)))))))
  refine ck ?_
  exact ⟨_, rfl, fun h => (by cases h), hh.below⟩
 ·have hc := fun w1 hb => nX A n c ds w1 (hS.ext hb) (by omega)
  generalize y9 ds = q at *
  refine al (N := 38) (l := [.slice A n c]) Tryz.func21 rfl rfl (by simp) ?_
  refine sr (aB (aa (ah (sr (mL (aV ?_))))))
  refine bQ (aa (cF (ak (ai (sr (mL ?_))))))
  refine bF hh (hc _ hh.below) rfl ?_
  intro w9 hh
  refine aI (aa (ah (sr (aI (aa (aj ?_))))))
  refine bo [2, 4, 10, 11, 12, 13, 14, 15, 16, 17, 18, 19, 20, 21, 22, 23, 24, 25, 26, 27, 28, 29, 30, 31] 4
   (fun v w' => ∃ i : Nat, i ≤ n ∧ v = .int .i64 i ∧ Hp w [] w')
   (fun v _ => n - (intOf v).toNat) ?_ ?_
  ·exact ⟨0, Nat.zero_le _, rfl, hh⟩
  ·clear hh
   rintro ρ2 v w2 ⟨j, hj, rfl, hh⟩
   by_cases hlt : j < n
   ·obtain ⟨d, hd⟩ := ay (l := ds) (k := j) (by omega)
    have hgd := bX hd
    obtain ⟨a1, rfl, hr⟩ := hS.at_ (by omega)
    by_cases h6 : 8 < d
    ·by_cases h128 : d < 128
     ·by_cases h4 : q ≤ 4096
      ·refine ah (sr (mI (mL (aV ?_))))
       refine aJ (aa (cT (ak (ai (ah (aj (sr (mL (mI ?_)))))))))
       refine aC (k := j) aH.out aD.size rfl rfl (by omega) (by omega) (by decide) ?_
       refine aK aD.out rfl ((hr.ext hh.below).eC (by assumption)) (by decide) ?_
       refine bQ (mB ?_)
       first | refine gS ?_ | (refine gT ?_; refine mL ?_) | refine gV ?_
       first | refine gS ?_ | (refine gT ?_; refine mI ?_) | refine gV ?_
       first | refine gS ?_ | (refine gT ?_; refine aC (k := j) aH.out aD.size rfl rfl (by omega) (by omega) (by decide) ?_) | refine gV ?_
       first | refine gS ?_ | (refine gT ?_; refine aK aD.out rfl ((hr.ext hh.below).eC (by assumption)) (by decide) ?_) | refine gV ?_
       first | refine gS ?_ | (refine gT ?_; refine aJ ?_) | refine gV ?_
       first | refine dh ?_ | refine de ?_
       refine mB ?_
       first | refine gS ?_ | (refine gT ?_; refine mI ?_) | refine gV ?_
       first | refine gS ?_ | (refine gT ?_; refine uF ?_) | refine gV ?_
       first | refine dh ?_ | refine de ?_
       refine aa ?_
       refine cT (sr (aB (aa (aq (bO (aM (aM (bO (aM ?_)))))))))
       refine ck ?_
       exact ⟨_, rfl, fun h => (by cases h), hh.below⟩
      ·refine ah (sr (mI (mL (aV ?_))))
       refine aJ (aa (cT (ak (ai (ah (aj (sr (mL (mI ?_)))))))))
       refine aC (k := j) aH.out aD.size rfl rfl (by omega) (by omega) (by decide) ?_
       refine aK aD.out rfl ((hr.ext hh.below).eC (by assumption)) (by decide) ?_
       refine bQ (mB ?_)
       first | refine gS ?_ | (refine gT ?_; refine mL ?_) | refine gV ?_
       first | refine gS ?_ | (refine gT ?_; refine mI ?_) | refine gV ?_
       first | refine gS ?_ | (refine gT ?_; refine aC (k := j) aH.out aD.size rfl rfl (by omega) (by omega) (by decide) ?_) | refine gV ?_
       first | refine gS ?_ | (refine gT ?_; refine aK aD.out rfl ((hr.ext hh.below).eC (by assumption)) (by decide) ?_) | refine gV ?_
       first | refine gS ?_ | (refine gT ?_; refine aJ ?_) | refine gV ?_
       first | refine dh ?_ | refine de ?_
       refine mB ?_
       first | refine gS ?_ | (refine gT ?_; refine mI ?_) | refine gV ?_
       first | refine gS ?_ | (refine gT ?_; refine uF ?_) | refine gV ?_
       first | refine dh ?_ | refine de ?_
       refine aa ?_
       refine cF (ak (aW (ai (ao (mI ?_)))))
       refine bx (aI (aE (ai ?_)))
       refine ⟨⟨j + 1, by omega, rfl, hh⟩, by show n - (j + 1) < n - j; omega, ?_⟩
       (repeat (first | exact aw _ _ _ | refine aA rfl ?_ | refine ar rfl ?_))
     ·refine ah (sr (mI (mL (aV ?_))))
      refine aJ (aa (cT (ak (ai (ah (aj (sr (mL (mI ?_)))))))))
      refine aC (k := j) aH.out aD.size rfl rfl (by omega) (by omega) (by decide) ?_
      refine aK aD.out rfl ((hr.ext hh.below).eC (by assumption)) (by decide) ?_
      refine bQ (mB ?_)
      first | refine gS ?_ | (refine gT ?_; refine mL ?_) | refine gV ?_
      first | refine gS ?_ | (refine gT ?_; refine mI ?_) | refine gV ?_
      first | refine gS ?_ | (refine gT ?_; refine aC (k := j) aH.out aD.size rfl rfl (by omega) (by omega) (by decide) ?_) | refine gV ?_
      first | refine gS ?_ | (refine gT ?_; refine aK aD.out rfl ((hr.ext hh.below).eC (by assumption)) (by decide) ?_) | refine gV ?_
      first | refine gS ?_ | (refine gT ?_; refine aJ ?_) | refine gV ?_
      first | refine dh ?_ | refine de ?_
      refine mB ?_
      first | refine gS ?_ | (refine gT ?_; refine mI ?_) | refine gV ?_
      first | refine gS ?_ | (refine gT ?_; refine uF ?_) | refine gV ?_
      first | refine dh ?_ | refine de ?_
      refine aa ?_
      refine cF (ak (aW (ai (ao (mI ?_)))))
      refine bx (aI (aE (ai ?_)))
      refine ⟨⟨j + 1, by omega, rfl, hh⟩, by show n - (j + 1) < n - j; omega, ?_⟩
      (repeat (first | exact aw _ _ _ | refine aA rfl ?_ | refine ar rfl ?_))
    ·refine ah (sr (mI (mL (aV ?_))))
     refine aJ (aa (cT (ak (ai (ah (aj (sr (mL (mI ?_)))))))))
     refine aC (k := j) aH.out aD.size rfl rfl (by omega) (by omega) (by decide) ?_
     refine aK aD.out rfl ((hr.ext hh.below).eC (by assumption)) (by decide) ?_
     refine bQ (mB ?_)
     first | refine gS ?_ | (refine gT ?_; refine mL ?_) | refine gV ?_
     first | refine gS ?_ | (refine gT ?_; refine mI ?_) | refine gV ?_
     first | refine gS ?_ | (refine gT ?_; refine aC (k := j) aH.out aD.size rfl rfl (by omega) (by omega) (by decide) ?_) | refine gV ?_
     first | refine gS ?_ | (refine gT ?_; refine aK aD.out rfl ((hr.ext hh.below).eC (by assumption)) (by decide) ?_) | refine gV ?_
     first | refine gS ?_ | (refine gT ?_; refine aJ ?_) | refine gV ?_
     first | refine dh ?_ | refine de ?_
     refine mB ?_
     first | refine gS ?_ | (refine gT ?_; refine mI ?_) | refine gV ?_
     first | refine gS ?_ | (refine gT ?_; refine uF ?_) | refine gV ?_
     first | refine dh ?_ | refine de ?_
     refine aa ?_
     refine cF (ak (aW (ai (ao (mI ?_)))))
     refine bx (aI (aE (ai ?_)))
     refine ⟨⟨j + 1, by omega, rfl, hh⟩, by show n - (j + 1) < n - j; omega, ?_⟩
     (repeat (first | exact aw _ _ _ | refine aA rfl ?_ | refine ar rfl ?_))
   ·by_cases h3 : 300 < q
    ·refine ah (sr (mI (mL (aV ?_))))
     refine aJ (aa (cF ?_))
     refine aN ?_
     refine az (az (a7 (ai (sr (mI ?_)))))
     refine bQ (mB ?_)
     first | refine gS ?_ | (refine gT ?_; refine mI ?_) | refine gV ?_
     first | refine gS ?_ | (refine gT ?_; refine uF ?_) | refine gV ?_
     first | refine dh ?_ | refine de ?_
     refine aB (aa (aq ?_))
     refine ck ?_
     exact ⟨_, rfl, fun _ => by omega, hh.below⟩
    ·refine ah (sr (mI (mL (aV ?_))))
     refine aJ (aa (cF ?_))
     refine aN ?_
     refine az (az (a7 (ai (sr (mI ?_)))))
     refine bQ (mB ?_)
     first | refine gS ?_ | (refine gT ?_; refine mI ?_) | refine gV ?_
     first | refine gS ?_ | (refine gT ?_; refine uF ?_) | refine gV ?_
     first | refine dh ?_ | refine de ?_
     refine aB (aa (aq ?_))
     refine ck ?_
     exact ⟨_, rfl, fun _ => by omega, hh.below⟩
theorem qQ (L : Option Addr) (n c : Nat) (fs : List FX) (w : World) (hL : Sl w L n 2 (bG FX.cells fs)) (hf : ∀ f ∈ fs, f.at_ w) :
  Calls Tryz.prog 12 #[.slice L n c] w fun r w' => ∃ b : Bool, r = .returned (.bool b) ∧ (b = false → n ≤ 3 ∧ ∀ f ∈ fs, f.small) ∧ Below w.heap.size w w' := by
 have hh := Hp.start w
 have hln := hL.cR FX.len (by decide)
 by_cases h1 : 3 < n
 ·refine al (N := 62) (l := [.slice L n c]) Tryz.func12 rfl rfl (by simp) ?_
  refine sr (aB (aa (ah (sr (mL (aV ?_))))))
  refine bQ (aa (cT (sr (aB (aa (aq (aM ?_)))))))
  refine ck ?_
  exact ⟨_, rfl, fun h => (by cases h), hh.below⟩
 ·refine al (N := 62) (l := [.slice L n c]) Tryz.func12 rfl rfl (by simp) ?_
  refine sr (aB (aa (ah (sr (mL (aV ?_))))))
  refine bQ (aa (cF (ak (ai (ah (sr (aI (aa (aj ?_)))))))))
  refine bo [2, 3, 10, 11, 12, 13, 14, 15, 16, 17, 18, 19, 20] 3
   (fun v w' => ∃ i : Nat, i ≤ n ∧ v = .int .i64 i ∧ (∀ f ∈ fs.take i, f.small) ∧ Hp w [] w')
   (fun v _ => n - (intOf v).toNat) ?_ ?_
  ·exact ⟨0, Nat.zero_le _, rfl, fun x hx => (by simp at hx), hh⟩
  ·clear hh
   rintro ρ' v w' ⟨i, hi, rfl, hall, hh⟩
   by_cases hlt : i < n
   ·obtain ⟨f, hx⟩ := ay (l := fs) (k := i) (by omega)
    have hmem := List.mem_of_getElem? hx
    have hc := fun w1 hb => pe f w1 ((hf f hmem).ext hb)
    obtain ⟨ad, rfl, hr⟩ := hL.at_ (by omega)
    refine ah (sr (mI (mL (aV ?_))))
    refine aJ (aa (cT (ak (ai (ah (aj (sr (mL (mI ?_)))))))))
    refine aC (k := i) aH.out aD.size rfl rfl (by omega) (by omega) (by decide) ?_
    refine cI (vs := [_, _]) aD.out rfl ((hr.ext hh.below).recAt FX.len hx) rfl (by decide) ?_
    refine aR (hc _ hh.below) av.out rfl (by decide) ?_
    rintro e_ w20 ⟨b, rfl, hb, hb_⟩
    refine ⟨_, rfl, ?_⟩
    replace hh := hh.ext hb_
    cases b with
    | true =>
     refine aa (cT (sr (aB (aa (aq (bO (aM (aM (bO (aM ?_))))))))))
     refine ck ?_
     exact ⟨_, rfl, fun h => (by cases h), hh.below⟩
    | false =>
     have hb := hb rfl
     refine aa (cF (ak (aW (ai (ao (mI ?_))))))
     refine bx (aI (aE (ai ?_)))
     refine ⟨⟨i + 1, by omega, rfl, fun y hy => ?_, hh⟩, by show n - (i + 1) < n - i; omega, ?_⟩
     ·rw [aO hx, List.mem_append, List.mem_singleton] at hy
      rcases hy with hy | rfl
      ·exact hall y hy
      ·exact hb
     ·(repeat (first | exact aw _ _ _ | refine aA rfl ?_ | refine ar rfl ?_))
   ·rw [List.take_of_length_le (by omega)] at hall
    refine ah (sr (mI (mL (aV ?_))))
    refine aJ (aa (cF ?_))
    refine aN ?_
    refine az (az (a7 (ai (sr (aL (aa (ah (sr (aI (aa (aj ?_)))))))))))
    replace hh := hh.eI 3 1
    refine bW [4, 5, 6, 21, 22, 23, 24, 25, 26, 27, 28, 29, 30, 31, 32, 33, 34, 35, 36, 37, 38, 39, 40, 41, 42, 43, 44, 45, 46, 47, 48, 49, 50, 51, 52, 53, 54, 55, 56, 57, 58, 59] 4 5
     (fun v4 v w' => ∃ (i m c4 : Nat) (A : Option Addr) (ds : List Int), i ≤ n ∧ v = .int .i64 i ∧ v4 = .slice A m c4 ∧ m ≤ 20 ∧ ds.length = m ∧ Hp w [.row A m c4 3 1 (bI ds)] w')
     (fun _ v _ => n - (intOf v).toNat) ?_ ?_
    ·exact ⟨0, 0, 0, none, [], Nat.zero_le _, rfl, rfl, by omega, rfl, hh⟩
    ·clear hh
     rintro ρ2 v4 v w2 ⟨i, m, c4, A, ds, hi, rfl, rfl, hm, hdl, hh⟩
     by_cases hlt2 : i < n
     ·obtain ⟨fo, hx⟩ := ay (l := fs) (k := i) (by omega)
      have hmem := List.mem_of_getElem? hx
      have hfn := (hall fo hmem).2.2
      have hl1 := (hf fo hmem).ln.1
      obtain ⟨ad, rfl, hr⟩ := hL.at_ (by omega)
      refine ah (sr (mI (mL (aV ?_))))
      refine aJ (aa (cT (ak (ai (ah (aj (sr (aI (aa (aj ?_))))))))))
      refine bW [4, 6, 27, 28, 29, 30, 31, 32, 33, 34, 35, 36, 37, 38, 39, 40, 41, 42, 43, 44, 45, 46, 47, 48, 49, 50, 51, 52, 53, 54, 55, 56, 57, 58, 59] 4 6
       (fun v4 v w' => ∃ (k m c4 : Nat) (A : Option Addr) (ds : List Int), k ≤ fo.n ∧ k ≤ m ∧ v = .int .i64 k ∧ v4 = .slice A m c4 ∧ m ≤ 20 ∧ ds.length = m ∧ Hp w [.row A m c4 3 1 (bI ds)] w')
       (fun _ v _ => fo.n - (intOf v).toNat) ?_ ?_
      ·exact ⟨0, m, c4, A, ds, Nat.zero_le _, Nat.zero_le _, rfl, rfl, hm, hdl, hh⟩
      ·clear hh hdl hm
       rintro ρ3 v4 v w3 ⟨k, m, c4, A, ds, hk, hkm, rfl, rfl, hm, hdl, hh⟩
       by_cases hkn : k < fo.n
       ·obtain ⟨y, hy⟩ := ay (l := fo.ds) (k := k) (by omega)
        have hgy := bX hy
        obtain ⟨a2, hA2, s2⟩ := (hf fo hmem).dg.at_ (by omega)
        have fl : ∀ w1, Below w.heap.size w w1 → w1.cell? ((ad.add (i * 2)).add 0) = some (.slice (some a2) fo.n fo.a) := fun w1 hb => by
         have := cv hb ((hr.recAt FX.len hx) 0 _ rfl)
         rwa [hA2] at this
        refine ah (sr (mI (mL (mI ?_))))
        refine aC (k := i) aH.out aD.size rfl rfl (by omega) (by omega) (by decide) ?_
        refine iP ej.out rfl (by decide) ?_
        refine aK aD.out rfl (fl _ hh.below) (by decide) ?_
        by_cases hkl : k = m
        ·refine aV ?_
         refine aJ (aa (cT (ak (ai (ah (aj (ah (sr (mI (mL (aV ?_)))))))))))
         refine dN (aa (cT (ao (mL ?_))))
         refine aG hh (cs := [_]) aH.out aD.out (aF rfl bE) rfl rfl (by decide) (by decide) (by decide) rfl (by decide) ?_
         intro b42 w42 hh
         refine dL hh (i := 1) rfl rfl rfl (hh.aQ (i := 0) rfl) aH.out aD.out rfl (by decide) (by first | rfl | exact db _ | exact cC _ | exact cA _ | exact cD NR.one _) (by omega) (by omega) (by decide) ?_
         intro A43 c43 w43 hh
         simp only [List.set_cons_zero, List.set_cons_succ] at hh
         replace hh := hh.sub (List.sublist_cons_self _ _)
         refine aL (aa ?_)
         obtain ⟨gd, rfl⟩ := hh.ed (i := 0) rfl (by omega)
         obtain ⟨es, he1⟩ : ∃ es, bI es = bI ds ++ [.int .i64 0] := ⟨ds ++ [0], by simp [bI]⟩
         have hel0 : es.length = m + 1 := by
          have := congrArg List.length he1
          simpa [bI, hdl] using this
         replace hh : Hp w [.row (some ⟨gd, 0, none⟩) (m + 1) c43 3 1 (bI ds ++ [.int .i64 0])] _ := hh
         rw [← he1] at hh
         obtain ⟨x, hx2⟩ := ay (l := es) (k := k) (by omega)
         have hgx := bX hx2
         have hel : (bI es).length = m + 1 := by rw [bR, hel0]
         refine a6 15 [[(4, none)], [(6, none)], [(4, none)], [(6, none)], [(46, some 2), (47, some 3)], [(48, some 4)], [(0, none)], [(5, none)], [(50, some 6), (51, some 7)], [(52, some 8)], [(53, some 9)], [(6, none)], [(54, some 10), (55, some 11)], [(56, some 12)], [(49, some 5), (57, some 13)]] [(14, 58), (13, 57), (12, 56), (11, 55), (10, 54), (9, 53), (8, 52), (7, 51), (6, 50), (5, 49), (4, 48), (3, 47), (2, 46), (1, 45), (0, 44)] hh mixed (by kernel_rfl) ?_
         refine iC ?_
         refine eM ?_
         refine iC ?_
         refine eM ?_
         refine vD (k) ?_
         refine bh (i := 5) (fun ρ1 w1 hj hR => dZ aD.out (show ρ1 48 = Value.pointer _ from hR.1) (hj.hp.ct (i := 0) rfl (by rw [Nat.mul_one]; exact hgx))) ?_
         refine iC ?_
         refine eM ?_
         refine nN (i) ?_
         refine AH ?_
         refine lP (fun _ hj => fl _ hj.hp.below) ?_
         refine eM ?_
         refine bh (i := 12) (fun ρ1 w1 hj hR => cw aH.out aD.size (show ρ1 54 = Value.slice _ _ _ from hR.1) (show ρ1 55 = Value.int _ _ from hR.2.1) (by omega) (by omega)) ?_
         refine lP (fun _ hj => (s2.ext hj.hp.below).eC hgy) ?_
         refine bh (i := 14) (fun ρ1 w1 hj hR => tW (show ρ1 49 = Value.int _ _ from hR.1) (show ρ1 57 = Value.int _ _ from hR.2.1)) ?_
         refine bA ?_
         intro f W hJ hV
         have hb_17 := hJ.bl
         obtain ⟨v58, v57, v56, v55, v54, v53, v52, v51, v50, v49, v48, v47, v46, v45, v44, _⟩ := hV
         replace hh := hJ.hp
         refine bf (bz (ae v58 (ae v57 (ae v56 (ae v55 (ae v54 (ae v53 (ae v52 (ae v51 (ae v50 (ae v49 (ae v48 (ae v47 (ae v46 (ae v45 (ae v44 bg)))))))))))))))) ?_
         dsimp only [cH]
         clear hJ
         refine bm (k := k) aH.out aD.size rfl rfl (by omega) (by omega) (by decide) ?_
         refine bq hh (i := 0) (vs := [_]) rfl rfl (bJ rfl) rfl aD.out rfl (by omega) rfl ?_
         intro ws hh
         simp only [List.set_cons_zero] at hh
         rw [fB _ (by rw [← bR]; omega)] at hh
         refine aE (aW (ai (ao (mI ?_))))
         refine bx (aI (aE (ai ?_)))
         refine ⟨⟨k + 1, m + 1, _, _, _, by omega, by omega, rfl, rfl, by omega, by rw [List.length_set]; exact hel0, hh⟩, by show fo.n - (k + 1) < fo.n - k; omega, ?_⟩
         (repeat (first | exact aw _ _ _ | refine aA rfl ?_ | refine ar rfl ?_))
        ·refine aV ?_
         refine aJ (aa (cT (ak (ai (ah (aj (ah (sr (mI (mL (aV ?_)))))))))))
         refine dN (aa (cF (ak (ai ?_))))
         obtain ⟨gd, rfl⟩ := hh.ed (i := 0) rfl (by omega)
         have hel0 := hdl
         obtain ⟨x, hx2⟩ := ay (l := ds) (k := k) (by omega)
         have hgx := bX hx2
         have hel : (bI ds).length = m := by rw [bR, hel0]
         refine a6 15 [[(4, none)], [(6, none)], [(4, none)], [(6, none)], [(46, some 2), (47, some 3)], [(48, some 4)], [(0, none)], [(5, none)], [(50, some 6), (51, some 7)], [(52, some 8)], [(53, some 9)], [(6, none)], [(54, some 10), (55, some 11)], [(56, some 12)], [(49, some 5), (57, some 13)]] [(14, 58), (13, 57), (12, 56), (11, 55), (10, 54), (9, 53), (8, 52), (7, 51), (6, 50), (5, 49), (4, 48), (3, 47), (2, 46), (1, 45), (0, 44)] hh mixed (by kernel_rfl) ?_
         refine iC ?_
         refine eM ?_
         refine iC ?_
         refine eM ?_
         refine vD (k) ?_
         refine bh (i := 5) (fun ρ1 w1 hj hR => dZ aD.out (show ρ1 48 = Value.pointer _ from hR.1) (hj.hp.ct (i := 0) rfl (by rw [Nat.mul_one]; exact hgx))) ?_
         refine iC ?_
         refine eM ?_
         refine nN (i) ?_
         refine AH ?_
         refine lP (fun _ hj => fl _ hj.hp.below) ?_
         refine eM ?_
         refine bh (i := 12) (fun ρ1 w1 hj hR => cw aH.out aD.size (show ρ1 54 = Value.slice _ _ _ from hR.1) (show ρ1 55 = Value.int _ _ from hR.2.1) (by omega) (by omega)) ?_
         refine lP (fun _ hj => (s2.ext hj.hp.below).eC hgy) ?_
         refine bh (i := 14) (fun ρ1 w1 hj hR => tW (show ρ1 49 = Value.int _ _ from hR.1) (show ρ1 57 = Value.int _ _ from hR.2.1)) ?_
         refine bA ?_
         intro f W hJ hV
         have hb_17 := hJ.bl
         obtain ⟨v58, v57, v56, v55, v54, v53, v52, v51, v50, v49, v48, v47, v46, v45, v44, _⟩ := hV
         replace hh := hJ.hp
         refine bf (bz (ae v58 (ae v57 (ae v56 (ae v55 (ae v54 (ae v53 (ae v52 (ae v51 (ae v50 (ae v49 (ae v48 (ae v47 (ae v46 (ae v45 (ae v44 bg)))))))))))))))) ?_
         dsimp only [cH]
         clear hJ
         refine bm (k := k) aH.out aD.size rfl rfl (by omega) (by omega) (by decide) ?_
         refine bq hh (i := 0) (vs := [_]) rfl rfl (bJ rfl) rfl aD.out rfl (by omega) rfl ?_
         intro ws hh
         simp only [List.set_cons_zero] at hh
         rw [fB _ (by rw [← bR]; omega)] at hh
         refine aE (aW (ai (ao (mI ?_))))
         refine bx (aI (aE (ai ?_)))
         refine ⟨⟨k + 1, m, _, _, _, by omega, by omega, rfl, rfl, by omega, by rw [List.length_set]; exact hel0, hh⟩, by show fo.n - (k + 1) < fo.n - k; omega, ?_⟩
         (repeat (first | exact aw _ _ _ | refine aA rfl ?_ | refine ar rfl ?_))
       ·refine ah (sr (mI (mL (mI ?_))))
        refine aC (k := i) aH.out aD.size rfl rfl (by omega) (by omega) (by decide) ?_
        refine iP ej.out rfl (by decide) ?_
        refine aK aD.out rfl (cv hh.below ((hr.recAt FX.len hx) 0 _ rfl)) (by decide) ?_
        refine aV ?_
        refine aJ (aa (cF ?_))
        refine aN ?_
        refine az (az (a7 (aW (ai (ao (mI ?_))))))
        refine bx (aI (aE (ai ?_)))
        refine ⟨⟨i + 1, m, c4, A, ds, by omega, rfl, rfl, hm, hdl, hh⟩, by show n - (i + 1) < n - i; omega, ?_⟩
        (repeat (first | exact aw _ _ _ | refine aA rfl ?_ | refine ar rfl ?_))
     ·have hs := fun w1 hS1 => pL A m c4 ds w1 hS1
      refine ah (sr (mI (mL (aV ?_))))
      refine aJ (aa (cF ?_))
      refine aN ?_
      refine az (az (a7 (ai (sr (mL ?_)))))
      refine aR (hs _ (hh.aQ (i := 0) rfl)) av.out rfl (by decide) ?_
      rintro e_ w61 ⟨b, rfl, -, hb_⟩
      refine ⟨_, rfl, ?_⟩
      replace hh := hh.ext hb_
      refine aB (aa (aq ?_))
      refine ck ?_
      exact ⟨b, rfl, fun _ => ⟨by omega, hall⟩, hh.below⟩
end Go.Proofs.YtioilmppidlbnaaGreatDoor
/- The walks through ogeelaw14's examples. -/
namespace Go.Proofs.YtioilmppidlbnaaGreatDoor
open Go.RowKit
abbrev jM (l : List Int) (A : Option Addr) (a : Nat) (B : Option Addr) (b : Nat) : FX := ⟨A, 1, a, B, l.length, b, [(l.length : Int) - 1], l.map fun z : Int => nR (z : Dyadic)⟩
theorem xv {l : List Int} {A : Option Addr} {a : Nat} {B : Option Addr} {b : Nat} (hn : l.length ≤ 100) (hl : ∀ z ∈ l, z.natAbs < 256) : (jM l A a B b).iA 124 := by
 refine ⟨by show 1 ≤ 1000; omega, by show l.length ≤ 100000; omega, fun c hc => ?_⟩
 obtain ⟨z, hz, rfl⟩ := List.mem_map.1 hc
 have h : Sz 24 (z : Dyadic) := AM (e := 0) (hl z hz) (by decide) (by decide)
 exact ⟨h.ok (by omega), by rw [eR]; exact h.mono (by omega)⟩
theorem dF (l : List Int) (A : Option Addr) (c : Nat) (w : World) (hS : Sl w A l.length 1 (bI l)) (h0 : 0 < l.length) (hn : l.length ≤ 100) (hl : ∀ z ∈ l, z.natAbs < 256) :
  Calls Tryz.prog 52 #[.slice A l.length c] w fun r w' => ∃ (A : Option Addr) (a : Nat) (B : Option Addr) (b : Nat), r = .returned (.agg #[.slice A 1 a, .slice B l.length b]) ∧ Hp w [(jM l A a B b).eG, (jM l A a B b).eB] w' := by
 have hh := Hp.start w
 obtain ⟨n, hn2⟩ : ∃ n, n = l.length := ⟨_, rfl⟩
 have hnd : (jM l none 0 none 0).ds = [(n : Int) - 1] := by rw [hn2]
 rw [← hn2] at hS h0 hn ⊢
 refine al (N := 27) (l := [.slice A n c]) Tryz.func52 rfl rfl (by simp) ?_
 refine sr ?_
 refine cu hh ?_
 intro b2 w2 hh
 refine aa (sr (mL (aV ?_)))
 refine et ?_
 refine aG hh (cs := [_]) aH.out aD.out (aF (bJ rfl) bE) rfl rfl (by decide) (by decide) (by decide) rfl (by decide) ?_
 intro b8 w8 hh
 refine gb [_,_] ?_
 refine cu hh ?_
 intro b3 w3 hh
 refine bM hh 0 [_,_] ?_
 intro ws hh
 replace hh : Hp _ (.blk _ _ [_, _] _ :: _) _ := hh
 refine aa (ah (sr (aI (aa (aj ?_)))))
 replace hh := hh.perm (List.perm_middle (l₁ := [_]))
 simp only [List.cons_append, List.nil_append] at hh
 have hcap := hh.lN (i := 0) rfl
 replace hh := hh.perm (List.perm_middle (l₁ := [_]))
 simp only [List.cons_append, List.nil_append] at hh
 replace hh := hh.eI 39 3
 refine bo [4, 10, 11, 12, 13, 14, 15, 16, 17, 18, 19, 20, 21, 22, 23, 24, 25] 4
  (fun v w' => ∃ (i c1 : Nat) (B : Option Addr), i ≤ n ∧ v = .int .i64 i ∧ Hp w [.row B i c1 39 3 (bG NR.cells ((l.take i).map fun z : Int => nR (z : Dyadic))), .blk b3 28 [.slice (some ⟨b8, 0, none⟩) 1 1, .slice B i c1] (0, 0), .row (some ⟨b8, 0, none⟩) 1 1 3 1 (bI [(n : Int) - 1]), .blk b2 28 [.slice none 0 0, .slice none 0 0] (0, 0)] w')
  (fun v _ => n - (intOf v).toNat) ?_ ?_
 ·exact ⟨0, 0, none, Nat.zero_le _, rfl, hh⟩
 ·clear hh
  rintro ρ' v w' ⟨i, c1, B, hi, rfl, hh⟩
  by_cases hlt : i < n
  ·obtain ⟨z, hz⟩ := ay (l := l) (k := i) (by omega)
   have hgz := bX hz
   have hzb := hl z (List.mem_of_getElem? hz)
   obtain ⟨ad, rfl, hr⟩ := hS.at_ (by omega)
   refine ah (sr (mI (mL (aV ?_))))
   refine aJ (aa (cT (ak (ai (ah (aj ?_))))))
   refine a6 8 [[(3, none)], [(16, some 0)], [(0, none)], [(4, none)], [(18, some 2), (19, some 3)], [(20, some 4)], [(21, some 5)], [(22, some 6)]] [(7, 23), (6, 22), (5, 21), (4, 20), (3, 19), (2, 18), (1, 17), (0, 16)] hh mixed (by kernel_rfl) ?_
   refine fP ?_
   refine gB 1 ?_
   refine iC ?_
   refine eM ?_
   refine nN (i) ?_
   refine bh (i := 5) (fun ρ1 w1 hj hR => dZ aD.out (show ρ1 20 = Value.pointer _ from hR.1) ((hr.ext hj.hp.below).eC (by assumption))) ?_
   refine dC (fun _ hj => uL z _ (by omega) (by omega)) ?_
   refine vl [_,_,_] ?_
   refine bA ?_
   intro f W hJ hV
   have hb_5 := hJ.bl
   obtain ⟨v23, v22, v21, v20, v19, v18, v17, v16, _⟩ := hV
   obtain ⟨A23, c23, e23, f23⟩ : Rows _ _ _ (f 7) W := v23
   replace hh := hJ.hp
   refine bf (bz (ae e23 (ae v22 (ae v21 (ae v20 (ae v19 (ae v18 (ae v17 (ae v16 bg))))))))) ?_
   dsimp only [cH]
   clear e23 hJ
   refine dL hh (i := 0) rfl rfl rfl (f23) aH.out aD.out rfl (by decide) (by first | rfl | exact db _ | exact cC _ | exact cA _ | exact cD NR.one _) (by omega) (by omega) (by decide) ?_
   intro A24 c24 w24 hh
   simp only [List.set_cons_zero] at hh
   refine bK ?_
   refine bM hh 1 [_] ?_
   intro ws hh
   replace hh : Hp _ (_ :: .blk _ _ [_, _] _ :: _) _ := hh
   refine aE (aW (ai (ao (mI ?_))))
   refine bx (aI (aE (ai ?_)))
   replace hh := hh.sub (List.Sublist.cons_cons _ (List.Sublist.cons_cons _ (List.Sublist.cons_cons _ (List.Sublist.cons_cons _ List.Sublist.slnil))))
   refine ⟨⟨i + 1, c24, A24, by omega, rfl, ?_⟩, by show n - (i + 1) < n - i; omega, ?_⟩
   ·rw [aO hz, List.map_append, eN]
    exact hh
   ·(repeat (first | exact aw _ _ _ | refine aA rfl ?_ | refine ar rfl ?_))
  ·obtain rfl : i = n := by omega
   rw [List.take_of_length_le (by omega)] at hh
   refine ah (sr (mI (mL (aV ?_))))
   refine aJ (aa (cF ?_))
   refine aN ?_
   refine az (az (a7 (ai (sr ?_))))
   refine cP hh 1 [_,_] ?_
   refine bM hh 3 [_,_] ?_
   intro ws hh
   replace hh : Hp _ (_ :: _ :: _ :: .blk _ _ [_, _] _ :: _) _ := hh
   refine aa (aq ?_)
   replace hh := hh.sub (List.Sublist.cons_cons _ (List.Sublist.cons _ (List.Sublist.cons_cons _ (List.Sublist.cons_cons _ List.Sublist.slnil))))
   refine gG (aY rfl (aX (vs := [_, _]) aD.out (hh.ax (i := 2) (n := 2) rfl rfl) rfl) bC) ?_
   refine ⟨some ⟨b8, 0, none⟩, 1, B, c1, rfl, ?_⟩
   unfold FX.eG FX.eB
   dsimp only
   rw [← hn2]
   exact hh.sub (List.sublist_append_left [_, _] _)
def o7 (ds : List Int) (cs : List NR) : VP := fun v W => ∃ g : FX, v = .agg #[.slice g.A g.n g.a, .slice g.B g.m g.b] ∧ g.ds = ds ∧ g.cs = cs ∧ g.at_ W
theorem o7.ext {ds : List Int} {cs : List NR} (v : Value) (w w' : World) (h : o7 ds cs v w) (hb : Below w.heap.size w w') : o7 ds cs v w' := let ⟨g, h1, h2, h3, h4⟩ := h; ⟨g, h1, h2, h3, h4.ext hb⟩
theorem ie (l : List Int) (fa : FX) (A : Option Addr) (c : Nat) (w : World) (hf : fa.at_ w) (hd : fa.ds = [(l.length : Int) - 1]) (hc : fa.cs = l.map fun z : Int => nR (z : Dyadic)) (hS : Sl w A l.length 1 (bI l)) (h0 : 0 < l.length) (hn : l.length ≤ 100) (hl : ∀ z ∈ l, z.natAbs < 256) :
  Calls Tryz.prog 53 #[.agg #[.slice fa.A fa.n fa.a, .slice fa.B fa.m fa.b], .int .i64 0, .slice A l.length c] w fun r w' => r = .returned (.bool true) ∧ Below w.heap.size w w' := by
 have hh := Hp.start w
 have l1 := hf.ln.1
 have l2 := hf.ln.2
 have e1 : fa.n = 1 := by rw [← l1, hd]; rfl
 have e2 : fa.m = l.length := by rw [← l2, hc, List.length_map]
 have hform := fun w1 hb => dF l A c w1 (hS.ext hb) h0 hn hl
 refine al (N := 15) (l := [.agg #[.slice fa.A fa.n fa.a, .slice fa.B fa.m fa.b], .int .i64 0, .slice A l.length c]) Tryz.func53 rfl rfl (by simp) ?_
 refine sr ?_
 refine dw hh [_,_] ?_
 intro b3 w3 hh
 refine aB (aa (ah ?_))
 refine a6 6 [[(1, none)], [(7, some 0)], [(8, some 1)], [(3, none), (9, some 2)], [(2, none), (9, some 2)], [(11, some 4), (9, some 2)]] [(5, 12), (4, 11), (3, 10), (2, 9), (1, 8), (0, 7)] hh mixed (by kernel_rfl) ?_
 refine eM ?_
 refine zM ?_
 refine yC ?_
 first | refine dS ?_ | refine dU ?_ | refine dG (gh 0 [_,_] ?_)
 first | refine dS ?_ | refine dU ?_ | refine dG (iC ?_)
 refine dD (i := 5) (o7 fa.ds fa.cs) (o7.ext) ?_ ?_
 ·intro ρ1 w1 hj hR
  exact dV rfl (show ρ1 9 = Value.bool _ from hR.2.1) (dP rfl (cW av.out (bj (show ρ1 11 = Value.slice _ _ _ from hR.1) cj)) (hform _ hj.hp.below) (fun _ _ ⟨A2, a2, B2, b2', q1, q2⟩ => ⟨_, q1, q2.below, jM l A2 a2 B2 b2', rfl, hd.symm, hc.symm, q2.gY List.mem_cons_self (List.mem_cons_of_mem _ List.mem_cons_self)⟩))
 refine bA ?_
 intro f W hJ hV
 have hb_1 := hJ.bl
 obtain ⟨v12, v11, v10, v9, v8, v7, _⟩ := hV
 obtain ⟨g12, e12, o12⟩ : o7 fa.ds fa.cs (f 5) W := v12
 replace hh := hJ.hp
 refine bf (bz (ae e12 (ae v11 (ae v10 (ae v9 (ae v8 (ae v7 bg))))))) ?_
 dsimp only [cH]
 clear e12 hJ
 refine aZ rfl rfl ?_
 refine bF hh (jf fa g12 _ (hf.ext hh.below) o12.2.2 ⟨o12.1.symm, o12.2.1.symm⟩ (by omega) (by omega)) rfl ?_
 intro w13 hh
 first | refine dh ?_ | refine de ?_
 refine aB (aa (aq ?_))
 refine ck ?_
 exact ⟨rfl, hh.below⟩
end Go.Proofs.YtioilmppidlbnaaGreatDoor
/- The walk through ogeelaw14.awake. -/
namespace Go.Proofs.YtioilmppidlbnaaGreatDoor
open Go.RowKit
theorem rR {l : List Int} {D : List Nat} {ys : List Dyadic} {g : FX} {w w' : World} (h : Out 0 D ys g) (h1 : bp D = [(l.length : Int) - 1]) (h2 : ys = l.map fun z : Int => (z : Dyadic)) (hh : Hp w [g.eG, g.eB] w') : ∃ (A : Option Addr) (a : Nat) (B : Option Addr) (b : Nat), g = jM l A a B b := by
 have hg := hh.gY List.mem_cons_self (List.mem_cons_of_mem _ List.mem_cons_self)
 have l1 := hg.ln
 obtain ⟨qk, hc0, -, -⟩ := h
 obtain ⟨A, n, a, B, m, b, ds, cs⟩ := g
 have hd : ds = [(l.length : Int) - 1] := qk.trans h1
 have hc : cs = l.map fun z : Int => nR (z : Dyadic) := hc0.trans (by unfold xg; rw [if_pos rfl, h2, List.map_map]; rfl)
 obtain ⟨q1, q2⟩ : ds.length = n ∧ cs.length = m := l1
 clear qk hc0 h1 h2 hg hh
 subst hd hc q1
 obtain rfl : l.length = m := by rw [← q2, List.length_map]
 exact ⟨A, a, B, b, rfl⟩
theorem vX (l es l2 : List Int) (A : Option Addr) (a : Nat) (B : Option Addr) (b : Nat) (E : Option Addr) (c : Nat) (w : World) (hT : fQ w) (hf : (jM l A a B b).at_ w) (hl : (jM l A a B b).iA 124) (hn : l.length ≤ 200) (hS : Sl w E 1 1 (bI es))
  (h : mA (jM l A a B b) es = 0 ∧ gx (es.map Int.toNat) (jM l A a B b) = (l2.map fun z : Int => (z : Dyadic)) ∧ bp (es.map Int.toNat) = [(l2.length : Int) - 1]) :
  Calls Tryz.prog 23 #[.agg #[.slice A 1 a, .slice B l.length b], .slice E 1 c] w fun r w' => ∃ (A : Option Addr) (a : Nat) (B : Option Addr) (b : Nat), r = .returned (.tuple #[.agg #[.slice A 1 a, .slice B l2.length b], .int .i64 0]) ∧ Hp w [(jM l2 A a B b).eG, (jM l2 A a B b).eB] w' := by
 have := qu (jM l A a B b) E 1 c es 124 w hT hf hl hn hS (by omega) (by omega)
 rw [h.1] at this
 refine this.mono fun r w' ⟨g, o, hr, hh⟩ => ?_
 obtain ⟨A, a, B, b, rfl⟩ := rR o h.2.2 h.2.1 hh
 exact ⟨A, a, B, b, hr, hh⟩
theorem AX (f g : FX) (l2 : List Int) (L : Option Addr) (c : Nat) (w : World) (hT : fQ w) (hf : f.at_ w) (hg : g.at_ w) (hl : f.iA 124) (hl2 : g.iA 124) (hm : f.m ≤ 200) (hm2 : g.m ≤ 200) (hS : Sl w L 2 2 (bG FX.cells [f, g]))
  (h : cx [f, g] = 0 ∧ zj ([f, g].map (gx (maxD [f, g]))) = (l2.map fun z : Int => (z : Dyadic)) ∧ bp (maxD [f, g]) = [(l2.length : Int) - 1]) :
  Calls Tryz.prog 15 #[.slice L 2 c] w fun r w' => ∃ (A : Option Addr) (a : Nat) (B : Option Addr) (b : Nat), r = .returned (.tuple #[.agg #[.slice A 1 a, .slice B l2.length b], .int .i64 0]) ∧ Hp w [(jM l2 A a B b).eG, (jM l2 A a B b).eB] w' := by
 have hall : ∀ x ∈ [f, g], x.at_ w ∧ x.iA 124 ∧ x.m ≤ 200 := by simpa using ⟨⟨hf, hl, hm⟩, hg, hl2, hm2⟩
 have := tc L 2 c [f, g] 124 w hT hS (by omega) (fun x hx => (hall x hx).1) (fun x hx => (hall x hx).2.1) (fun x hx => (hall x hx).2.2) (by omega)
 rw [h.1] at this
 refine this.mono fun r w' ⟨g, o, hr, hh⟩ => ?_
 obtain ⟨A, a, B, b, rfl⟩ := rR o h.2.2 h.2.1 hh
 exact ⟨A, a, B, b, hr, hh⟩
theorem Ak (f g : FX) (l2 : List Int) (w : World) (hT : fQ w) (hf : f.at_ w) (hg : g.at_ w) (hl : f.iA 124) (hl2 : g.iA 124) (hm : f.m ≤ 200) (hm2 : g.m ≤ 200)
  (h : ke f g = 0 ∧ fS f.ns g.ns (f.cs.map NR.d) (g.cs.map NR.d) = (l2.map fun z : Int => (z : Dyadic)) ∧ bp (bU f.ns g.ns) = [(l2.length : Int) - 1]) :
  Calls Tryz.prog 18 #[.agg #[.slice f.A f.n f.a, .slice f.B f.m f.b], .agg #[.slice g.A g.n g.a, .slice g.B g.m g.b]] w fun r w' => ∃ (A : Option Addr) (a : Nat) (B : Option Addr) (b : Nat), r = .returned (.tuple #[.agg #[.slice A 1 a, .slice B l2.length b], .int .i64 0]) ∧ Hp w [(jM l2 A a B b).eG, (jM l2 A a B b).eB] w' := by
 have := tj f g 124 w hT hf hg hl hl2 hm hm2 (by omega)
 rw [h.1] at this
 refine this.mono fun r w' ⟨g, o, hr, hh⟩ => ?_
 obtain ⟨A, a, B, b, rfl⟩ := rR o h.2.2 h.2.1 hh
 exact ⟨A, a, B, b, hr, hh⟩
theorem va (l es : List Int) (e : Int) (A : Option Addr) (a : Nat) (B : Option Addr) (b : Nat) (E : Option Addr) (c : Nat) (w : World) (hT : fQ w) (hf : (jM l A a B b).at_ w) (hl : (jM l A a B b).iA 124) (hn : l.length ≤ 200) (hS : Sl w E 1 1 (bI es)) (h : mA (jM l A a B b) es = e) :
  Calls Tryz.prog 23 #[.agg #[.slice A 1 a, .slice B l.length b], .slice E 1 c] w fun r w' => ∃ g : FX, r = .returned (.tuple #[.agg #[.slice g.A g.n g.a, .slice g.B g.m g.b], .int .i64 e]) ∧ Below w.heap.size w w' := by
 have := qu (jM l A a B b) E 1 c es 124 w hT hf hl hn hS (by omega) (by omega)
 rw [h] at this
 exact this.mono fun r w' ⟨g, o, hr, hh⟩ => ⟨g, hr, hh.below⟩
theorem xk (w : World) (hT : fQ w) :
  Calls Tryz.prog 15 #[.slice none 0 0] w fun r w' => ∃ g : FX, r = .returned (.tuple #[.agg #[.slice g.A g.n g.a, .slice g.B g.m g.b], .int .i64 1]) ∧ Below w.heap.size w w' :=
 (tc none 0 0 [] 124 w hT (Sl.nil _ _ _) (by omega) (fun _ h => nomatch h) (fun _ h => nomatch h) (fun _ h => nomatch h) (by omega)).mono fun r w' ⟨g, o, hr, hh⟩ => ⟨g, hr, hh.below⟩
theorem dy (w : World) (hT : fQ w) : Calls Tryz.prog 13 #[] w fun r w' => r = .returned (.bool true) ∧ Below w.heap.size w w' := by
 have hh := Hp.start w
 have iA : ∀ (l : List Int) (A : Option Addr) (a : Nat) (B : Option Addr) (b : Nat), l.length ≤ 100 → (∀ z ∈ l, z.natAbs < 256) → (jM l A a B b).iA 124 := fun _ _ _ _ _ h1 h2 => xv h1 h2
 refine al (N := 101) (l := []) Tryz.func13 rfl rfl (by simp) ?_
 refine sr (aB (aa (sr ?_)))
 refine aG hh (cs := [_, _]) aH.out aD.out (aF rfl (aF rfl bE)) rfl rfl (by decide) (by decide) (by decide) rfl (by decide) ?_
 intro b16 w16 hh
 refine aR (dF [0, 1] _ _ _ (hh.aQ (i := 0) rfl) (by decide) (by decide) (by decide)) av.out rfl (by decide) ?_
 rintro e_ w17 ⟨Af1, af1, Bf1, bf1, rfl, h2⟩
 refine ⟨_, rfl, ?_⟩
 replace hh := hh.join h2
 clear h2
 refine aG hh (cs := [_]) aH.out aD.out (aF rfl bE) rfl rfl (by decide) (by decide) (by decide) rfl (by decide) ?_
 intro b18 w18 hh
 refine aR (vX [0, 1] [2] [0, 1, 1] Af1 af1 Bf1 bf1 _ _ _ (hT.hp hh) (hh.gY (List.mem_of_getElem? (i := 1) rfl) (List.mem_of_getElem? (i := 2) rfl)) (iA _ _ _ _ _ (by decide) (by decide)) (by decide) (hh.aQ (i := 0) rfl) ⟨by kernel_rfl, by kernel_rfl, by kernel_rfl⟩) av.out rfl (by decide) ?_
 rintro e_ w19 ⟨Ar1, ar1, Br1, br1, rfl, h2⟩
 refine ⟨_, rfl, ?_⟩
 replace hh := hh.join h2
 clear h2
 replace hh := hh.sub (List.Sublist.cons_cons _ (List.Sublist.cons_cons _ (List.Sublist.cons _ (List.Sublist.cons _ (List.Sublist.cons _ (List.Sublist.cons _ List.Sublist.slnil))))))
 refine mT ?_
 refine dE ?_
 refine dE ?_
 refine cu hh ?_
 intro b1 w1 hh
 refine bM hh 0 [_,_] ?_
 intro ws hh
 replace hh : Hp _ (.blk _ _ [_, _] _ :: _) _ := hh
 refine aI (aa (sr ?_))
 refine aG hh (cs := [_]) aH.out aD.out (aF rfl bE) rfl rfl (by decide) (by decide) (by decide) rfl (by decide) ?_
 intro b23 w23 hh
 refine aR (dF [3] _ _ _ (hh.aQ (i := 0) rfl) (by decide) (by decide) (by decide)) av.out rfl (by decide) ?_
 rintro e_ w24 ⟨Af2, af2, Bf2, bf2, rfl, h2⟩
 refine ⟨_, rfl, ?_⟩
 replace hh := hh.join h2
 clear h2
 refine aG hh (cs := [_]) aH.out aD.out (aF rfl bE) rfl rfl (by decide) (by decide) (by decide) rfl (by decide) ?_
 intro b25 w25 hh
 refine aR (vX [3] [2] [3, 6, 3] Af2 af2 Bf2 bf2 _ _ _ (hT.hp hh) (hh.gY (List.mem_of_getElem? (i := 1) rfl) (List.mem_of_getElem? (i := 2) rfl)) (iA _ _ _ _ _ (by decide) (by decide)) (by decide) (hh.aQ (i := 0) rfl) ⟨by kernel_rfl, by kernel_rfl, by kernel_rfl⟩) av.out rfl (by decide) ?_
 rintro e_ w26 ⟨Ar2, ar2, Br2, br2, rfl, h2⟩
 refine ⟨_, rfl, ?_⟩
 replace hh := hh.join h2
 clear h2
 replace hh := hh.sub (List.Sublist.cons_cons _ (List.Sublist.cons_cons _ (List.Sublist.cons _ (List.Sublist.cons _ (List.Sublist.cons _ (List.Sublist.cons _ (List.Sublist.cons_cons _ (List.Sublist.cons_cons _ (List.Sublist.cons_cons _ List.Sublist.slnil)))))))))
 refine mT ?_
 refine dE ?_
 refine dE ?_
 refine cu hh ?_
 intro b3 w3 hh
 refine bM hh 0 [_,_] ?_
 intro ws hh
 replace hh : Hp _ (.blk _ _ [_, _] _ :: _) _ := hh
 refine aI (aa (sr ?_))
 refine aG hh (cs := [_, _]) aH.out aD.out (aF rfl (aF rfl bE)) rfl rfl (by decide) (by decide) (by decide) rfl (by decide) ?_
 intro b30 w30 hh
 refine aR (dF [0, 1] _ _ _ (hh.aQ (i := 0) rfl) (by decide) (by decide) (by decide)) av.out rfl (by decide) ?_
 rintro e_ w31 ⟨Af3, af3, Bf3, bf3, rfl, h2⟩
 refine ⟨_, rfl, ?_⟩
 replace hh := hh.join h2
 clear h2
 refine aG hh (cs := [_]) aH.out aD.out (aF rfl bE) rfl rfl (by decide) (by decide) (by decide) rfl (by decide) ?_
 intro b32 w32 hh
 refine aR (dF [3] _ _ _ (hh.aQ (i := 0) rfl) (by decide) (by decide) (by decide)) av.out rfl (by decide) ?_
 rintro e_ w33 ⟨Af4, af4, Bf4, bf4, rfl, h2⟩
 refine ⟨_, rfl, ?_⟩
 replace hh := hh.join h2
 clear h2
 refine aG hh (cs := [_, _, _, _]) aH.out aD.out (aF (cM rfl) (aF (cM rfl) bE)) rfl rfl (by decide) (by decide) (by decide) rfl (by decide) ?_
 intro b34 w34 hh
 refine aR (AX (jM [0, 1] Af3 af3 Bf3 bf3) (jM [3] Af4 af4 Bf4 bf4) [3, 4] _ _ _ (hT.hp hh) (hh.gY (List.mem_of_getElem? (i := 4) rfl) (List.mem_of_getElem? (i := 5) rfl)) (hh.gY (List.mem_of_getElem? (i := 1) rfl) (List.mem_of_getElem? (i := 2) rfl)) (iA _ _ _ _ _ (by decide) (by decide)) (iA _ _ _ _ _ (by decide) (by decide)) (Nat.le_of_ble_eq_true rfl) (Nat.le_of_ble_eq_true rfl) (hh.aQ (i := 0) rfl) ⟨by kernel_rfl, by kernel_rfl, by kernel_rfl⟩) av.out rfl (by decide) ?_
 rintro e_ w35 ⟨Ar3, ar3, Br3, br3, rfl, h2⟩
 refine ⟨_, rfl, ?_⟩
 replace hh := hh.join h2
 clear h2
 replace hh := hh.sub (List.Sublist.cons_cons _ (List.Sublist.cons_cons _ (List.Sublist.cons _ (List.Sublist.cons _ (List.Sublist.cons _ (List.Sublist.cons _ (List.Sublist.cons _ (List.Sublist.cons _ (List.Sublist.cons _ (List.Sublist.cons_cons _ (List.Sublist.cons_cons _ (List.Sublist.cons_cons _ (List.Sublist.cons_cons _ (List.Sublist.cons_cons _ (List.Sublist.cons_cons _ List.Sublist.slnil)))))))))))))))
 refine mT ?_
 refine dE ?_
 refine dE ?_
 refine cu hh ?_
 intro b5 w5 hh
 refine bM hh 0 [_,_] ?_
 intro ws hh
 replace hh : Hp _ (.blk _ _ [_, _] _ :: _) _ := hh
 refine aI (aa (sr ?_))
 refine aG hh (cs := [_, _]) aH.out aD.out (aF rfl (aF rfl bE)) rfl rfl (by decide) (by decide) (by decide) rfl (by decide) ?_
 intro b39 w39 hh
 refine aR (dF [0, 1] _ _ _ (hh.aQ (i := 0) rfl) (by decide) (by decide) (by decide)) av.out rfl (by decide) ?_
 rintro e_ w40 ⟨Af5, af5, Bf5, bf5, rfl, h2⟩
 refine ⟨_, rfl, ?_⟩
 replace hh := hh.join h2
 clear h2
 refine aG hh (cs := [_, _]) aH.out aD.out (aF rfl (aF rfl bE)) rfl rfl (by decide) (by decide) (by decide) rfl (by decide) ?_
 intro b41 w41 hh
 refine aR (dF [0, 1] _ _ _ (hh.aQ (i := 0) rfl) (by decide) (by decide) (by decide)) av.out rfl (by decide) ?_
 rintro e_ w42 ⟨Af6, af6, Bf6, bf6, rfl, h2⟩
 refine ⟨_, rfl, ?_⟩
 replace hh := hh.join h2
 clear h2
 refine aR (Ak (jM [0, 1] Af5 af5 Bf5 bf5) (jM [0, 1] Af6 af6 Bf6 bf6) [0, 0, 1] _ (hT.hp hh) (hh.gY (List.mem_of_getElem? (i := 3) rfl) (List.mem_of_getElem? (i := 4) rfl)) (hh.gY (List.mem_of_getElem? (i := 0) rfl) (List.mem_of_getElem? (i := 1) rfl)) (iA _ _ _ _ _ (by decide) (by decide)) (iA _ _ _ _ _ (by decide) (by decide)) (Nat.le_of_ble_eq_true rfl) (Nat.le_of_ble_eq_true rfl) ⟨by kernel_rfl, by kernel_rfl, by kernel_rfl⟩) av.out rfl (by decide) ?_
 rintro e_ w43 ⟨Ar4, ar4, Br4, br4, rfl, h2⟩
 refine ⟨_, rfl, ?_⟩
 replace hh := hh.join h2
 clear h2
 replace hh := hh.sub (List.Sublist.cons_cons _ (List.Sublist.cons_cons _ (List.Sublist.cons _ (List.Sublist.cons _ (List.Sublist.cons _ (List.Sublist.cons _ (List.Sublist.cons _ (List.Sublist.cons _ (List.Sublist.cons_cons _ (List.Sublist.cons_cons _ (List.Sublist.cons_cons _ (List.Sublist.cons_cons _ (List.Sublist.cons_cons _ (List.Sublist.cons_cons _ (List.Sublist.cons_cons _ (List.Sublist.cons_cons _ (List.Sublist.cons_cons _ List.Sublist.slnil)))))))))))))))))
 refine mT ?_
 refine dE ?_
 refine dE ?_
 refine cu hh ?_
 intro b7 w7 hh
 refine bM hh 0 [_,_] ?_
 intro ws hh
 replace hh : Hp _ (.blk _ _ [_, _] _ :: _) _ := hh
 refine aI (aa (sr ?_))
 refine aG hh (cs := [_, _]) aH.out aD.out (aF rfl (aF rfl bE)) rfl rfl (by decide) (by decide) (by decide) rfl (by decide) ?_
 intro b47 w47 hh
 refine aR (dF [1, 1] _ _ _ (hh.aQ (i := 0) rfl) (by decide) (by decide) (by decide)) av.out rfl (by decide) ?_
 rintro e_ w48 ⟨Af7, af7, Bf7, bf7, rfl, h2⟩
 refine ⟨_, rfl, ?_⟩
 replace hh := hh.join h2
 clear h2
 refine aG hh (cs := [_, _]) aH.out aD.out (aF rfl (aF rfl bE)) rfl rfl (by decide) (by decide) (by decide) rfl (by decide) ?_
 intro b49 w49 hh
 refine aR (dF [1, 1] _ _ _ (hh.aQ (i := 0) rfl) (by decide) (by decide) (by decide)) av.out rfl (by decide) ?_
 rintro e_ w50 ⟨Af8, af8, Bf8, bf8, rfl, h2⟩
 refine ⟨_, rfl, ?_⟩
 replace hh := hh.join h2
 clear h2
 refine aR (Ak (jM [1, 1] Af7 af7 Bf7 bf7) (jM [1, 1] Af8 af8 Bf8 bf8) [1, 2, 1] _ (hT.hp hh) (hh.gY (List.mem_of_getElem? (i := 3) rfl) (List.mem_of_getElem? (i := 4) rfl)) (hh.gY (List.mem_of_getElem? (i := 0) rfl) (List.mem_of_getElem? (i := 1) rfl)) (iA _ _ _ _ _ (by decide) (by decide)) (iA _ _ _ _ _ (by decide) (by decide)) (Nat.le_of_ble_eq_true rfl) (Nat.le_of_ble_eq_true rfl) ⟨by kernel_rfl, by kernel_rfl, by kernel_rfl⟩) av.out rfl (by decide) ?_
 rintro e_ w51 ⟨Ar5, ar5, Br5, br5, rfl, h2⟩
 refine ⟨_, rfl, ?_⟩
 replace hh := hh.join h2
 clear h2
 replace hh := hh.sub (List.Sublist.cons_cons _ (List.Sublist.cons_cons _ (List.Sublist.cons _ (List.Sublist.cons _ (List.Sublist.cons _ (List.Sublist.cons _ (List.Sublist.cons _ (List.Sublist.cons _ (List.Sublist.cons_cons _ (List.Sublist.cons_cons _ (List.Sublist.cons_cons _ (List.Sublist.cons_cons _ (List.Sublist.cons_cons _ (List.Sublist.cons_cons _ (List.Sublist.cons_cons _ (List.Sublist.cons_cons _ (List.Sublist.cons_cons _ (List.Sublist.cons_cons _ (List.Sublist.cons_cons _ (List.Sublist.cons_cons _ List.Sublist.slnil))))))))))))))))))))
 refine mT ?_
 refine dE ?_
 refine dE ?_
 refine cu hh ?_
 intro b9 w9 hh
 refine bM hh 0 [_,_] ?_
 intro ws hh
 replace hh : Hp _ (.blk _ _ [_, _] _ :: _) _ := hh
 refine aI (aa (sr ?_))
 refine aG hh (cs := [_, _, _]) aH.out aD.out (aF rfl (aF rfl (aF rfl bE))) rfl rfl (by decide) (by decide) (by decide) rfl (by decide) ?_
 intro b55 w55 hh
 refine aR (dF [0, 0, 1] _ _ _ (hh.aQ (i := 0) rfl) (by decide) (by decide) (by decide)) av.out rfl (by decide) ?_
 rintro e_ w56 ⟨Af9, af9, Bf9, bf9, rfl, h2⟩
 refine ⟨_, rfl, ?_⟩
 replace hh := hh.join h2
 clear h2
 refine aG hh (cs := [_]) aH.out aD.out (aF rfl bE) rfl rfl (by decide) (by decide) (by decide) rfl (by decide) ?_
 intro b57 w57 hh
 refine aR (va [0, 0, 1] [1] 1 Af9 af9 Bf9 bf9 _ _ _ (hT.hp hh) (hh.gY (List.mem_of_getElem? (i := 1) rfl) (List.mem_of_getElem? (i := 2) rfl)) (iA _ _ _ _ _ (by decide) (by decide)) (by decide) (hh.aQ (i := 0) rfl) (by kernel_rfl)) av.out rfl (by decide) ?_
 rintro e_ w58 ⟨g1, rfl, hb_⟩
 refine ⟨_, rfl, ?_⟩
 replace hh := hh.ext hb_
 replace hh := hh.sub (List.Sublist.cons _ (List.Sublist.cons _ (List.Sublist.cons _ (List.Sublist.cons _ (List.Sublist.cons_cons _ (List.Sublist.cons_cons _ (List.Sublist.cons_cons _ (List.Sublist.cons_cons _ (List.Sublist.cons_cons _ (List.Sublist.cons_cons _ (List.Sublist.cons_cons _ (List.Sublist.cons_cons _ (List.Sublist.cons_cons _ (List.Sublist.cons_cons _ (List.Sublist.cons_cons _ (List.Sublist.cons_cons _ (List.Sublist.cons_cons _ (List.Sublist.cons_cons _ (List.Sublist.cons_cons _ List.Sublist.slnil)))))))))))))))))))
 refine mT ?_
 refine dE ?_
 refine dE ?_
 refine cu hh ?_
 intro b11 w11 hh
 refine bM hh 0 [_,_] ?_
 intro ws hh
 replace hh : Hp _ (.blk _ _ [_, _] _ :: _) _ := hh
 refine aI (aa (sr ?_))
 refine aR (xk _ (hT.hp hh)) av.out rfl (by decide) ?_
 rintro e_ w62 ⟨g2, rfl, hb_⟩
 refine ⟨_, rfl, ?_⟩
 replace hh := hh.ext hb_
 replace hh := hh.sub (List.Sublist.cons _ (List.Sublist.cons_cons _ (List.Sublist.cons_cons _ (List.Sublist.cons_cons _ (List.Sublist.cons_cons _ (List.Sublist.cons_cons _ (List.Sublist.cons_cons _ (List.Sublist.cons_cons _ (List.Sublist.cons_cons _ (List.Sublist.cons_cons _ (List.Sublist.cons_cons _ (List.Sublist.cons_cons _ (List.Sublist.cons_cons _ (List.Sublist.cons_cons _ (List.Sublist.cons_cons _ (List.Sublist.cons_cons _ List.Sublist.slnil))))))))))))))))
 refine mT ?_
 refine dE ?_
 refine dE ?_
 refine cu hh ?_
 intro b13 w13 hh
 refine bM hh 0 [_,_] ?_
 intro ws hh
 replace hh : Hp _ (.blk _ _ [_, _] _ :: _) _ := hh
 refine aI (aa (sr ?_))
 refine cP hh 13 [_,_] (mI ?_)
 refine aG hh (cs := [_, _, _]) aH.out aD.out (aF rfl (aF rfl (aF rfl bE))) rfl rfl (by decide) (by decide) (by decide) rfl (by decide) ?_
 intro b67 w67 hh
 replace hh := hh.sub (List.Sublist.cons_cons _ (List.Sublist.cons _ (List.Sublist.cons_cons _ (List.Sublist.cons_cons _ (List.Sublist.cons_cons _ (List.Sublist.cons_cons _ (List.Sublist.cons_cons _ (List.Sublist.cons_cons _ (List.Sublist.cons_cons _ (List.Sublist.cons_cons _ (List.Sublist.cons_cons _ (List.Sublist.cons_cons _ (List.Sublist.cons_cons _ (List.Sublist.cons_cons _ (List.Sublist.cons_cons _ (List.Sublist.cons_cons _ (List.Sublist.cons_cons _ List.Sublist.slnil)))))))))))))))))
 refine bF hh (ie [0, 1, 1] (jM [0, 1, 1] Ar1 ar1 Br1 br1) _ _ _ (hh.gY (List.mem_of_getElem? (i := 14) rfl) (List.mem_of_getElem? (i := 15) rfl)) rfl rfl (hh.aQ (i := 0) rfl) (by decide) (by decide) (by decide)) rfl ?_
 intro w68 hh
 replace hh := hh.sub (List.Sublist.cons _ (List.Sublist.cons_cons _ (List.Sublist.cons_cons _ (List.Sublist.cons_cons _ (List.Sublist.cons_cons _ (List.Sublist.cons_cons _ (List.Sublist.cons_cons _ (List.Sublist.cons_cons _ (List.Sublist.cons_cons _ (List.Sublist.cons_cons _ (List.Sublist.cons_cons _ (List.Sublist.cons_cons _ (List.Sublist.cons_cons _ (List.Sublist.cons_cons _ (List.Sublist.cons_cons _ (List.Sublist.cons_cons _ List.Sublist.slnil))))))))))))))))
 refine mB ?_
 first | refine gS ?_ | (refine gT ?_; refine cP hh 9 [_,_] ?_) | refine gV ?_
 first | refine gS ?_ | (refine gT ?_; refine mI ?_) | refine gV ?_
 first | (refine bZ (by decide) rfl rfl (by decide) ?_) | (refine aZ rfl rfl ?_; (refine aG hh (cs := [_, _, _]) aH.out aD.out (aF rfl (aF rfl (aF rfl bE))) rfl rfl (by decide) (by decide) (by decide) rfl (by decide) ?_); (intro b72 w72 hh)) | (refine wl_guard_skipV (by decide) rfl rfl ?_)
 refine aZ rfl rfl ?_
 refine bF hh (ie [3, 6, 3] (jM [3, 6, 3] Ar2 ar2 Br2 br2) _ _ _ (hh.gY (List.mem_of_getElem? (i := 11) rfl) (List.mem_of_getElem? (i := 12) rfl)) rfl rfl (hh.aQ (i := 0) rfl) (by decide) (by decide) (by decide)) rfl ?_
 intro w73 hh
 replace hh := hh.sub (List.Sublist.cons _ (List.Sublist.cons_cons _ (List.Sublist.cons_cons _ (List.Sublist.cons_cons _ (List.Sublist.cons_cons _ (List.Sublist.cons_cons _ (List.Sublist.cons_cons _ (List.Sublist.cons_cons _ (List.Sublist.cons_cons _ (List.Sublist.cons_cons _ (List.Sublist.cons_cons _ (List.Sublist.cons_cons _ (List.Sublist.cons_cons _ (List.Sublist.cons_cons _ (List.Sublist.cons_cons _ (List.Sublist.cons_cons _ List.Sublist.slnil))))))))))))))))
 first | refine dh ?_ | refine de ?_
 refine mB ?_
 first | refine gS ?_ | (refine gT ?_; refine cP hh 6 [_,_] ?_) | refine gV ?_
 first | refine gS ?_ | (refine gT ?_; refine mI ?_) | refine gV ?_
 first | (refine bZ (by decide) rfl rfl (by decide) ?_) | (refine aZ rfl rfl ?_; (refine aG hh (cs := [_, _]) aH.out aD.out (aF rfl (aF rfl bE)) rfl rfl (by decide) (by decide) (by decide) rfl (by decide) ?_); (intro b78 w78 hh)) | (refine wl_guard_skipV (by decide) rfl rfl ?_)
 refine aZ rfl rfl ?_
 refine bF hh (ie [3, 4] (jM [3, 4] Ar3 ar3 Br3 br3) _ _ _ (hh.gY (List.mem_of_getElem? (i := 8) rfl) (List.mem_of_getElem? (i := 9) rfl)) rfl rfl (hh.aQ (i := 0) rfl) (by decide) (by decide) (by decide)) rfl ?_
 intro w79 hh
 replace hh := hh.sub (List.Sublist.cons _ (List.Sublist.cons_cons _ (List.Sublist.cons_cons _ (List.Sublist.cons_cons _ (List.Sublist.cons_cons _ (List.Sublist.cons_cons _ (List.Sublist.cons_cons _ (List.Sublist.cons_cons _ (List.Sublist.cons_cons _ (List.Sublist.cons_cons _ (List.Sublist.cons_cons _ (List.Sublist.cons_cons _ (List.Sublist.cons_cons _ (List.Sublist.cons_cons _ (List.Sublist.cons_cons _ (List.Sublist.cons_cons _ List.Sublist.slnil))))))))))))))))
 first | refine dh ?_ | refine de ?_
 refine mB ?_
 first | refine gS ?_ | (refine gT ?_; refine cP hh 3 [_,_] ?_) | refine gV ?_
 first | refine gS ?_ | (refine gT ?_; refine mI ?_) | refine gV ?_
 first | (refine bZ (by decide) rfl rfl (by decide) ?_) | (refine aZ rfl rfl ?_; (refine aG hh (cs := [_, _, _]) aH.out aD.out (aF rfl (aF rfl (aF rfl bE))) rfl rfl (by decide) (by decide) (by decide) rfl (by decide) ?_); (intro b84 w84 hh)) | (refine wl_guard_skipV (by decide) rfl rfl ?_)
 refine aZ rfl rfl ?_
 refine bF hh (ie [0, 0, 1] (jM [0, 0, 1] Ar4 ar4 Br4 br4) _ _ _ (hh.gY (List.mem_of_getElem? (i := 5) rfl) (List.mem_of_getElem? (i := 6) rfl)) rfl rfl (hh.aQ (i := 0) rfl) (by decide) (by decide) (by decide)) rfl ?_
 intro w85 hh
 replace hh := hh.sub (List.Sublist.cons _ (List.Sublist.cons_cons _ (List.Sublist.cons_cons _ (List.Sublist.cons_cons _ (List.Sublist.cons_cons _ (List.Sublist.cons_cons _ (List.Sublist.cons_cons _ (List.Sublist.cons_cons _ (List.Sublist.cons_cons _ (List.Sublist.cons_cons _ (List.Sublist.cons_cons _ (List.Sublist.cons_cons _ (List.Sublist.cons_cons _ (List.Sublist.cons_cons _ (List.Sublist.cons_cons _ (List.Sublist.cons_cons _ List.Sublist.slnil))))))))))))))))
 first | refine dh ?_ | refine de ?_
 refine mB ?_
 first | refine gS ?_ | (refine gT ?_; refine cP hh 0 [_,_] ?_) | refine gV ?_
 first | refine gS ?_ | (refine gT ?_; refine mI ?_) | refine gV ?_
 first | (refine bZ (by decide) rfl rfl (by decide) ?_) | (refine aZ rfl rfl ?_; (refine aG hh (cs := [_, _, _]) aH.out aD.out (aF rfl (aF rfl (aF rfl bE))) rfl rfl (by decide) (by decide) (by decide) rfl (by decide) ?_); (intro b90 w90 hh)) | (refine wl_guard_skipV (by decide) rfl rfl ?_)
 refine aZ rfl rfl ?_
 refine bF hh (ie [1, 2, 1] (jM [1, 2, 1] Ar5 ar5 Br5 br5) _ _ _ (hh.gY (List.mem_of_getElem? (i := 2) rfl) (List.mem_of_getElem? (i := 3) rfl)) rfl rfl (hh.aQ (i := 0) rfl) (by decide) (by decide) (by decide)) rfl ?_
 intro w91 hh
 replace hh := hh.sub (List.Sublist.cons _ (List.Sublist.cons_cons _ (List.Sublist.cons_cons _ (List.Sublist.cons_cons _ (List.Sublist.cons_cons _ (List.Sublist.cons_cons _ (List.Sublist.cons_cons _ (List.Sublist.cons_cons _ (List.Sublist.cons_cons _ (List.Sublist.cons_cons _ (List.Sublist.cons_cons _ (List.Sublist.cons_cons _ (List.Sublist.cons_cons _ (List.Sublist.cons_cons _ (List.Sublist.cons_cons _ (List.Sublist.cons_cons _ List.Sublist.slnil))))))))))))))))
 first | refine dh ?_ | refine de ?_
 refine mB ?_
 first | refine gS ?_ | (refine gT ?_; refine mI ?_) | refine gV ?_
 first | refine gS ?_ | (refine gT ?_; refine dN ?_) | refine gV ?_
 first | refine dh ?_ | refine de ?_
 refine mB ?_
 first | refine gS ?_ | (refine gT ?_; refine mI ?_) | refine gV ?_
 first | refine gS ?_ | (refine gT ?_; refine dN ?_) | refine gV ?_
 first | refine dh ?_ | refine de ?_
 refine aB (aa (aq ?_))
 refine ck ?_
 exact ⟨rfl, hh.below⟩
end Go.Proofs.YtioilmppidlbnaaGreatDoor
/- The value of a form that is told without an error. -/
namespace Go.Proofs.YtioilmppidlbnaaGreatDoor
open Go.RowKit
theorem qC {fx : FX} {m : Nat} (h : su fx m = 0) : fx.e = 0 ∧ m = fx.n := by
 unfold su at h
 split at h
 ·rename_i h1; exact absurd h h1
 ·rename_i h1
  split at h
  ·cases h
  ·omega
theorem k7 {f g : FX} (h1 : f.e = 0) (h2 : g.e = 0) (h : f.n = g.n) : fD [f, g] = 0 := by
 simp [fD, yc, h1, h2, h]
theorem uO {f g : FX} (h1 : f.e = 0) (h2 : g.e = 0) (h : f.n = g.n) : ke g f = ke f g := by
 unfold ke
 rw [k7 h1 h2 h, k7 h2 h1 h.symm, iq g.ns]
theorem wH {f g : FX} {B : Nat} (hf : ∀ d ∈ f.ns, d ≤ B) (hg : ∀ d ∈ g.ns, d ≤ B) : ∀ d ∈ maxD [f, g], d ≤ B := fun d hd => by
 have e : maxD [f, g] = fR (fR f.ns f.ns) g.ns := rfl
 rw [e] at hd
 unfold fR at hd
 obtain ⟨i, hi⟩ := List.mem_iff_getElem?.1 hd
 rw [List.getElem?_zipWith, List.getElem?_zipWith] at hi
 cases ha : f.ns[i]? with
 | none => simp [ha] at hi
 | some a =>
  cases hb : g.ns[i]? with
  | none => simp [ha, hb] at hi
  | some b =>
   simp [ha, hb] at hi
   have := hf a (List.mem_of_getElem? ha)
   have := hg b (List.mem_of_getElem? hb)
   omega
theorem wV {a b : List Nat} {B C : Nat} (hf : ∀ d ∈ a, d ≤ B) (hg : ∀ d ∈ b, d ≤ C) : ∀ d ∈ bU a b, d ≤ B + C := fun d hd => by
 unfold bU at hd
 obtain ⟨i, hi⟩ := List.mem_iff_getElem?.1 hd
 rw [List.getElem?_zipWith] at hi
 cases ha : a[i]? with
 | none => simp [ha] at hi
 | some x =>
  cases hb : b[i]? with
  | none => simp [ha, hb] at hi
  | some y =>
   simp [ha, hb] at hi
   have := hf x (List.mem_of_getElem? ha)
   have := hg y (List.mem_of_getElem? hb)
   omega
theorem wZ {c : NR} (h : nC c = false) : Val 125 c c.d ∧ Sz 125 (1 - c.d) := by
 have h' := of_decide_eq_false h
 obtain ⟨h1, h2⟩ := Av h
 exact ⟨⟨h1, by omega, rfl, h2.mono (by omega)⟩, (Sz.one.mono (show 1 ≤ 124 by omega)).sub h2⟩
theorem fV {f : FX} (h : f.small) (h0 : f.e = 0) (hl : f.cs.length = f.m) : ∀ d ∈ f.ns, d ≤ 59 := fun d hd => by
 have h1 := mM hd
 have h2 := (FX.fv h0).2.2.2.2.1
 have := h.2.1
 omega
theorem tX {q B : Nat} : ∀ (ds rs : List Nat) (ts : List Dyadic), (∀ d ∈ ds, d ≤ B) → (∀ t ∈ ts, Sz q t ∧ Sz q (1 - t)) → rM ds rs → Sz (1 + ds.length * (2 + 2 * (q * B))) (je ds rs ts)
 | [], [], _, _, _, _ => by simpa [je] using Sz.one
 | d :: ds, r :: rs, [], _, _, _ => by
  show Sz _ (1 : Dyadic)
  exact Sz.one.mono (by omega)
 | d :: ds, r :: rs, t :: ts, hd, ht, hr => by
  have h1 := tX (q := q) (B := B) ds rs ts (fun x h => hd x (List.mem_cons_of_mem _ h)) (fun x h => ht x (List.mem_cons_of_mem _ h)) hr.2
  obtain ⟨t1, t2⟩ := ht t List.mem_cons_self
  have hdB := hd d List.mem_cons_self
  have hr1 := hr.1
  show Sz _ (jL d r t * je ds rs ts)
  unfold jL
  have h2 := ((t1.vg (show r ≤ B by omega)).mul (t2.vg (show d - r ≤ B by omega))).mul h1
  refine h2.mono ?_
  rw [List.length_cons, Nat.add_mul, Nat.one_mul]
  omega
theorem xw {q B k : Nat} {ds : List Nat} {xs ts : List Dyadic} (hd : ∀ d ∈ ds, d ≤ B) (ht : ∀ t ∈ ts, Sz q t ∧ Sz q (1 - t)) (hx : ∀ x ∈ xs, Sz k x) : Sz (k + (1 + ds.length * (2 + 2 * (q * B))) + au ds) (fH ds xs ts) := by
 have := wo (l := List.range (au ds)) (f := fun p => (xs[p]?).getD 0 * je ds (bY ds p) ts) (k := k + (1 + ds.length * (2 + 2 * (q * B)))) fun p _ => by
  refine Sz.mul ?_ (tX ds _ ts hd ht (gi ds p))
  cases h : xs[p]? with
  | none => exact Sz.zero _
  | some x => exact hx x (List.mem_of_getElem? h)
 rw [List.length_range] at this
 exact this
theorem uh {f : FX} {tn : List NR} (h : f.small) (h0 : f.e = 0) (hl : f.cs.length = f.m) (hv : ∀ s ∈ tn, Val 125 s s.d ∧ Sz 125 (1 - s.d)) : Sz 200000 (fH f.ns.reverse (f.cs.map NR.d) (tn.map NR.d).reverse) := by
 have h12 := (FX.fv h0).2.2.1
 have hc := (FX.fv h0).2.2.2.2.1
 have hm := h.2.1
 refine (xw (q := 125) (B := 59) (k := 124) (fun d hd => fV h h0 hl d (List.mem_reverse.1 hd)) (fun t ht => ?_) (fun x hx => ?_)).mono ?_
 ·obtain ⟨s, hs, rfl⟩ := List.mem_map.1 (List.mem_reverse.1 ht)
  exact ⟨(hv s hs).1.sz, (hv s hs).2⟩
 ·obtain ⟨c, hc, rfl⟩ := List.mem_map.1 hx
  exact (h.1.num c hc).2
 ·rw [List.length_reverse, dI]
  omega
theorem xL {a b : List Dyadic} {k : Nat} (h : a.length = b.length) (ha : ∀ x ∈ a, Sz k x) (hb : ∀ x ∈ b, Sz k x) : ∀ z ∈ gJ a b, Sz (k + 1) z := fun z hz => by
 obtain ⟨i, hi⟩ := List.mem_iff_getElem?.1 hz
 have hi2 := (List.getElem?_eq_some_iff.1 hi).1
 rw [gk h] at hi2
 obtain ⟨x, hx⟩ := ay hi2
 obtain ⟨y, hy⟩ := ay (l := b) (k := i) (by omega)
 rw [pP hx hy] at hi
 rw [← Option.some.inj hi]
 exact (ha x (List.mem_of_getElem? hx)).add (hb y (List.mem_of_getElem? hy))
theorem oF {f : FX} {D : List Nat} (h : f.small) (h0 : f.e = 0) (hl : f.cs.length = f.m) (hlen : D.length = f.ns.length) (hle : ∀ (i x y : Nat), f.ns[i]? = some x → D[i]? = some y → x ≤ y) (h127 : ∀ d ∈ D, d ≤ 127) (hc : au D ≤ 4096) : ∀ x ∈ gx D f, Sz 250000 x := fun x hx => by
 have h12 := (FX.fv h0).2.2.1
 have hcn := (FX.fv h0).2.2.2.2.1
 have hm := h.2.1
 have h1 := uQ (ns := f.ns) (D := D) (xs := f.cs.map NR.d) (k := 124) (fun y hy => by
  obtain ⟨c, hc, rfl⟩ := List.mem_map.1 hy
  exact (h.1.num c hc).2) hlen.symm (by omega) h127 x hx
 have h2 : au (eA D f.ns) ≤ au D := ll (jc hlen) fun i a b ha hb => by
  obtain ⟨y, hy⟩ := ay (l := f.ns) (k := i) (by have := (List.getElem?_eq_some_iff.1 hb).1; omega)
  rw [mj hb hy] at ha
  have := Option.some.inj ha
  omega
 have h3 : au (eA D f.ns) * au f.ns ≤ 4096 * 60 := Nat.mul_le_mul (by omega) (by omega)
 exact h1.mono (by omega)
theorem Ad (p : FX) (D : List Nat) (ys : List Dyadic) (V : Dyadic) (L : Option Addr) (m2 c2 : Nat) (tn : List NR) (k B : Nat) (w : World) (hT : fQ w) (o : Out 0 D ys p) (hp : p.at_ w) (hcap : p.m ≤ p.b) (hS : Sl w L m2 3 (bG NR.cells tn)) (hv : ∀ s ∈ tn, Val 125 s s.d ∧ Sz 125 (1 - s.d))
  (h12 : D.length ≤ 12) (h127 : ∀ d ∈ D, d ≤ 127) (hB : ∀ d ∈ D, d ≤ B) (hyl : ys.length = au D) (hc : au D ≤ 4096) (hm : m2 = D.length) (hz : ∀ x ∈ ys, Sz k x) (hk : k + 12 * (2 + 2 * (125 * B) + (B + 1)) ≤ 500000) (hV : fH D.reverse ys (tn.map NR.d).reverse = V) :
  Calls Tryz.prog 29 #[.agg #[.slice p.A p.n p.a, .slice p.B p.m p.b], .slice L m2 c2] w fun r w' => r = .returned (.tuple #[.agg #[.bool (nR V).neg, .string (nR V).bP, .int .i64 (nR V).e], .int .i64 0]) ∧ Below w.heap.size w w' := by
 obtain ⟨e1, e2, e3⟩ := zN o h12 h127 hyl hc
 have hpl := hp.ln
 have hpn : p.n = D.length := by rw [← hpl.1, o.ds]; show (bp D).length = _; rw [cL]
 have hlt := hS.cR NR.len (by decide)
 have hlim : p.iA k := ⟨by omega, by
  rw [← hpl.2, o.cs]
  show (ys.map nR).length ≤ _
  rw [List.length_map]
  omega, fun c h => by
  rw [o.cs] at h
  obtain ⟨y, hy, rfl⟩ := List.mem_map.1 (show c ∈ ys.map nR from h)
  have := hz y hy
  exact ⟨this.ok (by omega), by rw [eR]; exact this⟩⟩
 have hE : su p m2 = 0 := by unfold su; rw [if_neg (fun h => h e1), if_neg (by omega)]
 have hVV : kG p tn = V := by unfold kG; rw [hlt, hE, if_pos rfl, e2, e3, hV]
 have hG : p.e = 0 → ∀ d ∈ p.ns, 2 + 2 * (125 * d) + (d + 1) ≤ 2 + 2 * (125 * B) + (B + 1) := fun _ d hd => by
  rw [e2] at hd
  have := hB d hd
  omega
 have hkk : k + p.n * (2 + 2 * (125 * B) + (B + 1)) ≤ 500000 := by
  have := Nat.mul_le_mul_right (2 + 2 * (125 * B) + (B + 1)) (show p.n ≤ 12 by omega)
  omega
 have := jn p L m2 c2 tn k 125 (2 + 2 * (125 * B) + (B + 1)) w hT hp hlim hcap hS hv (by decide) hG hkk
 rw [hE, hVV] at this
 exact this
end Go.Proofs.YtioilmppidlbnaaGreatDoor
/- The walk through the law LiftValues. -/
namespace Go.Proofs.YtioilmppidlbnaaGreatDoor
open Go.RowKit
theorem lv (fa g : FX) (L : Option Addr) (m2 c2 : Nat) (tn : List NR) (w : World) (hT : fQ w) (hf : fa.at_ w) (hcf : fa.m ≤ fa.b) (hg : g.at_ w) (hcg : g.m ≤ g.b) (hS : Sl w L m2 3 (bG NR.cells tn)) :
  Calls Tryz.prog 5 #[.agg #[.slice fa.A fa.n fa.a, .slice fa.B fa.m fa.b], .agg #[.slice g.A g.n g.a, .slice g.B g.m g.b], .slice L m2 c2] w fun r w' => r = .returned (.bool true) ∧ Below w.heap.size w w' := by
 have hh := Hp.start w
 have hlt2 := hS.cR NR.len (by decide)
 refine al (N := 184) (l := [.agg #[.slice fa.A fa.n fa.a, .slice fa.B fa.m fa.b], .agg #[.slice g.A g.n g.a, .slice g.B g.m g.b], .slice L m2 c2]) Tryz.func5 rfl rfl (by simp) ?_
 refine sr ?_
 refine dw hh [_,_] ?_
 intro b3 w3 hh
 refine dw hh [_,_] ?_
 intro b4 w4 hh
 refine aB (aa (ah (sr ?_)))
 refine cP hh 1 [_,_] ?_
 refine cP hh 0 [_,_] ?_
 refine aG hh (cs := [_, _, _, _]) aH.out aD.out (aF (cM rfl) (aF (cM rfl) bE)) rfl rfl (by decide) (by decide) (by decide) rfl (by decide) ?_
 intro b31 w31 hh
 refine aR (qQ _ 2 _ [fa, g] _ (hh.aQ (i := 0) rfl) (by simpa using ⟨hf.ext hh.below, hg.ext hh.below⟩)) av.out rfl (by decide) ?_
 rintro e_ w32 ⟨p3, rfl, hm, hb_⟩
 refine ⟨_, rfl, ?_⟩
 replace hh := hh.ext hb_
 replace hh := hh.sub (List.Sublist.cons _ (List.Sublist.cons_cons _ (List.Sublist.cons_cons _ List.Sublist.slnil)))
 cases p3 with
 | true =>
  refine mB ?_
  first | refine gS ?_ | (refine gT ?_; refine mL ?_) | refine gV ?_
  first | refine gS ?_ | (refine gT ?_; refine aV ?_) | refine gV ?_
  first | refine gS ?_ | (refine gT ?_; refine bQ ?_) | refine gV ?_
  first | refine dh ?_ | refine de ?_
  refine aa (cT (sr ?_))
  refine bF hh (dy _ (hT.hp hh)) rfl ?_
  intro w38 hh
  refine aB (aa (aq (aM ?_)))
  refine ck ?_
  exact ⟨rfl, hh.below⟩
 | false =>
  have hsf := (hm rfl).2 fa (by simp)
  have hsg := (hm rfl).2 g (by simp)
  clear hm
  by_cases h20 : 20 < m2
  ·refine mB ?_
   first | refine gS ?_ | (refine gT ?_; refine mL ?_) | refine gV ?_
   first | refine gS ?_ | (refine gT ?_; refine aV ?_) | refine gV ?_
   first | refine gS ?_ | (refine gT ?_; refine bQ ?_) | refine gV ?_
   first | refine dh ?_ | refine de ?_
   refine aa (cT (sr ?_))
   refine bF hh (dy _ (hT.hp hh)) rfl ?_
   intro w38 hh
   refine aB (aa (aq (aM ?_)))
   refine ck ?_
   exact ⟨rfl, hh.below⟩
  ·refine mB ?_
   first | refine gS ?_ | (refine gT ?_; refine mL ?_) | refine gV ?_
   first | refine gS ?_ | (refine gT ?_; refine aV ?_) | refine gV ?_
   first | refine gS ?_ | (refine gT ?_; refine bQ ?_) | refine gV ?_
   first | refine dh ?_ | refine de ?_
   refine aa (cF (ak (ai (ah (sr (aI (aa (aj ?_))))))))
   refine bo [6, 7, 39, 40, 41, 42, 43, 44, 45, 46, 47, 48, 49, 50] 7
    (fun v w' => ∃ i : Nat, i ≤ m2 ∧ v = .int .i64 i ∧ (∀ s ∈ tn.take i, nC s = false) ∧ Hp w [.blk b4 28 [.slice g.A g.n g.a, .slice g.B g.m g.b] (0, 0), .blk b3 28 [.slice fa.A fa.n fa.a, .slice fa.B fa.m fa.b] (0, 0)] w')
    (fun v _ => m2 - (intOf v).toNat) ?_ ?_
   ·exact ⟨0, Nat.zero_le _, rfl, fun s hs => (by simp at hs), hh⟩
   ·clear hh
    rintro ρ' v w' ⟨i, hi, rfl, hall, hh⟩
    by_cases hlt : i < m2
    ·obtain ⟨x, hx⟩ := ay (l := tn) (k := i) (by omega)
     obtain ⟨ad, rfl, hr⟩ := hS.at_ (by omega)
     have hc := fun w1 => nJ x w1
     refine ah (sr (mI (mL (aV ?_))))
     refine aJ (aa (cT (ak (ai (ah (aj (sr (mL (mI ?_)))))))))
     refine aC (k := i) aH.out aD.size rfl rfl (by omega) (by omega) (by decide) ?_
     refine cI (vs := [_, _, _]) aD.out rfl ((hr.ext hh.below).recAt NR.len hx) rfl (by decide) ?_
     cases hb : nC x with
     | true =>
      rw [hb] at hc
      refine bF hh (hc _) rfl ?_
      intro w49 hh
      refine aa (cT (sr ?_))
      refine bF hh (dy _ (hT.hp hh)) rfl ?_
      intro w50 hh
      refine aB (aa (aq (bO (aM (aM (bO (aM ?_)))))))
      refine ck ?_
      exact ⟨rfl, hh.below⟩
     | false =>
      rw [hb] at hc
      refine bF hh (hc _) rfl ?_
      intro w49 hh
      refine aa (cF (ak (aW (ai (ao (mI ?_))))))
      refine bx (aI (aE (ai ?_)))
      refine ⟨⟨i + 1, by omega, rfl, fun y hy => ?_, hh⟩, by show m2 - (i + 1) < m2 - i; omega, ?_⟩
      ·rw [aO hx, List.mem_append, List.mem_singleton] at hy
       rcases hy with hy | rfl
       ·exact hall y hy
       ·exact hb
      ·(repeat (first | exact aw _ _ _ | refine aA rfl ?_ | refine ar rfl ?_))
    ·rw [List.take_of_length_le (by omega)] at hall
     have hv : ∀ s ∈ tn, Val 125 s s.d ∧ Sz 125 (1 - s.d) := fun s hs => wZ (hall s hs)
     clear hall
     have hev1 := fun w1 hT1 hb => jn fa L m2 c2 tn 124 125 14812 w1 hT1 (hf.ext hb) hsf.1 hcf (hS.ext hb) hv (by decide) (fun h0 d hd => by have := fV hsf h0 hf.ln.2 d hd; omega) (by have := Nat.mul_le_mul_right 14812 hsf.2.2; omega)
     have hev2 := fun w1 hT1 hb => jn g L m2 c2 tn 124 125 14812 w1 hT1 (hg.ext hb) hsg.1 hcg (hS.ext hb) hv (by decide) (fun h0 d hd => by have := fV hsg h0 hg.ln.2 d hd; omega) (by have := Nat.mul_le_mul_right 14812 hsg.2.2; omega)
     refine ah (sr (mI (mL (aV ?_))))
     refine aJ (aa (cF ?_))
     refine aN ?_
     refine az (az (a7 (ai (sr ?_))))
     refine cP hh 1 [_,_] (mL ?_)
     refine bF hh (hev1 _ (hT.hp hh) hh.below) rfl ?_
     intro w54 hh
     refine mT ?_
     refine dE ?_
     refine dE ?_
     refine cu hh ?_
     intro b8 w8 hh
     refine bM hh 0 [_,_,_] ?_
     intro ws hh
     replace hh : Hp _ (.blk _ _ [_, _, _] _ :: _) _ := hh
     refine aI (aa (sr ?_))
     refine cP hh 1 [_,_] (mL ?_)
     refine bF hh (hev2 _ (hT.hp hh) hh.below) rfl ?_
     intro w60 hh
     by_cases h1 : su fa m2 = 0
     ·by_cases h2 : su g m2 = 0
      ·obtain ⟨e1, n1⟩ := qC h1
       obtain ⟨e2, n2⟩ := qC h2
       have hV1 : kG fa tn = fH fa.ns.reverse (fa.cs.map NR.d) (tn.map NR.d).reverse := by unfold kG; rw [hlt2, h1, if_pos rfl]
       have hV2 : kG g tn = fH g.ns.reverse (g.cs.map NR.d) (tn.map NR.d).reverse := by unfold kG; rw [hlt2, h2, if_pos rfl]
       have zV1 := uh hsf e1 hf.ln.2 hv
       have zV2 := uh hsg e2 hg.ln.2 hv
       rw [← hV1] at zV1
       rw [← hV2] at zV2
       have hfn : fa.ns.length = fa.n := by unfold FX.ns; rw [List.length_map]; exact hf.ln.1
       have hgn : g.ns.length = g.n := by unfold FX.ns; rw [List.length_map]; exact hg.ln.1
       have hlk := k7 e1 e2 (by omega)
       have hlnn : ∀ f ∈ [fa, g], f.ds.length = f.n := by simpa using ⟨hf.ln.1, hg.ln.1⟩
       obtain ⟨a1, a2, a3⟩ := l9 hlk hlnn fa (by simp)
       obtain ⟨c1, c2', -⟩ := l9 hlk hlnn g (by simp)
       have hD59 := wH (fV hsf e1 hf.ln.2) (fV hsg e2 hg.ln.2)
       have h12 := (FX.fv e1).2.2.1
       have lx := pG a1 a2
       have ly := pG c1 c2'
       have vx := og (ns := fa.ns) (D := maxD [fa, g]) (xs := fa.cs.map NR.d) (ts := (tn.map NR.d).reverse) a1.symm a2 (by rw [List.length_reverse, List.length_map]; omega)
       have vy := og (ns := g.ns) (D := maxD [fa, g]) (xs := g.cs.map NR.d) (ts := (tn.map NR.d).reverse) c1.symm c2' (by rw [List.length_reverse, List.length_map]; omega)
       rw [← hV1] at vx
       rw [← hV2] at vy
       have vs := val_add (ds := (maxD [fa, g]).reverse) (a := gx (maxD [fa, g]) fa) (b := gx (maxD [fa, g]) g) (ts := (tn.map NR.d).reverse) (by omega)
       rw [show fH (maxD [fa, g]).reverse (gx (maxD [fa, g]) fa) (tn.map NR.d).reverse = kG fa tn from vx, show fH (maxD [fa, g]).reverse (gx (maxD [fa, g]) g) (tn.map NR.d).reverse = kG g tn from vy] at vs
       have hboth := fun w1 hT1 hb => xA fa g 124 w1 hT1 (hf.ext hb) (hg.ext hb) hsf.1 hsg.1 (by have := hsf.2.1; omega) (by have := hsg.2.1; omega) (by decide)
       have hadd := fun A cc w1 hT1 hS1 (hb : Below w.heap.size w w1) => tc A 2 cc [fa, g] 124 w1 hT1 hS1 (by decide) (by simpa using ⟨hf.ext hb, hg.ext hb⟩) (by simpa using ⟨hsf.1, hsg.1⟩) (by have := hsf.2.1; have := hsg.2.1; simp; omega) (by decide)
       have hev := fun p ys V k B w1 hT1 o hp hc hb hyl hcc hz hk hB hV => Ad p (maxD [fa, g]) ys V L m2 c2 tn k B w1 hT1 o hp hc (hS.ext hb) hv (by omega) a3 hB hyl hcc (by omega) hz hk hV
       have hsum := fun A cc w1 hT1 hS1 => fT A 2 cc [nR (kG fa tn), nR (kG g tn)] w1 hT1 hS1 (by simpa using ⟨zV1.ok (by omega), zV2.ok (by omega)⟩) 2000000 (by simpa [eR] using ⟨zV1.mono (by omega), zV2.mono (by omega)⟩) (by omega)
       rw [show ji ([nR (kG fa tn), nR (kG g tn)].map NR.d) = kG fa tn + kG g tn by simp only [List.map_cons, List.map_nil, eR, ig]] at hsum
       refine mT ?_
       refine dE ?_
       refine dE ?_
       refine cu hh ?_
       intro b10 w10 hh
       refine bM hh 0 [_,_,_] ?_
       intro ws hh
       replace hh : Hp _ (.blk _ _ [_, _, _] _ :: _) _ := hh
       refine aI (aa (ah (sr (mI ?_))))
       refine dt (mB ?_)
       first | refine gS ?_ | (refine gT ?_; refine mI ?_) | refine gV ?_
       first | refine gS ?_ | (refine gT ?_; refine dt ?_) | refine gV ?_
       first | refine dh ?_ | refine de ?_
       refine aa (cF (ak (ai (sr ?_))))
       refine cP hh 3 [_,_] ?_
       refine cP hh 2 [_,_] ?_
       refine aR (hboth _ (hT.hp hh) hh.below) av.out rfl (by decide) ?_
       rintro e_ w73 ⟨x, y, ox, oy, rfl, h3⟩
       refine ⟨_, rfl, ?_⟩
       replace hh := hh.join h3
       simp only [List.cons_append, List.nil_append] at hh
       clear h3
       refine mT ?_
       refine dE ?_
       refine dE ?_
       refine dE ?_
       refine cu hh ?_
       intro b12 w12 hh
       refine cu hh ?_
       intro b13 w13 hh
       refine bM hh 1 [_,_] ?_
       intro ws hh
       replace hh : Hp _ (_ :: .blk _ _ [_, _] _ :: _) _ := hh
       refine bM hh 0 [_,_] ?_
       intro ws hh
       replace hh : Hp _ (.blk _ _ [_, _] _ :: _) _ := hh
       refine aI (aa (sr ?_))
       refine cP hh 9 [_,_] ?_
       refine cP hh 8 [_,_] ?_
       refine aG hh (cs := [_, _, _, _]) aH.out aD.out (aF (cM rfl) (aF (cM rfl) bE)) rfl rfl (by decide) (by decide) (by decide) rfl (by decide) ?_
       intro b80 w80 hh
       refine aR (hadd _ _ _ (hT.hp hh) (hh.aQ (i := 0) rfl) hh.below) av.out rfl (by decide) ?_
       rintro e_ w81 ⟨s, os, rfl, h3⟩
       refine ⟨_, rfl, ?_⟩
       replace hh := hh.join h3
       simp only [List.cons_append, List.nil_append] at hh
       clear h3
       have hm1 := fun w1 hT1 hb => tj fa g 124 w1 hT1 (hf.ext hb) (hg.ext hb) hsf.1 hsg.1 (by have := hsf.2.1; omega) (by have := hsg.2.1; omega) (by decide)
       have hm2 := fun w1 hT1 hb => tj g fa 124 w1 hT1 (hg.ext hb) (hf.ext hb) hsg.1 hsf.1 (by have := hsg.2.1; omega) (by have := hsf.2.1; omega) (by decide)
       have lfa : (fa.cs.map NR.d).length = au fa.ns := by rw [List.length_map]; exact (FX.fv e1).2.2.2.2.1
       have lga : (g.cs.map NR.d).length = au g.ns := by rw [List.length_map]; exact (FX.fv e2).2.2.2.2.1
       rw [uO e1 e2 (by omega), iq g.ns, rY _ _ lga lfa] at hm2
       have vp := oA (ns := fa.ns) (ms := g.ns) (fa.cs.map NR.d) (g.cs.map NR.d) (tn.map NR.d).reverse (by omega)
       rw [← hV1, ← hV2] at vp
       have hpB := wV (fV hsf e1 hf.ln.2) (fV hsg e2 hg.ln.2)
       have hpl : (bU fa.ns g.ns).length = fa.ns.length := gl (by omega)
       have zp : ∀ x ∈ fS fa.ns g.ns (fa.cs.map NR.d) (g.cs.map NR.d), Sz 3848 x := fun x hx => by
        refine (qN (k1 := 124) (k2 := 124) (fun y hy => ?_) (fun y hy => ?_) x hx).mono ?_
        ·obtain ⟨c, hc, rfl⟩ := List.mem_map.1 hy
         exact (hsf.1.num c hc).2
        ·obtain ⟨c, hc, rfl⟩ := List.mem_map.1 hy
         exact (hsg.1.num c hc).2
        ·have := hsf.2.1
         have := hsg.2.1
         have := hf.ln.2
         have := hg.ln.2
         rw [List.length_map] at lfa lga
         have h9 : au g.ns * au fa.ns ≤ 60 * 60 := Nat.mul_le_mul (by omega) (by omega)
         omega
       have hcc3 : ke fa g = 0 → au (bU fa.ns g.ns) ≤ 4096 := fun h => (wR h).2.2
       have hev3 := fun p w1 hT1 o hp hc hb hcc => Ad p (bU fa.ns g.ns) (fS fa.ns g.ns (fa.cs.map NR.d) (g.cs.map NR.d)) _ L m2 c2 tn 3848 118 w1 hT1 o hp hc (hS.ext hb) hv (by omega) (fun d hd => by have := hpB d hd; omega) (fun d hd => by have := hpB d hd; omega) (uV _ _ _ _) hcc (by omega) zp (by decide) vp
       have hmul := fun A cc w1 hT1 hS1 => iQ A 2 cc [nR (kG fa tn), nR (kG g tn)] w1 hT1 hS1 (by simpa using ⟨zV1.ok (by omega), zV2.ok (by omega)⟩) 600000 (by simpa [eR] using ⟨zV1.mono (by omega), zV2.mono (by omega)⟩) (by omega) (by omega)
       rw [show g9 ([nR (kG fa tn), nR (kG g tn)].map NR.d) = kG fa tn * kG g tn by simp only [List.map_cons, List.map_nil, eR]; show 1 * _ * _ = _; rw [Dyadic.one_mul]] at hmul
       clear hev1 hev2 hboth hadd zp hpB vp zV1 zV2 lfa lga
       generalize fS fa.ns g.ns (fa.cs.map NR.d) (g.cs.map NR.d) = y3 at *
       generalize bU fa.ns g.ns = D3 at *
       generalize ke fa g = E3 at *
       clear hV1 hV2
       generalize kG fa tn = V1 at *
       generalize kG g tn = V2 at *
       by_cases hE : cx [fa, g] = 0
       ·obtain ⟨-, -, hcc⟩ := lq hE hlnn
        rw [hE] at ox oy os
        have zx := oF hsf e1 hf.ln.2 a1 a2 a3 hcc
        have zy := oF hsg e2 hg.ln.2 c1 c2' a3 hcc
        have zs := xL (by omega) zx zy
        have ls := gk (a := gx (maxD [fa, g]) fa) (b := gx (maxD [fa, g]) g) (by omega)
        refine mT ?_
        refine dE ?_
        refine dE ?_
        refine cu hh ?_
        intro b15 w15 hh
        refine bM hh 0 [_,_] ?_
        intro ws hh
        replace hh : Hp _ (.blk _ _ [_, _] _ :: _) _ := hh
        refine aI (aa (ah (sr (mI (mI ?_)))))
        refine dt (aa (cF (ak (ai (ah (sr (mI ?_)))))))
        refine dN (aa (cT (sr ?_)))
        refine cP hh 5 [_,_] (mL ?_)
        refine bF hh (hev x _ V1 250000 59 _ (hT.hp hh) ox (hh.gY (List.mem_of_getElem? (i := 8) rfl) (List.mem_of_getElem? (i := 9) rfl)) (hh.lN (i := 8) rfl) hh.below lx hcc zx (by decide) hD59 vx) rfl ?_
        intro w92 hh
        refine mT ?_
        refine dE ?_
        refine dE ?_
        refine cu hh ?_
        intro b17 w17 hh
        refine bM hh 0 [_,_,_] ?_
        intro ws hh
        replace hh : Hp _ (.blk _ _ [_, _, _] _ :: _) _ := hh
        refine aI (aa (sr ?_))
        refine cP hh 5 [_,_] (mL ?_)
        refine bF hh (hev y _ V2 250000 59 _ (hT.hp hh) oy (hh.gY (List.mem_of_getElem? (i := 7) rfl) (List.mem_of_getElem? (i := 8) rfl)) (hh.lN (i := 7) rfl) hh.below ly hcc zy (by decide) hD59 vy) rfl ?_
        intro w98 hh
        refine mT ?_
        refine dE ?_
        refine dE ?_
        refine cu hh ?_
        intro b19 w19 hh
        refine bM hh 0 [_,_,_] ?_
        intro ws hh
        replace hh : Hp _ (.blk _ _ [_, _, _] _ :: _) _ := hh
        refine aI (aa (sr ?_))
        refine cP hh 2 [_,_] (mL ?_)
        refine bF hh (hev s _ (V1 + V2) 250001 59 _ (hT.hp hh) os (hh.gY (List.mem_of_getElem? (i := 3) rfl) (List.mem_of_getElem? (i := 4) rfl)) (hh.lN (i := 3) rfl) hh.below (ls.trans lx) hcc zs (by decide) hD59 vs) rfl ?_
        intro w104 hh
        refine mT ?_
        refine dE ?_
        refine dE ?_
        refine cu hh ?_
        intro b21 w21 hh
        refine bM hh 0 [_,_,_] ?_
        intro ws hh
        replace hh : Hp _ (.blk _ _ [_, _, _] _ :: _) _ := hh
        refine aI (aa (ah ?_))
        refine jq [] [] [0, 1, 3, 7, 15, 31, 63, 127, 255, 511, 1023, 2047, 2047, 8191, 16383, 32767, 65535, 65535, 262143, 524287, 1048575, 2097151, 2097151, 2097151, 14680063, 31457279, 67108863, 134217727] 26 [[(18, none)], [(107, some 0)], [(108, some 1)], [(20, none), (109, some 2)], [(110, some 3), (109, some 2)], [(109, some 2), (111, some 4)], [(112, some 5)], [(22, none), (113, some 6)], [(114, some 7), (113, some 6)], [(113, some 6), (115, some 8)], [(116, some 9)], [(17, none), (117, some 10)], [(8, none), (117, some 10)], [(118, some 11), (119, some 12), (117, some 10)], [(117, some 10), (120, some 13)], [(121, some 14)], [(19, none), (122, some 15)], [(10, none), (122, some 15)], [(123, some 16), (124, some 17), (122, some 15)], [(122, some 15), (125, some 18)], [(126, some 19)], [(21, none), (127, some 20)], [(8, none), (127, some 20)], [(10, none), (127, some 20)], [(129, some 22), (130, some 23), (127, some 20)], [(131, some 24), (127, some 20)]] [(25, 132), (24, 131), (23, 130), (22, 129), (21, 128), (20, 127), (19, 126), (18, 125), (17, 124), (16, 123), (15, 122), (14, 121), (13, 120), (12, 119), (11, 118), (10, 117), (9, 116), (8, 115), (7, 114), (6, 113), (5, 112), (4, 111), (3, 110), (2, 109), (1, 108), (0, 107)] hh mixed (by kernel_rfl) kS rfl (by repeat (first | exact o9 | refine mf ?_ | refine pM ?_)) ?_
        refine eM ?_
        refine zz ?_
        refine yC ?_
        first | refine dS ?_ | refine dU ?_ | refine dG (eM ?_)
        first | refine dS ?_ | refine dU ?_ | refine dG (zz ?_)
        first | refine dpT ?_ | refine AG ?_
        refine yC ?_
        first | refine dS ?_ | refine dU ?_ | refine dG (eM ?_)
        first | refine dS ?_ | refine dU ?_ | refine dG (zz ?_)
        first | refine dpT ?_ | refine AG ?_
        refine yC ?_
        first | refine dS ?_ | refine dU ?_ | refine dG (gh 2 [_,_,_] ?_)
        first | refine dS ?_ | refine dU ?_ | refine dG (gh 14 [_,_,_] ?_)
        first | refine dx_skip (i := 13) rfl (fun ρ1 w1 hj hR => (show ρ1 117 = Value.bool _ from hR.2.2.1)) (by decide) ?_ | refine dx_skipU (i := 13) rfl (fun ρ1 w1 hj hR => (show ρ1 117 = undef from hR.2.2.1)) ?_ | refine mn (i := 13) rfl (fun ρ1 w1 hj hR => (show ρ1 117 = Value.bool _ from hR.2.2.1)) (fun ρ1 w1 hj hR => pE (show ρ1 118 = Value.agg (List.toArray _) from hR.1) (show ρ1 119 = Value.agg (List.toArray _) from hR.2.1) (by first | assumption | rfl)) ?_ | refine mn (i := 13) rfl (fun ρ1 w1 hj hR => (show ρ1 117 = Value.bool _ from hR.2.2.1)) (fun ρ1 w1 hj hR => pB (show ρ1 118 = Value.agg (List.toArray _) from hR.1) (show ρ1 119 = Value.agg (List.toArray _) from hR.2.1) (by assumption)) ?_
        first | refine dpT ?_ | refine AG ?_
        refine yC ?_
        first | refine dS ?_ | refine dU ?_ | refine dG (gh 1 [_,_,_] ?_)
        first | refine dS ?_ | refine dU ?_ | refine dG (gh 13 [_,_,_] ?_)
        first | refine dx_skip (i := 18) rfl (fun ρ1 w1 hj hR => (show ρ1 122 = Value.bool _ from hR.2.2.1)) (by decide) ?_ | refine dx_skipU (i := 18) rfl (fun ρ1 w1 hj hR => (show ρ1 122 = undef from hR.2.2.1)) ?_ | refine mn (i := 18) rfl (fun ρ1 w1 hj hR => (show ρ1 122 = Value.bool _ from hR.2.2.1)) (fun ρ1 w1 hj hR => pE (show ρ1 123 = Value.agg (List.toArray _) from hR.1) (show ρ1 124 = Value.agg (List.toArray _) from hR.2.1) (by first | assumption | rfl)) ?_ | refine mn (i := 18) rfl (fun ρ1 w1 hj hR => (show ρ1 122 = Value.bool _ from hR.2.2.1)) (fun ρ1 w1 hj hR => pB (show ρ1 123 = Value.agg (List.toArray _) from hR.1) (show ρ1 124 = Value.agg (List.toArray _) from hR.2.1) (by assumption)) ?_
        first | refine dpT ?_ | refine AG ?_
        refine yC ?_
        first | refine dS ?_ | refine dU ?_ | refine dG (gh 0 [_,_,_] ?_)
        first | refine dS ?_ | refine dU ?_ | refine dG (gh 14 [_,_,_] ?_)
        first | refine dS ?_ | refine dU ?_ | refine dG (gh 13 [_,_,_] ?_)
        refine fk (i := 24) (cs := [_, _, _, _, _, _]) rfl (fun ρ1 w1 hj hR => (show ρ1 127 = Value.bool _ from hR.2.2.1)) aH.out aD.out (fun ρ1 w1 hj hR => (aF (show ρ1 129 = Value.agg (List.toArray _) from hR.1) (aF (show ρ1 130 = Value.agg (List.toArray _) from hR.2.1) bE))) rfl rfl (by decide) (by decide) rfl ?_
        refine dD (i := 25) (Is (.agg #[.bool (nR (V1 + V2)).neg, .string (nR (V1 + V2)).bP, .int .i64 (nR (V1 + V2)).e])) Is.ext ?_ ?_
        ·intro ρ1 w1 hj hR
         obtain ⟨A131, c131, h131, s131⟩ := hR.1
         refine dV rfl ((show ρ1 127 = Value.bool _ from hR.2.1)) ?_
         exact dP rfl (cW av.out (bj h131 cj)) (hsum A131 c131 _ (hT.hp hj.hp) s131) (fun _ _ hq => ⟨_, hq.1, hq.2, rfl⟩)
        refine bA ?_
        intro f W hJ hV _
        have hb_20 := hJ.bl
        obtain ⟨v132, v131, v130, v129, v128, v127, v126, v125, v124, v123, v122, v121, v120, v119, v118, v117, v116, v115, v114, v113, v112, v111, v110, v109, v108, v107, _⟩ := hV
        obtain ⟨A131, c131, e131, f131⟩ : Rows _ _ _ (f 24) W := v131
        replace hh := hJ.hp
        refine bf (bz (ae v132 (ae e131 (ae v130 (ae v129 (ae v128 (ae v127 (ae v126 (ae v125 (ae v124 (ae v123 (ae v122 (ae v121 (ae v120 (ae v119 (ae v118 (ae v117 (ae v116 (ae v115 (ae v114 (ae v113 (ae v112 (ae v111 (ae v110 (ae v109 (ae v108 (ae v107 bg))))))))))))))))))))))))))) ?_
        dsimp only [cH]
        clear e131 hJ
        first | refine gS ?_ | (refine gT ?_; (first | refine mc rfl rfl (by first | assumption | rfl) (by decide) ?_ | refine l5 rfl rfl (by assumption) (by decide) ?_)) | refine gV ?_
        first | refine dh ?_ | refine de ?_
        refine aa (cF (ak (ai (sr ?_))))
        refine cP hh 16 [_,_] ?_
        refine cP hh 15 [_,_] ?_
        replace hh := hh.sub (List.Sublist.cons _ (List.Sublist.cons _ (List.Sublist.cons _ (List.Sublist.cons _ (List.Sublist.cons _ (List.Sublist.cons _ (List.Sublist.cons _ (List.Sublist.cons _ (List.Sublist.cons _ (List.Sublist.cons _ (List.Sublist.cons _ (List.Sublist.cons _ (List.Sublist.cons _ (List.Sublist.cons_cons _ (List.Sublist.cons_cons _ (List.Sublist.cons_cons _ (List.Sublist.cons_cons _ List.Sublist.slnil)))))))))))))))))
        refine aR (hm1 _ (hT.hp hh) hh.below) av.out rfl (by decide) ?_
        rintro e_ w138 ⟨p, op, rfl, h3⟩
        refine ⟨_, rfl, ?_⟩
        replace hh := hh.join h3
        simp only [List.cons_append, List.nil_append] at hh
        clear h3
        refine mT ?_
        refine dE ?_
        refine dE ?_
        refine cu hh ?_
        intro b23 w23 hh
        refine bM hh 0 [_,_] ?_
        intro ws hh
        replace hh : Hp _ (.blk _ _ [_, _] _ :: _) _ := hh
        refine aI (aa (sr ?_))
        refine cP hh 5 [_,_] ?_
        refine cP hh 6 [_,_] ?_
        refine aR (hm2 _ (hT.hp hh) hh.below) av.out rfl (by decide) ?_
        rintro e_ w144 ⟨p', op', rfl, h3⟩
        refine ⟨_, rfl, ?_⟩
        replace hh := hh.join h3
        simp only [List.cons_append, List.nil_append] at hh
        clear h3
        refine mT ?_
        refine dE ?_
        refine dE ?_
        refine cu hh ?_
        intro b25 w25 hh
        refine bM hh 0 [_,_] ?_
        intro ws hh
        replace hh : Hp _ (.blk _ _ [_, _] _ :: _) _ := hh
        refine aI (aa (ah (sr (mI (mI ?_)))))
        refine dt (mB ?_)
        first | refine gS ?_ | (refine gT ?_; refine cP hh 3 [_,_] ?_) | refine gV ?_
        first | refine gS ?_ | (refine gT ?_; refine cP hh 0 [_,_] ?_) | refine gV ?_
        refine aZ rfl rfl ?_
        refine bF hh (jf p p' _ (hh.gY (List.mem_of_getElem? (i := 4) rfl) (List.mem_of_getElem? (i := 5) rfl)) (hh.gY (List.mem_of_getElem? (i := 1) rfl) (List.mem_of_getElem? (i := 2) rfl)) (op.same op') op.n op.m) rfl ?_
        intro w153 hh
        by_cases hE3 : E3 = 0
        ·rw [hE3] at op
         first | refine gS ?_ | (refine gT ?_; refine nW ?_) | refine gV ?_
         first | refine dh ?_ | refine de ?_
         refine aa (cF (ak (ai (ah (sr (mI ?_))))))
         refine dt (aa (cF (ak (ai (sr ?_)))))
         refine cP hh 3 [_,_] (mL ?_)
         refine bF hh (hev3 p _ (hT.hp hh) op (hh.gY (List.mem_of_getElem? (i := 4) rfl) (List.mem_of_getElem? (i := 5) rfl)) (hh.lN (i := 4) rfl) hh.below (hcc3 hE3)) rfl ?_
         intro w168 hh
         refine mT ?_
         refine dE ?_
         refine dE ?_
         refine cu hh ?_
         intro b27 w27 hh
         refine bM hh 0 [_,_,_] ?_
         intro ws hh
         replace hh : Hp _ (.blk _ _ [_, _, _] _ :: _) _ := hh
         refine aI (aa (ah ?_))
         refine jq [] [] [0, 1, 3, 7, 7, 7, 55, 119, 255, 511, 1023, 2047, 4095, 8191] 8 [[(28, none)], [(171, some 0)], [(172, some 1)], [(27, none), (173, some 2)], [(8, none), (173, some 2)], [(10, none), (173, some 2)], [(175, some 4), (176, some 5), (173, some 2)], [(177, some 6), (173, some 2)]] [(7, 178), (6, 177), (5, 176), (4, 175), (3, 174), (2, 173), (1, 172), (0, 171)] hh mixed (by kernel_rfl) kS rfl (by repeat (first | exact o9 | refine mf ?_ | refine pM ?_)) ?_
         refine eM ?_
         refine zM ?_
         refine yC ?_
         first | refine dS ?_ | refine dU ?_ | refine dG (gh 0 [_,_,_] ?_)
         first | refine dS ?_ | refine dU ?_ | refine dG (gh 8 [_,_,_] ?_)
         first | refine dS ?_ | refine dU ?_ | refine dG (gh 7 [_,_,_] ?_)
         refine fk (i := 6) (cs := [_, _, _, _, _, _]) rfl (fun ρ1 w1 hj hR => (show ρ1 173 = Value.bool _ from hR.2.2.1)) aH.out aD.out (fun ρ1 w1 hj hR => (aF (show ρ1 175 = Value.agg (List.toArray _) from hR.1) (aF (show ρ1 176 = Value.agg (List.toArray _) from hR.2.1) bE))) rfl rfl (by decide) (by decide) rfl ?_
         refine dD (i := 7) (Is (.agg #[.bool (nR (V1 * V2)).neg, .string (nR (V1 * V2)).bP, .int .i64 (nR (V1 * V2)).e])) Is.ext ?_ ?_
         ·intro ρ1 w1 hj hR
          obtain ⟨A177, c177, h177, s177⟩ := hR.1
          refine dV rfl ((show ρ1 173 = Value.bool _ from hR.2.1)) ?_
          exact dP rfl (cW av.out (bj h177 cj)) (hmul A177 c177 _ (hT.hp hj.hp) s177) (fun _ _ hq => ⟨_, hq.1, hq.2, rfl⟩)
         refine bA ?_
         intro f W hJ hV _
         have hb_29 := hJ.bl
         obtain ⟨v178, v177, v176, v175, v174, v173, v172, v171, _⟩ := hV
         obtain ⟨A177, c177, e177, f177⟩ : Rows _ _ _ (f 6) W := v177
         replace hh := hJ.hp
         refine bf (bz (ae v178 (ae e177 (ae v176 (ae v175 (ae v174 (ae v173 (ae v172 (ae v171 bg))))))))) ?_
         dsimp only [cH]
         clear e177 hJ
         first | refine gS ?_ | (refine gT ?_; (first | refine iT rfl rfl (by first | assumption | rfl) (by decide) ?_ | refine iS rfl rfl (by assumption) (by decide) ?_)) | refine gV ?_
         first | refine dh ?_ | refine de ?_
         refine mB ?_
         refine aZ rfl rfl ?_
         refine bF hh (dy _ (hT.hp hh)) rfl ?_
         intro w182 hh
         first | refine dh ?_ | refine de ?_
         refine aB (aa (aq ?_))
         refine ck ?_
         exact ⟨rfl, hh.below⟩
        ·have hm0 : p.m = 0 := by
          have h7 := (hh.gY (f := p) (List.mem_of_getElem? (i := 4) rfl) (List.mem_of_getElem? (i := 5) rfl)).ln.2
          rw [op.cs] at h7
          unfold xg at h7
          rw [if_neg hE3] at h7
          exact h7.symm
         first | refine gS ?_ | (refine gT ?_; refine nW ?_) | refine gV ?_
         first | refine dh ?_ | refine de ?_
         refine aa (cF (ak (ai (ah (sr (mI ?_))))))
         refine dt (aa (cT (sr (bK ?_))))
         refine bL hh 3 ?_
         refine aV ?_
         refine dN (mB ?_)
         refine aZ rfl rfl ?_
         refine bF hh (dy _ (hT.hp hh)) rfl ?_
         intro w163 hh
         first | refine dh ?_ | refine de ?_
         refine aB (aa (aq (aM ?_)))
         refine ck ?_
         exact ⟨rfl, hh.below⟩
       ·refine mT ?_
        refine dE ?_
        refine dE ?_
        refine cu hh ?_
        intro b15 w15 hh
        refine bM hh 0 [_,_] ?_
        intro ws hh
        replace hh : Hp _ (.blk _ _ [_, _] _ :: _) _ := hh
        refine aI (aa (ah (sr (mI (mI ?_)))))
        refine dt (aa (cF (ak (ai (ah (sr (mI ?_)))))))
        refine dN (aa (cF (ak (ai (sr ?_)))))
        refine cP hh 13 [_,_] ?_
        refine cP hh 12 [_,_] ?_
        replace hh := hh.sub (List.Sublist.cons _ (List.Sublist.cons _ (List.Sublist.cons _ (List.Sublist.cons _ (List.Sublist.cons _ (List.Sublist.cons _ (List.Sublist.cons _ (List.Sublist.cons _ (List.Sublist.cons _ (List.Sublist.cons _ (List.Sublist.cons_cons _ (List.Sublist.cons_cons _ (List.Sublist.cons_cons _ (List.Sublist.cons_cons _ List.Sublist.slnil))))))))))))))
        refine aR (hm1 _ (hT.hp hh) hh.below) av.out rfl (by decide) ?_
        rintro e_ w138 ⟨p, op, rfl, h3⟩
        refine ⟨_, rfl, ?_⟩
        replace hh := hh.join h3
        simp only [List.cons_append, List.nil_append] at hh
        clear h3
        refine mT ?_
        refine dE ?_
        refine dE ?_
        refine cu hh ?_
        intro b23 w23 hh
        refine bM hh 0 [_,_] ?_
        intro ws hh
        replace hh : Hp _ (.blk _ _ [_, _] _ :: _) _ := hh
        refine aI (aa (sr ?_))
        refine cP hh 5 [_,_] ?_
        refine cP hh 6 [_,_] ?_
        refine aR (hm2 _ (hT.hp hh) hh.below) av.out rfl (by decide) ?_
        rintro e_ w144 ⟨p', op', rfl, h3⟩
        refine ⟨_, rfl, ?_⟩
        replace hh := hh.join h3
        simp only [List.cons_append, List.nil_append] at hh
        clear h3
        refine mT ?_
        refine dE ?_
        refine dE ?_
        refine cu hh ?_
        intro b25 w25 hh
        refine bM hh 0 [_,_] ?_
        intro ws hh
        replace hh : Hp _ (.blk _ _ [_, _] _ :: _) _ := hh
        refine aI (aa (ah (sr (mI (mI ?_)))))
        refine dt (mB ?_)
        first | refine gS ?_ | (refine gT ?_; refine cP hh 3 [_,_] ?_) | refine gV ?_
        first | refine gS ?_ | (refine gT ?_; refine cP hh 0 [_,_] ?_) | refine gV ?_
        refine aZ rfl rfl ?_
        refine bF hh (jf p p' _ (hh.gY (List.mem_of_getElem? (i := 4) rfl) (List.mem_of_getElem? (i := 5) rfl)) (hh.gY (List.mem_of_getElem? (i := 1) rfl) (List.mem_of_getElem? (i := 2) rfl)) (op.same op') op.n op.m) rfl ?_
        intro w153 hh
        by_cases hE3 : E3 = 0
        ·rw [hE3] at op
         first | refine gS ?_ | (refine gT ?_; refine nW ?_) | refine gV ?_
         first | refine dh ?_ | refine de ?_
         refine aa (cF (ak (ai (ah (sr (mI ?_))))))
         refine dt (aa (cF (ak (ai (sr ?_)))))
         refine cP hh 3 [_,_] (mL ?_)
         refine bF hh (hev3 p _ (hT.hp hh) op (hh.gY (List.mem_of_getElem? (i := 4) rfl) (List.mem_of_getElem? (i := 5) rfl)) (hh.lN (i := 4) rfl) hh.below (hcc3 hE3)) rfl ?_
         intro w168 hh
         refine mT ?_
         refine dE ?_
         refine dE ?_
         refine cu hh ?_
         intro b27 w27 hh
         refine bM hh 0 [_,_,_] ?_
         intro ws hh
         replace hh : Hp _ (.blk _ _ [_, _, _] _ :: _) _ := hh
         refine aI (aa (ah ?_))
         refine jq [] [] [0, 1, 3, 7, 7, 7, 55, 119, 255, 511, 1023, 2047, 4095, 8191] 8 [[(28, none)], [(171, some 0)], [(172, some 1)], [(27, none), (173, some 2)], [(8, none), (173, some 2)], [(10, none), (173, some 2)], [(175, some 4), (176, some 5), (173, some 2)], [(177, some 6), (173, some 2)]] [(7, 178), (6, 177), (5, 176), (4, 175), (3, 174), (2, 173), (1, 172), (0, 171)] hh mixed (by kernel_rfl) kS rfl (by repeat (first | exact o9 | refine mf ?_ | refine pM ?_)) ?_
         refine eM ?_
         refine zM ?_
         refine yC ?_
         first | refine dS ?_ | refine dU ?_ | refine dG (gh 0 [_,_,_] ?_)
         first | refine dS ?_ | refine dU ?_ | refine dG (gh 8 [_,_,_] ?_)
         first | refine dS ?_ | refine dU ?_ | refine dG (gh 7 [_,_,_] ?_)
         refine fk (i := 6) (cs := [_, _, _, _, _, _]) rfl (fun ρ1 w1 hj hR => (show ρ1 173 = Value.bool _ from hR.2.2.1)) aH.out aD.out (fun ρ1 w1 hj hR => (aF (show ρ1 175 = Value.agg (List.toArray _) from hR.1) (aF (show ρ1 176 = Value.agg (List.toArray _) from hR.2.1) bE))) rfl rfl (by decide) (by decide) rfl ?_
         refine dD (i := 7) (Is (.agg #[.bool (nR (V1 * V2)).neg, .string (nR (V1 * V2)).bP, .int .i64 (nR (V1 * V2)).e])) Is.ext ?_ ?_
         ·intro ρ1 w1 hj hR
          obtain ⟨A177, c177, h177, s177⟩ := hR.1
          refine dV rfl ((show ρ1 173 = Value.bool _ from hR.2.1)) ?_
          exact dP rfl (cW av.out (bj h177 cj)) (hmul A177 c177 _ (hT.hp hj.hp) s177) (fun _ _ hq => ⟨_, hq.1, hq.2, rfl⟩)
         refine bA ?_
         intro f W hJ hV _
         have hb_29 := hJ.bl
         obtain ⟨v178, v177, v176, v175, v174, v173, v172, v171, _⟩ := hV
         obtain ⟨A177, c177, e177, f177⟩ : Rows _ _ _ (f 6) W := v177
         replace hh := hJ.hp
         refine bf (bz (ae v178 (ae e177 (ae v176 (ae v175 (ae v174 (ae v173 (ae v172 (ae v171 bg))))))))) ?_
         dsimp only [cH]
         clear e177 hJ
         first | refine gS ?_ | (refine gT ?_; (first | refine iT rfl rfl (by first | assumption | rfl) (by decide) ?_ | refine iS rfl rfl (by assumption) (by decide) ?_)) | refine gV ?_
         first | refine dh ?_ | refine de ?_
         refine mB ?_
         refine aZ rfl rfl ?_
         refine bF hh (dy _ (hT.hp hh)) rfl ?_
         intro w182 hh
         first | refine dh ?_ | refine de ?_
         refine aB (aa (aq ?_))
         refine ck ?_
         exact ⟨rfl, hh.below⟩
        ·have hm0 : p.m = 0 := by
          have h7 := (hh.gY (f := p) (List.mem_of_getElem? (i := 4) rfl) (List.mem_of_getElem? (i := 5) rfl)).ln.2
          rw [op.cs] at h7
          unfold xg at h7
          rw [if_neg hE3] at h7
          exact h7.symm
         first | refine gS ?_ | (refine gT ?_; refine nW ?_) | refine gV ?_
         first | refine dh ?_ | refine de ?_
         refine aa (cF (ak (ai (ah (sr (mI ?_))))))
         refine dt (aa (cT (sr (bK ?_))))
         refine bL hh 3 ?_
         refine aV ?_
         refine dN (mB ?_)
         refine aZ rfl rfl ?_
         refine bF hh (dy _ (hT.hp hh)) rfl ?_
         intro w163 hh
         first | refine dh ?_ | refine de ?_
         refine aB (aa (aq (aM ?_)))
         refine ck ?_
         exact ⟨rfl, hh.below⟩
      ·refine mT ?_
       refine dE ?_
       refine dE ?_
       refine cu hh ?_
       intro b10 w10 hh
       refine bM hh 0 [_,_,_] ?_
       intro ws hh
       replace hh : Hp _ (.blk _ _ [_, _, _] _ :: _) _ := hh
       refine aI (aa (ah (sr (mI ?_))))
       refine dt (mB ?_)
       first | refine gS ?_ | (refine gT ?_; refine mI ?_) | refine gV ?_
       first | refine gS ?_ | (refine gT ?_; refine dt ?_) | refine gV ?_
       first | refine dh ?_ | refine de ?_
       refine aa (cT (sr ?_))
       refine bF hh (dy _ (hT.hp hh)) rfl ?_
       intro w69 hh
       refine aB (aa (aq (aM ?_)))
       refine ck ?_
       exact ⟨rfl, hh.below⟩
     ·refine mT ?_
      refine dE ?_
      refine dE ?_
      refine cu hh ?_
      intro b10 w10 hh
      refine bM hh 0 [_,_,_] ?_
      intro ws hh
      replace hh : Hp _ (.blk _ _ [_, _, _] _ :: _) _ := hh
      refine aI (aa (ah (sr (mI ?_))))
      refine dt (mB ?_)
      first | refine gS ?_ | (refine gT ?_; refine mI ?_) | refine gV ?_
      first | refine gS ?_ | (refine gT ?_; refine dt ?_) | refine gV ?_
      first | refine dh ?_ | refine de ?_
      refine aa (cT (sr ?_))
      refine bF hh (dy _ (hT.hp hh)) rfl ?_
      intro w69 hh
      refine aB (aa (aq (aM ?_)))
      refine ck ?_
      exact ⟨rfl, hh.below⟩
end Go.Proofs.YtioilmppidlbnaaGreatDoor
/- The row and the card of LiftValues. -/
namespace Go.Proofs.YtioilmppidlbnaaGreatDoor.liftValues
open Go.ChangeShapes Go.WideShapes Go.ChangeAt Go.RowKit Go.ChangeMaps
theorem own : ownKnob Tryz.prog.godebug = none := by kernel_rfl
set_option maxRecDepth 100000 in
theorem lifted (os : Os) (started : os.Started) (H : Type) (enc : TypeId × Value → H) :
  ReturnsInHanded {} Tryz.checked os 5 .any (fun w args => (Rows.liftValuesSpec.pre enc Tryz.prog Tryz.f5 Rows.liftValuesRow.domain false w args ∧ laidMetH Tryz.prog Rows.liftValuesRow.laid w) ∧ sizedMet enc Tryz.prog Tryz.f5 (OpenSpec.ofChange Rows.liftValuesSpec) false w args)
   (Rows.liftValuesSpec.post enc Tryz.prog Tryz.f5 false true false false) := by
 refine returnsInHanded_of_change_and (C := Tryz.checked) (X := fun w _ => laidMetH Tryz.prog Rows.liftValuesRow.laid w) (fun _ _ _ hh h => h.of_heap hh) own started (by kernel_rfl) Tryz.func5
  (ChangeSpec.witness_shaped (enc := enc) (C := Tryz.checked) (os := os) (X := fun w _ => laidMetH Tryz.prog Rows.liftValuesRow.laid w) false (World.laidAll Tryz.prog os Rows.liftValuesRow.laid) #[.agg #[.slice none 0 0, .slice none 0 0], .agg #[.slice none 0 0, .slice none 0 0], .slice none 0 0] 8 (World.laidAll_os _ _ _)
   (World.shaped_of_ZipB (by kernel_rfl) (by kernel_rfl)) (by kernel_rfl) (by kernel_rfl) (by kernel_rfl)
   (by rw [MakeChecks.laidMetH_plain _ _ _ (by kernel_rfl)]; exact laidMet_laidAll _ (by kernel_rfl) (by kernel_rfl))) ?_
 intro W base args ds gs before hval0 hW hc _ hL _
 have hval : ∀ (j : Nat) t v, Tryz.f5.params[j]? = some t → args[j]? = some v → Value.okWide Tryz.prog W .any base t v := hval0
 have hW' := hW
 obtain ⟨p, q, hA0, hV, rfl, hfz, hnd⟩ := hW
 have hA : DataW.TrodAll enc Tryz.prog W 0 (fun _ => true) true Tryz.f5.params.toList args.toList ds p := hA0
 rw [Tryz.params5] at hA hval
 obtain ⟨v0, vs0, d0, ds0, p0, q0, hargs, rfl, rfl, h0, r0⟩ := trodAll_cons hA
 obtain ⟨v1, vs1, d1, ds1, p1, q1, rfl, rfl, rfl, h1, r1⟩ := trodAll_cons r0
 obtain ⟨v2, vs2, d2, ds2, p2, q2, rfl, rfl, rfl, h2, r2⟩ := trodAll_cons r1
 obtain ⟨rfl, rfl, rfl⟩ := trodAll_nil r2
 obtain rfl : args = #[v0, v1, v2] := by cases args; simp_all
 obtain ⟨rfl, rfl⟩ := trodVars_none hV
 obtain ⟨f0, rfl, hS0, hR0⟩ := nL (hval 0 28 v0 rfl rfl) h0
 obtain ⟨f1, rfl, hS1, hR1⟩ := nL (hval 1 28 v1 rfl rfl) h1
 obtain ⟨A2, n2, c2, l2, rfl, hS2, _⟩ := vj (hval 2 26 v2 rfl rfl) h2
 refine (lv f0 f1 A2 n2 c2 l2 W (qR hL) hS0 hR0 hS1 hR1 hS2).mono fun e W' ⟨he, hb⟩ => ?_
 subst he
 exact ⟨_, rfl, vq hW' rfl (by kernel_rfl) (by rw [Tryz.params5]; exact of_decide_eq_true (by kernel_rfl)) (by kernel_rfl) Tryz.underlying4 rfl rfl rfl hb⟩
theorem row_holds : Rows.LiftValuesSaid :=
 OpenClaim.holds_of_wide 5 Tryz.f5 rfl rfl rfl rfl rfl rfl rfl ⟨rfl, rfl, rfl, rfl, rfl⟩ rfl rfl rfl rfl rfl (by kernel_rfl) Tryz.func5 (by kernel_rfl)
  (of_decide_eq_true (by kernel_rfl)) (by unfold Func.isWrapper; first | (rw [if_pos (by decide +kernel)]; kernel_rfl) | (rw [if_neg (by decide +kernel)]; exact ⟨rfl, rfl⟩))
  (fun os started H enc _ => lifted os started H enc)
theorem holds : Rows.LiftValuesCardSaid :=
 Claim7.holds_tied_plain_at .later [] [.data, .data, .pinned] true (true, "0b215af0b67f448459599e78ac8335c1e55d291f4b1ea5a16e79847ce8851b12") false row_holds (fun _ h => by cases h) (by kernel_rfl) (fun _ h => by cases h) liftValues_row_tie rfl ⟨rfl, rfl⟩ (by kernel_rfl) rfl
  (fun f fn hf hfn => by
   obtain rfl : f = 5 := Option.some.inj ((show Tryz.prog.funcNamed "ogee/ogeelaw14.LiftValues" = some 5 by kernel_rfl).symm.trans hf) |>.symm
   obtain rfl : fn = Tryz.f5 := (Option.some.inj (Tryz.func5.symm.trans hfn)).symm
   exact ⟨by kernel_rfl, fun j t ht => by
    rw [Tryz.params5] at ht
    have hm : t ∈ [28, 28, 26] := by simpa using Array.mem_of_getElem? ht
    have hall : ([28, 28, 26].all fun u => !Tryz.prog.wantsStandIn u) = true := by kernel_rfl
    exact (show Tryz.prog.wantsStandIn t = false by simpa using List.all_eq_true.1 hall t hm)⟩)
  (by kernel_rfl)
#print axioms holds
end Go.Proofs.YtioilmppidlbnaaGreatDoor.liftValues
