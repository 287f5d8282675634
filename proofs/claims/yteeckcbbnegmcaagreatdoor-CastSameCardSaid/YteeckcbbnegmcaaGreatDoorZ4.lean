/- Lemmas for castSame, part 4. -/
import Derived.LaidMore
import Derived.Lay
import Derived.Deep.Slices
import Derived.Stop.Joined
import Derived.Deep.Strs
import Derived.Laws.OwnMore
import Derived.Lib.SliceRun
import Derived.Test.YteeckcbbnegmcaaGreatDoorZ3
namespace Go.Proofs.YteeckcbbnegmcaaGreatDoor
variable {n : Nat}
open Go.RowKit
theorem nt : bu n = 0 ↔ n = 0 := by
 constructor
 ·intro h;have := cW n;rw [h] at this;omega
 ·intro h; rw [h]; exact ku
theorem mF {a b : Nat} (h : a ≤ b) : bu a ≤ bu b := dt (Tk h (cW b))
theorem Gi (a b : Nat) : bu (a + b) ≤ bu a + bu b + 1 := by
 apply dt;have h1 := cW a;have h2 := cW b;have h3 : 2 ^ bu a ≤ 2 ^ (bu a + bu b) := S4 Sd Sd;have h4 : 2 ^ bu b ≤ 2 ^ (bu a + bu b) := S4 Sd Sd;rw [Ta];omega
theorem dA (s : Bool) (m : ByteArray) (w : World) (hm : m.size ≤ 1000000000) :
  Calls Tryz.prog 209 #[.agg #[.bool s, .string m]] w fun e w' => e = .returned (.agg #[.bool (iN (iv s m)), .string (iM (iv s m))]) ∧ Below w.heap.size w w' := by
 have hh := Hp.start w;have h1 := jg m;rw [LC, Cn]
 cases s with
 | false =>
  refine aj (N := 16) (l := [.agg #[.bool false, .string m]]) Tryz.func209 rfl rfl (by simp) ?_;refine sr ?_;refine cq hh [_,_] ?_;intro b1 w1 hh;refine bJ hh ?_;intro b2 w2 hh;refine aa (sr (bF ?_));refine bE hh 1 ?_;refine aC (eQ m _ hm) ak.out rfl Se ?_;rintro e_ w6 ⟨A6, c6, rfl, hown_, hb_⟩;refine ⟨_, rfl, ?_⟩;replace hh := hh.aO (x := .row _ _ _ _ _ _) hb_ hown_;refine GQ ?_;intro w7 hh;rw [hQ];refine aS (aa (sr (bF ?_)));refine bE hh 2 ?_;refine mB ?_;refine gS (gS ?_);refine fa ?_;refine mS ?_;refine gg [_,_] ?_;exact H4
 | true =>
  by_cases h0 : sN (bN m) = ByteArray.mk #[]
  ·refine aj (N := 16) (l := [.agg #[.bool true, .string m]]) Tryz.func209 rfl rfl (by simp) ?_;refine sr ?_;refine cq hh [_,_] ?_;intro b1 w1 hh;refine bJ hh ?_;intro b2 w2 hh;refine aa (sr (bF ?_));refine bE hh 1 ?_;refine aC (eQ m _ hm) ak.out rfl Se ?_;rintro e_ w6 ⟨A6, c6, rfl, hown_, hb_⟩;refine ⟨_, rfl, ?_⟩;replace hh := hh.aO (x := .row _ _ _ _ _ _) hb_ hown_;refine GQ ?_;intro w7 hh;rw [hQ];refine aS (aa (sr (bF ?_)));refine bE hh 2 ?_;refine mB (gT (mS (gT ?_)))
   (first | refine j9 rfl rfl (by first | rfl | assumption | decide) Se ?_ | refine j8 rfl rfl (by first | assumption | decide) Se ?_)
   refine fV ?_;refine mS ?_;refine gg [_,_] ?_;refine bK hh 1 [_,_] ?_;intro ws hh;replace hh : Hp _ (_ :: .blk _ _ [_, _] _ :: _) _ := hh;refine aa (au ?_);refine Ck ?_;exact Og
  ·refine aj (N := 16) (l := [.agg #[.bool true, .string m]]) Tryz.func209 rfl rfl (by simp) ?_;refine sr ?_;refine cq hh [_,_] ?_;intro b1 w1 hh;refine bJ hh ?_;intro b2 w2 hh;refine aa (sr (bF ?_));refine bE hh 1 ?_;refine aC (eQ m _ hm) ak.out rfl Se ?_;rintro e_ w6 ⟨A6, c6, rfl, hown_, hb_⟩;refine ⟨_, rfl, ?_⟩;replace hh := hh.aO (x := .row _ _ _ _ _ _) hb_ hown_;refine GQ ?_;intro w7 hh;rw [hQ];refine aS (aa (sr (bF ?_)));refine bE hh 2 ?_;refine mB (gT (mS (gT ?_)))
   (first | refine j9 rfl rfl (by first | rfl | assumption | decide) Se ?_ | refine j8 rfl rfl (by first | assumption | decide) Se ?_)
   refine fV ?_;refine mS ?_;refine gg [_,_] ?_;refine bK hh 1 [_,_] ?_;intro ws hh;replace hh : Hp _ (_ :: .blk _ _ [_, _] _ :: _) _ := hh;refine aa (au ?_);refine Ck ?_;exact N4
theorem j2 (s : Bool) (m : ByteArray) (w : World) (hm : m.size ≤ 1000000000) :
  Calls Tryz.prog 212 #[.agg #[.bool s, .string m]] w fun e w' => e = .returned (.int .i64 (iv s m).sign) ∧ Below w.heap.size w w' := by
 have hh := Hp.start w;by_cases h0 : bN m = 0
 ·have hb : bu (bN m) = 0 := nt.2 h0;refine aj (N := 9) (l := [.agg #[.bool s, .string m]]) Tryz.func212 rfl rfl (by simp) ?_;refine sr ?_;refine cq hh [_,_] ?_;intro b1 w1 hh;refine aI (aa (ah (sr (bF ?_))));refine bE hh 0 ?_;refine br hh (nF m _ hm) rfl ?_;intro w5 hh;refine Cl ?_;refine da ?_;have hz : iv s m = 0 := by unfold iv; split <;> omega
  exact ⟨by rw [hz]; rfl, hh.below⟩
 ·have hb : bu (bN m) ≠ 0 := fun h => h0 (nt.1 h)
  cases s with
  | true =>
   refine aj (N := 9) (l := [.agg #[.bool true, .string m]]) Tryz.func212 rfl rfl (by simp) ?_;refine sr ?_;refine cq hh [_,_] ?_;intro b1 w1 hh;refine aI (aa (ah (sr (bF ?_))));refine bE hh 0 ?_;refine br hh (nF m _ hm) rfl ?_;intro w5 hh;refine cH (aa (cF (aq (ai (ah (sr (bF ?_)))))));refine bE hh 0 ?_;refine xS ?_;refine da ?_;have hz : iv true m < 0 := by unfold iv; rw [Sj rfl]; omega
   exact ⟨by rw [TQ hz], hh.below⟩
  | false =>
   refine aj (N := 9) (l := [.agg #[.bool false, .string m]]) Tryz.func212 rfl rfl (by simp) ?_;refine sr ?_;refine cq hh [_,_] ?_;intro b1 w1 hh;refine aI (aa (ah (sr (bF ?_))));refine bE hh 0 ?_;refine br hh (nF m _ hm) rfl ?_;intro w5 hh;refine cH (aa (cF (aq (ai (ah (sr (bF ?_)))))));refine bE hh 0 ?_;refine aa (cF (aq (ai (sr (aI (aa (au ?_)))))));refine da ?_;have hz : 0 < iv false m := by unfold iv; rw [Si (by simp)]; omega
   exact ⟨by rw [TU hz], hh.below⟩
theorem pO (n : Int) (w : World) (h1 : -9223372036854775808 ≤ n) (h2 : n ≤ 9223372036854775807) :
  Calls Tryz.prog 170 #[.int .i64 n] w fun e w' => e = .returned (.agg #[.bool (iN n), .string (iM n)]) ∧ Below w.heap.size w w' := by
 have hh := Hp.start w;by_cases h0 : n < 0
 ·have hn : iN n = true := SF h0;obtain ⟨m, hm⟩ := Vi (by omega : 0 ≤ -(n + 1));have ha : n.natAbs = m + 1 := Sd;have hw : (m + 1) % 18446744073709551616 = m + 1 := SY Sd;refine aj (N := 16) (l := [.int .i64 n]) Tryz.func170 rfl rfl (by simp) ?_;refine sr ?_;refine bJ hh ?_;intro b2 w2 hh;refine aa (ah (sr (mI ?_)));refine a6 (aa (cT (sr (mI ?_))));refine a9 ?_;refine vW rfl Sd Sd Se ?_;rw [show -(n + 1) = (m : Int) from hm];refine lR ?_;refine il (b := 1) rfl rfl Se ?_;rw [hw];refine br hh (vF (m + 1) _ Sd) rfl ?_;intro w10 hh;rw [← ha];refine gg [_,_] ?_;refine bK hh 0 [_,_] ?_;intro ws hh;replace hh : Hp _ (.blk _ _ [_, _] _ :: _) _ := hh;refine aa (au (aG ?_));refine o7 ?_;rw [hn];exact ⟨rfl, hh.below⟩
 ·obtain ⟨m, rfl⟩ := Vi (by omega : 0 ≤ n);have hn : iN (m : Int) = false := SQ Sd;have hm : m < 18446744073709551616 := Sd;have e1 : iM (m : Int) = sN m := rfl;refine aj (N := 16) (l := [.int .i64 (m : Int)]) Tryz.func170 rfl rfl (by simp) ?_;refine sr ?_;refine bJ hh ?_;intro b2 w2 hh;refine aa (ah (sr (mI ?_)));refine a6 (aa (cF (aq (ai (sr (mI ?_))))));refine lR ?_;refine br hh (vF m _ hm) rfl ?_;intro w14 hh;refine gg [_,_] ?_;refine bK hh 0 [_,_] ?_;intro ws hh;replace hh : Hp _ (.blk _ _ [_, _] _ :: _) _ := hh;refine aa (au ?_);refine o7 ?_;rw [hn, e1];exact ⟨rfl, hh.below⟩
theorem qC (s t : Bool) (a b : ByteArray) (w : World) (ha : a.size ≤ 100000000) (hb : b.size ≤ 100000000) :
  Calls Tryz.prog 182 #[.agg #[.bool s, .string a], .agg #[.bool t, .string b]] w fun e w' => e = .returned (.agg #[.bool (iN (iv s a + iv t b)), .string (iM (iv s a + iv t b))]) ∧ Below w.heap.size w w' := by
 have hh := Hp.start w;have hba := gC a;have hbb := gC b;by_cases hst : s = t
 ·subst hst;have e1 : iv s (sN (bN a + bN b)) = iv s a + iv s b := by unfold iv; rw [eS]; split <;> omega
  have hsz : (sN (bN a + bN b)).size ≤ 1000000000 := by rw [lj]; have := Gi (bN a) (bN b); omega
  rw [← e1];refine aj (N := 49) (l := [.agg #[.bool s, .string a], .agg #[.bool s, .string b]]) Tryz.func182 rfl rfl (by simp) ?_;refine sr ?_;refine cq hh [_,_] ?_;intro b2 w2 hh;refine cq hh [_,_] ?_;intro b3 w3 hh;refine bJ hh ?_;intro b4 w4 hh;refine aa (ah (sr (bF ?_)));refine bE hh 2 ?_;refine bF ?_;refine bE hh 1 ?_;refine Dl bq.out rfl rfl (by first | rfl | assumption) Se ?_;refine aa (cT (ah ?_));refine aU 8 [[(2, none)], [(12, some 0)], [(2, none)], [(14, some 2)], [(3, none)], [(16, some 4)], [(15, some 3), (17, some 5)], [(18, some 6)]] [(7, 19), (6, 18), (5, 17), (4, 16), (3, 15), (2, 14), (1, 13), (0, 12)] hh mixed Sf ?_;refine ek ?_;refine gH 2 ?_;refine ek ?_;refine gH 2 ?_;refine ek ?_;refine gH 1 ?_;refine z7 [_,_] ?_;refine a8 (i := 7) (Is (.string (sN (bN a + bN b)))) Is.ext ?_ ?_
  ·intro ρ1 w1 hj hR;obtain ⟨A18, c18, h18, s18⟩ := hR.1;exact bA rfl (aZ ak.out (aA h18 a7)) (AZ A18 2 c18 [a, b] _ s18 Sd (by simp; omega)) (fun _ _ hq => ⟨_, hq.1, hq.2, rfl⟩)
  refine aR ?_;intro f W hJ hV;have hb_2 := hJ.bl;obtain ⟨v19, v18, v17, v16, v15, v14, v13, v12, _⟩ := hV;obtain ⟨A18, c18, e18, f18⟩ : Rows _ _ _ (f 6) W := v18;replace hh := hJ.hp;refine aX (bp (ae v19 (ae e18 (ae v17 (ae v16 (ae v15 (ae v14 (ae v13 (ae v12 aW))))))))) ?_;dsimp only [ck];clear e18 hJ;refine gg [_,_] ?_;refine br hh (dA s (sN (bN a + bN b)) _ hsz) rfl ?_;intro w21 hh;exact BS
 ·by_cases hle : bN b ≤ bN a
  ·have e1 : iv s (sN (bN a - bN b)) = iv s a + iv t b := by unfold iv; rw [eS]; cases s <;> cases t <;> simp at hst ⊢ <;> omega
   have hsz : (sN (bN a - bN b)).size ≤ 1000000000 := by rw [lj]; have := mF (show bN a - bN b ≤ bN a by omega); omega
   rw [← e1];refine aj (N := 49) (l := [.agg #[.bool s, .string a], .agg #[.bool t, .string b]]) Tryz.func182 rfl rfl (by simp) ?_;refine sr ?_;refine cq hh [_,_] ?_;intro b2 w2 hh;refine cq hh [_,_] ?_;intro b3 w3 hh;refine bJ hh ?_;intro b4 w4 hh;refine aa (ah (sr (bF ?_)));refine bE hh 2 ?_;refine bF ?_;refine bE hh 1 ?_;refine BQ ?_;refine u7 ?_;refine bE hh 2 ?_;refine bF ?_;refine bE hh 1 ?_;refine br hh (nT a b _ Sd Sd) rfl ?_;intro w27 hh;rw [SF hle];refine mT ?_;refine cE ?_;refine cE ?_;refine aS (aB (aa (ah (sr (mB (aa (cT (sr (bF ?_)))))))));refine bE hh 2 ?_;refine mS ?_;refine gg [_,_] ?_;refine br hh (dA s (sN (bN a - bN b)) _ hsz) rfl ?_;intro w35 hh;exact BS
  ·have e1 : iv t (sN (bN b - bN a)) = iv s a + iv t b := by unfold iv; rw [eS]; cases s <;> cases t <;> simp at hst ⊢ <;> omega
   have hsz : (sN (bN b - bN a)).size ≤ 1000000000 := by rw [lj]; have := mF (show bN b - bN a ≤ bN b by omega); omega
   rw [← e1];refine aj (N := 49) (l := [.agg #[.bool s, .string a], .agg #[.bool t, .string b]]) Tryz.func182 rfl rfl (by simp) ?_;refine sr ?_;refine cq hh [_,_] ?_;intro b2 w2 hh;refine cq hh [_,_] ?_;intro b3 w3 hh;refine bJ hh ?_;intro b4 w4 hh;refine aa (ah (sr (bF ?_)));refine bE hh 2 ?_;refine bF ?_;refine bE hh 1 ?_;refine BQ ?_;refine u7 ?_;refine bE hh 2 ?_;refine bF ?_;refine bE hh 1 ?_;refine br hh (nT a b _ Sd Sd) rfl ?_;intro w27 hh;rw [SQ hle];refine mT ?_;refine cE ?_;refine cE ?_;refine aS (aB (aa (ah (sr (mB (aa (cF (aq (ai (sr (bF ?_)))))))))));refine bE hh 1 ?_;refine bF ?_;refine bE hh 2 ?_;refine br hh (nT b a _ Sd Sd) rfl ?_;intro w41 hh;refine mT ?_;refine cE ?_;refine cE ?_;refine aS (aa (sr (bF ?_)));refine bE hh 1 ?_;refine mS ?_;refine gg [_,_] ?_;refine br hh (dA t (sN (bN b - bN a)) _ hsz) rfl ?_;intro w48 hh;exact K7
theorem nB (z : Int) (B : Nat) (q r : Int) (h : r + B * q = z) (h0 : 0 ≤ r) (h1 : r < B) : z / B = q ∧ z % B = r :=
 (Int.ediv_emod_unique Sd).2 ⟨h, h0, h1⟩
theorem BC (s : Bool) (a b : ByteArray) (w : World) (ha : a.size ≤ 10000000) (hb : b.size ≤ 10000000) (hb0 : bN b ≠ 0) :
  Calls Tryz.prog 210 #[.agg #[.bool s, .string a], .agg #[.bool false, .string b]] w fun e w' => e = .returned (.tuple #[.agg #[.bool (iN (iv s a / bN b)), .string (iM (iv s a / bN b))], .agg #[.bool (iN (iv s a % bN b)), .string (iM (iv s a % bN b))], .bool true]) ∧ Below w.heap.size w w' := by
 have hh := Hp.start w;have hba := gC a;have hbb := gC b;have hmod : bN a % bN b < bN b := SO _ Sd;have hdm : bN b * (bN a / bN b) + bN a % bN b = bN a := TY _ _;have hdm' : (bN b : Int) * ((bN a / bN b : Nat) : Int) + ((bN a % bN b : Nat) : Int) = (bN a : Int) := by rw [← Tv, ← TX, hdm]
 have hqs : (sN (bN a / bN b)).size ≤ 10000000 := by rw [lj]; have := mF (UB (bN a) (bN b)); omega
 have hrs : (sN (bN a % bN b)).size ≤ 10000000 := by rw [lj]; have := mF (show bN a % bN b ≤ bN b by omega); omega
 have hqz : ∀ u, (iM (iv u (sN (bN a / bN b)))).size ≤ 10000000 := fun u => by rw [Cn, eS]; exact hqs
 have hrz : ∀ u, (iM (iv u (sN (bN a % bN b)))).size ≤ 10000000 := fun u => by rw [Cn, eS]; exact hrs
 by_cases hneg : s = true ∧ bN a % bN b ≠ 0
 ·obtain ⟨rfl, hne⟩ := hneg;have e1 : iv true (sN (bN a / bN b)) = -((bN a / bN b : Nat) : Int) := by unfold iv; rw [eS, Sj rfl]
  have e2 : iv true (sN (bN a % bN b)) = -((bN a % bN b : Nat) : Int) := by unfold iv; rw [eS, Sj rfl]
  have hlt : (iv true (sN (bN a % bN b))).sign < 0 := by rw [e2, TQ Sd]; omega
  have e3 : iv true a = -(bN a : Int) := by unfold iv; rw [Sj rfl]
  obtain ⟨q1, q2⟩ := nB (iv true a) (bN b) (-((bN a / bN b : Nat) : Int) + -1) ((bN b : Int) - ((bN a % bN b : Nat) : Int)) (by rw [e3, ← hdm', Int.mul_add, Int.mul_neg]; omega) Sd Sd;have e4 : iv false b = (bN b : Int) := by unfold iv; rw [Si (by simp)]
  have hp2 : (bN b : Int).sign = 1 := TU Sd;refine aj (N := 57) (l := [.agg #[.bool true, .string a], .agg #[.bool false, .string b]]) Tryz.func210 rfl rfl (by simp) ?_;refine sr ?_;refine cq hh [_,_] ?_;intro b2 w2 hh;refine cq hh [_,_] ?_;intro b3 w3 hh;refine bJ hh ?_;intro b4 w4 hh;refine bJ hh ?_;intro b5 w5 hh;refine aB (aa (sr (bF ?_)));refine bE hh 3 ?_;refine bF ?_;refine bE hh 2 ?_;refine br hh (nS a b _ Sd Sd hb0) rfl ?_;intro w18 hh;refine mT ?_;refine cE ?_;refine cE ?_;refine cE ?_;refine aS (aS (aB (aa (ah (sr (mB ?_))))));refine fF ?_;refine u7 ?_;refine bE hh 3 ?_;refine bF ?_;refine bE hh 2 ?_;refine DT bq.out rfl rfl (by first | assumption | decide) Se ?_;refine mS ?_;refine gg [_,_] ?_;refine br hh (dA true (sN (bN a / bN b)) _ Sd) rfl ?_;intro w33 hh;refine bJ hh ?_;intro b10 w10 hh;refine bK hh 0 [_,_] ?_;intro ws hh;replace hh : Hp _ (.blk _ _ [_, _] _ :: _) _ := hh;refine aa (sr (bF ?_));refine bE hh 4 ?_;refine mS ?_;refine gg [_,_] ?_;refine br hh (dA true (sN (bN a % bN b)) _ Sd) rfl ?_;intro w38 hh;refine bJ hh ?_;intro b11 w11 hh;refine bK hh 0 [_,_] ?_;intro ws hh;replace hh : Hp _ (.blk _ _ [_, _] _ :: _) _ := hh
  refine aa (ah (sr ?_));refine cu hh 0 [_,_] ?_;refine br hh (j2 (iN (iv true (sN (bN a % bN b)))) (iM (iv true (sN (bN a % bN b)))) _ (by have := hrz true; omega)) rfl ?_;intro w40 hh;rw [eR];refine a6 (aa (cT (sr ?_)));refine cu hh 0 [_,_] (bF ?_);refine bE hh 4 ?_;refine gg [_,_] ?_;refine br hh (qC (iN (iv true (sN (bN a % bN b)))) false (iM (iv true (sN (bN a % bN b)))) b _ (by have := hrz true; omega) Sd) rfl ?_;intro w46 hh;rw [eR, e2, e4, show -((bN a % bN b : Nat) : Int) + (bN b : Int) = (bN b : Int) - ((bN a % bN b : Nat) : Int) by omega, ← q2];refine bK hh 0 [_,_] ?_;intro ws hh;replace hh : Hp _ (.blk _ _ [_, _] _ :: _) _ := hh;refine aa (sr ?_);refine br hh (pO (-1) _ Sd Sd) rfl ?_;intro w47 hh;refine bJ hh ?_;intro b12 w12 hh;refine bK hh 0 [_,_] ?_;intro ws hh;replace hh : Hp _ (.blk _ _ [_, _] _ :: _) _ := hh;refine aa (ah (sr ?_));refine cu hh 5 [_,_] ?_;refine br hh (j2 false b _ Sd) rfl ?_;intro w49 hh;rw [e4, hp2];refine a6 (aa (cF (aq (ai (al ?_)))));refine cu hh 2 [_,_] ?_;refine cu hh 0 [_,_] ?_;refine br hh (qC (iN (iv true (sN (bN a / bN b)))) (iN (-1)) (iM (iv true (sN (bN a / bN b)))) (iM (-1)) _ (by have := hqz true; omega) Se) rfl ?_;intro w54 hh
  rw [eR, eR, e1, ← q1];refine bK hh 2 [_,_] ?_;intro ws hh;replace hh : Hp _ (_ :: _ :: .blk _ _ [_, _] _ :: _) _ := hh;refine aa (ah ?_);refine pw hh mixed fun w_ hj_ => ?_;replace hh := hj_.hp;clear hj_;refine s8 (i := 0) (i2 := 1) Sf rfl rfl ?_ ?_
  ·refine cu hh 2 [_,_] ?_;refine eN ?_;refine s8 (i := 1) (i2 := 2) Sf rfl rfl ?_ ?_
   ·refine cu hh 1 [_,_] ?_;exact LN
   ·refine bK hh 4 [_,_] ?_;intro ws hh;replace hh : Hp _ (_ :: _ :: _ :: _ :: .blk _ _ [_, _] _ :: _) _ := hh;refine eN ?_;refine fL (i := 1) Sf rfl ?_;refine cu hh 1 [_,_] ?_;exact OT
  ·refine cu hh 1 [_,_] ?_;refine eN ?_;refine fL (i := 0) Sf rfl ?_;refine cu hh 2 [_,_] ?_;exact LN
 ·have e4 : iv s a / bN b = iv s (sN (bN a / bN b)) ∧ iv s a % bN b = iv s (sN (bN a % bN b)) := by
   cases s with
   | false =>
    have f0 : ∀ x, iv false x = (bN x : Int) := fun x => by unfold iv; rw [Si (by simp)]
    rw [f0, f0, f0, eS, eS];exact nB _ _ _ _ Sd Sd Sd
   | true =>
    have r0 : bN a % bN b = 0 := by
     rcases T8 (bN a % bN b) with h | h
     ·exact h
     ·exact absurd ⟨rfl, Sd⟩ hneg
    have f0 : ∀ x, iv true x = -(bN x : Int) := fun x => by unfold iv; rw [Sj rfl]
    rw [f0, f0, f0, eS, eS, r0];rw [r0] at hdm';exact nB _ _ _ _ (by rw [Int.mul_neg]; omega) Sd Sd
  have h5 : ¬ (iv s (sN (bN a % bN b))).sign < 0 := by
   have h6 : 0 ≤ iv s (sN (bN a % bN b)) := by rw [← e4.2]; exact Int.emod_nonneg _ Sd
   have := Int.sign_nonneg_iff.2 h6;omega
  rw [e4.1, e4.2]
  cases s with
  | false =>
   refine aj (N := 57) (l := [.agg #[.bool false, .string a], .agg #[.bool false, .string b]]) Tryz.func210 rfl rfl (by simp) ?_;refine sr ?_;refine cq hh [_,_] ?_;intro b2 w2 hh;refine cq hh [_,_] ?_;intro b3 w3 hh;refine bJ hh ?_;intro b4 w4 hh;refine bJ hh ?_;intro b5 w5 hh;refine aB (aa (sr (bF ?_)));refine bE hh 3 ?_;refine bF ?_;refine bE hh 2 ?_;refine br hh (nS a b _ Sd Sd hb0) rfl ?_;intro w18 hh;refine mT ?_;refine cE ?_;refine cE ?_;refine cE ?_;refine aS (aS (aB (aa (ah (sr (mB ?_))))));refine fF ?_;refine u7 ?_;refine bE hh 3 ?_;refine bF ?_;refine bE hh 2 ?_;refine JF bq.out rfl rfl (by first | rfl | assumption) Se ?_;refine mS ?_;refine gg [_,_] ?_;refine br hh (dA false (sN (bN a / bN b)) _ Sd) rfl ?_;intro w33 hh;refine bJ hh ?_;intro b10 w10 hh;refine bK hh 0 [_,_] ?_;intro ws hh;replace hh : Hp _ (.blk _ _ [_, _] _ :: _) _ := hh;refine aa (sr (bF ?_));refine bE hh 4 ?_;refine mS ?_;refine gg [_,_] ?_;refine br hh (dA false (sN (bN a % bN b)) _ Sd) rfl ?_;intro w38 hh;refine bJ hh ?_;intro b11 w11 hh;refine bK hh 0 [_,_] ?_;intro ws hh;replace hh : Hp _ (.blk _ _ [_, _] _ :: _) _ := hh;refine aa (ah (sr ?_));refine cu hh 0 [_,_] ?_
   refine br hh (j2 (iN (iv false (sN (bN a % bN b)))) (iM (iv false (sN (bN a % bN b)))) _ (by have := hrz false; omega)) rfl ?_;exact QS
  | true =>
   refine aj (N := 57) (l := [.agg #[.bool true, .string a], .agg #[.bool false, .string b]]) Tryz.func210 rfl rfl (by simp) ?_;refine sr ?_;refine cq hh [_,_] ?_;intro b2 w2 hh;refine cq hh [_,_] ?_;intro b3 w3 hh;refine bJ hh ?_;intro b4 w4 hh;refine bJ hh ?_;intro b5 w5 hh;refine aB (aa (sr (bF ?_)));refine bE hh 3 ?_;refine bF ?_;refine bE hh 2 ?_;refine br hh (nS a b _ Sd Sd hb0) rfl ?_;intro w18 hh;refine mT ?_;refine cE ?_;refine cE ?_;refine cE ?_;refine aS (aS (aB (aa (ah (sr (mB ?_))))));refine fF ?_;refine u7 ?_;refine bE hh 3 ?_;refine bF ?_;refine bE hh 2 ?_;refine DT bq.out rfl rfl (by first | assumption | decide) Se ?_;refine mS ?_;refine gg [_,_] ?_;refine br hh (dA true (sN (bN a / bN b)) _ Sd) rfl ?_;intro w33 hh;refine bJ hh ?_;intro b10 w10 hh;refine bK hh 0 [_,_] ?_;intro ws hh;replace hh : Hp _ (.blk _ _ [_, _] _ :: _) _ := hh;refine aa (sr (bF ?_));refine bE hh 4 ?_;refine mS ?_;refine gg [_,_] ?_;refine br hh (dA true (sN (bN a % bN b)) _ Sd) rfl ?_;intro w38 hh;refine bJ hh ?_;intro b11 w11 hh;refine bK hh 0 [_,_] ?_;intro ws hh;replace hh : Hp _ (.blk _ _ [_, _] _ :: _) _ := hh;refine aa (ah (sr ?_));refine cu hh 0 [_,_] ?_
   refine br hh (j2 (iN (iv true (sN (bN a % bN b)))) (iM (iv true (sN (bN a % bN b)))) _ (by have := hrz true; omega)) rfl ?_;exact QS
variable {j k m : Nat} {z : Int}
theorem Db (h : n ≠ 0) : sb n = sb (n / 256) ++ [UInt8.ofNat (n % 256)] := by
 rw [sb, Fi Sd h, SW, Ue]
 rfl
theorem B4 (h : n ≠ 0) : 1 ≤ (sN n).size ∧ ∃ c : UInt8, (sN n).data.toList[(((sN n).size : Int) - 1).toNat]? = some c ∧ c.toNat = n % 256 := by
 have hl : (sN n).data.toList = sb (n / 256) ++ [UInt8.ofNat (n % 256)] := by rw [sN, eE, Db h]
 have hs : (sN n).size = (sb (n / 256)).length + 1 := by rw [dE, hl, Sr]; rfl
 refine ⟨Sd, UInt8.ofNat (n % 256), ?_, ?_⟩
 ·rw [hl, hs, Tu Sd];have : (((sb (n / 256)).length + 1 : Nat) - 1 : Int).toNat - (sb (n / 256)).length = 0 := Sd;rw [this]
  rfl
 ·simp
theorem M6 (h : n ≠ 0) : (sN n).extract 0 ((sN n).size - 1) = sN (n / 256) := by
 have hl : (sN n).data = (sb (n / 256) ++ [UInt8.ofNat (n % 256)]).toArray := by rw [sN, ← Db h]; rfl
 have hs : (sN n).size = (sb (n / 256)).length + 1 := by rw [dE, hl, Sr]; rfl
 apply ByteArray.ext;rw [ByteArray.data_extract, hl, hs];show _ = (sb (n / 256)).toArray;simp
theorem NK {k : Int} (h : 0 < k) (y : Int) : iN (y * k) = iN y := by
 unfold iN;rw [decide_eq_decide];constructor
 ·intro h1
  rcases U1 y 0 with h2 | h2 | h2
  ·exact h2
  ·rw [h2] at h1; simp at h1
  ·have := Int.mul_pos h2 h; omega
 ·intro h1;exact Int.mul_neg_of_neg_of_pos h1 h
theorem Nw (h : n % 2 = 1) : tz n = 0 := by
 have := Dx 0 (n / 2);rwa [show 2 ^ 0 * (2 * (n / 2) + 1) = n by omega] at this
theorem Hd {y e : Int} (hy : y.natAbs % 2 = 1) (hz : y * 2 ^ j = z) : nR (Dyadic.ofIntWithPrec z (-e)) = ⟨iN y, iM y, e + j⟩ := by
 have h1 := pR (s := iN y) (a := iM y) (e := e + j) (by rw [eR]; omega);rw [eR, iM, eS, Nw hy] at h1;have h2 := pG y (-(e + j)) j;rw [hz, show -(e + (j : Int)) + j = -e by omega] at h2;rw [h2, h1];simp
theorem rq {y : Int} (hy : y ≠ 0) (hz : y * 2 ^ j = z) (hm : z.natAbs < 2 ^ m) : j < m := by
 have h1 : z.natAbs = y.natAbs * 2 ^ j := by rw [← hz, Ud, UJ]; rfl
 have h2 : 1 * 2 ^ j ≤ y.natAbs * 2 ^ j := S9 _ Sd;have h3 : 2 ^ j < 2 ^ m := Sd;exact (Vw Sd).1 h3
theorem qx (s : Bool) (a : ByteArray) (e : Int) (w : World) (ha : a.size ≤ 10000000) (h1 : -1000000000000 ≤ e) (h2 : e ≤ 1000000000000) :
  Calls Tryz.prog 169 #[.agg #[.bool s, .string a], .int .i64 e] w fun r w' => r = .returned (.agg #[.bool (nR (Dyadic.ofIntWithPrec (iv s a) (-e))).neg, .string (nR (Dyadic.ofIntWithPrec (iv s a) (-e))).bf, .int .i64 (nR (Dyadic.ofIntWithPrec (iv s a) (-e))).e]) ∧ Below w.heap.size w w' := by
 have hh := Hp.start w;by_cases h0 : iv s a = 0
 ·have hm := rf.2 h0;rw [h0] at hm;refine aj (N := 50) (l := [.agg #[.bool s, .string a], .int .i64 e]) Tryz.func169 rfl rfl (by simp) ?_;refine sr ?_;refine cq hh [_,_] ?_;intro b2 w2 hh;refine bJ hh ?_;intro b4 w4 hh;refine aa (sr ?_);refine cu hh 1 [_,_] ?_;refine br hh (dA s a _ Sd) rfl ?_;intro w6 hh;rw [h0];refine bK hh 1 [_,_] ?_;intro ws hh;replace hh : Hp _ (_ :: .blk _ _ [_, _] _ :: _) _ := hh;refine aa (ah (sr (bF ?_)));refine bE hh 1 ?_;refine j1 rfl rfl (by first | rfl | assumption | decide) Se ?_;refine aa (cT (sr ?_));refine gg [_,_,_] ?_;refine bK hh 0 [_,_,_] ?_;intro ws hh;replace hh : Hp _ (.blk _ _ [_, _, _] _ :: _) _ := hh;refine aa (au (aG ?_));refine Ij ?_;rw [kC, mK];exact ⟨rfl, hh.below⟩
 ·have hm : ¬ iM (iv s a) = ByteArray.mk #[] := fun h => h0 (rf.1 h);have hzb : (iv s a).natAbs < 2 ^ (8 * a.size) := by
   rw [jL, S7];exact vc a
  refine aj (N := 50) (l := [.agg #[.bool s, .string a], .int .i64 e]) Tryz.func169 rfl rfl (by simp) ?_;refine sr ?_;refine cq hh [_,_] ?_;intro b2 w2 hh;refine bJ hh ?_;intro b4 w4 hh;refine aa (sr ?_);refine cu hh 1 [_,_] ?_;refine br hh (dA s a _ Sd) rfl ?_;intro w6 hh;refine bK hh 1 [_,_] ?_;intro ws hh;replace hh : Hp _ (_ :: .blk _ _ [_, _] _ :: _) _ := hh;refine aa (ah (sr (bF ?_)));refine bE hh 1 ?_;refine j5 rfl rfl (by first | assumption | decide) Se ?_;refine aa (cF (aq (ai (ah (ao ?_)))));generalize hz : iv s a = z at *;refine aN [1, 11, 12, 13, 14, 15, 16, 17, 18, 19, 20, 21, 22, 23, 24, 25, 26, 27, 28] 1
   (fun v w' => ∃ (y : Int) (j : Nat), y ≠ 0 ∧ y * 2 ^ j = z ∧ v = .int .i64 (e + j) ∧ Hp w [.blk b4 65 [.bool false, .string (ByteArray.mk #[]), .int .i64 0] (0, 0), .blk b2 63 [.bool (iN y), .string (iM y)] (0, 0)] w')
   (fun v _ => (e + 8 * a.size + 1 - intOf v).toNat) ?_ ?_
  ·exact ⟨z, 0, h0, by simp, by show Value.int _ _ = Value.int _ _; congr 1; omega, hh⟩
  ·clear hh;rintro ρ' v w' ⟨y, j, hy, hyz, rfl, hh⟩;have hj := rq hy hyz hzb;obtain ⟨hs1, c, hc, hcn⟩ := B4 (n := y.natAbs) Sd;have hcut := M6 (n := y.natAbs) Sd;have hsz : (sN y.natAbs).size ≤ 10000000 := by
    exact Ou
   change (iM y).data.toList[(((iM y).size : Int) - 1).toNat]? = some c at hc
   change 1 ≤ (iM y).size at hs1
   change (iM y).extract 0 ((iM y).size - 1) = _ at hcut
   change (iM y).size ≤ _ at hsz
   by_cases hb : y.natAbs % 256 = 0
   ·obtain ⟨x, rfl⟩ : ∃ x, y = x * 256 := ⟨y / 256, Sd⟩;have hx : x ≠ 0 := fun h => hy (by rw [h]; rfl);have e1 : iN (x * 256) = iN x := NK Sd x;have e2 : sN ((x * 256).natAbs / 256) = iM x := by rw [iM]; congr 1; omega
    have hxz : x * 2 ^ (j + 8) = z := by rw [← hyz, Int.pow_add, Int.mul_assoc, Int.mul_comm (2 ^ j)]; rfl
    have hj2 := rq hx hxz hzb;refine ah (sr (bF ?_));refine bE hh 1 ?_;refine bF ?_;refine bE hh 1 ?_;refine bD bq.out rfl Se ?_;refine eu ?_;refine jN ?_;refine cH (aa (cT (aq (ai (ao (sr (bF ?_)))))));refine bE hh 1 ?_;refine bF ?_;refine bE hh 1 ?_;refine bD bq.out rfl Se ?_;refine eu ?_;refine qL (l := 0) (h := ((iM (x * 256)).size - 1)) bq.out rfl rfl ⟨_, _, rfl, Sd⟩ Sd Sd Se ?_;refine bF ?_;refine bK hh 1 [_] ?_;intro ws hh;replace hh : Hp _ (_ :: .blk _ _ [_, _] _ :: _) _ := hh;refine aa (al (mI ?_));refine a9 (aI (az (bg (ai ?_))));rw [hcut, e2, e1] at hh;refine ⟨⟨x, j + 8, hx, hxz, by show Value.int _ _ = Value.int _ _; congr 1; omega, hh⟩, by show (e + 8 * a.size + 1 - (e + j + 8)).toNat < (e + 8 * a.size + 1 - (e + j)).toNat; omega, ?_⟩;exact eB
   ·refine ah (sr (bF ?_));refine bE hh 1 ?_;refine bF ?_;refine bE hh 1 ?_;refine bD bq.out rfl Se ?_;refine eu ?_;refine jN ?_;refine cH (aa (cF (aV (aE (aE (bo (ai (ah (ao ?_)))))))));refine aN [1, 29, 30, 31, 32, 33, 34, 35, 36, 37, 38, 39, 40, 41, 42, 43, 44, 45, 46] 1
     (fun v w' => ∃ (y : Int) (j : Nat), y ≠ 0 ∧ y * 2 ^ j = z ∧ v = .int .i64 (e + j) ∧ Hp w [.blk b4 65 [.bool false, .string (ByteArray.mk #[]), .int .i64 0] (0, 0), .blk b2 63 [.bool (iN y), .string (iM y)] (0, 0)] w')
     (fun v _ => (e + 8 * a.size + 1 - intOf v).toNat) ?_ ?_
    ·exact ⟨y, j, hy, hyz, rfl, hh⟩
    ·clear hh hb hcut hcn hc hs1 hsz hj hy hyz;rintro ρ2 v w2 ⟨y, j, hy, hyz, rfl, hh⟩;have hj := rq hy hyz hzb;obtain ⟨hs1, c, hc, hcn⟩ := B4 (n := y.natAbs) Sd;have hsz : (sN y.natAbs).size ≤ 10000000 := by
      exact Ou
     change (iM y).data.toList[(((iM y).size : Int) - 1).toNat]? = some c at hc
     change 1 ≤ (iM y).size at hs1
     change (iM y).size ≤ _ at hsz
     by_cases hb : y.natAbs % 2 = 0
     ·obtain ⟨x, rfl⟩ : ∃ x, y = x * 2 := ⟨y / 2, Sd⟩;have hx : x ≠ 0 := fun h => hy (by rw [h]; rfl);have hxz : x * 2 ^ (j + 1) = z := by rw [← hyz, Int.pow_add, Int.mul_assoc, Int.mul_comm (2 ^ j)]; rfl
      have hj2 := rq hx hxz hzb;have hof : ∀ w1, Calls Tryz.prog 170 #[.int .i64 2] w1 fun e w' => e = .returned (.agg #[.bool false, .string (iM 2)]) ∧ Below w1.heap.size w1 w' := fun w1 => pO 2 w1 Sd Sd;have hdv : ∀ w1, Calls Tryz.prog 210 #[.agg #[.bool (iN (x * 2)), .string (iM (x * 2))], .agg #[.bool false, .string (iM 2)]] w1 fun e w' => e = .returned (.tuple #[.agg #[.bool (iN x), .string (iM x)], .agg #[.bool (iN 0), .string (iM 0)], .bool true]) ∧ Below w1.heap.size w1 w' := fun w1 => by
       have h2 : bN (iM 2) = 2 := eS 2;have h3 : (iM 2).size ≤ 10000000 := by rw [dN]; decide
       have := BC (iN (x * 2)) (iM (x * 2)) (iM 2) w1 hsz h3 Sd;rw [eR, h2, show x * 2 / ((2 : Nat) : Int) = x by omega, show x * 2 % ((2 : Nat) : Int) = 0 by omega] at this;exact this
      refine ah (sr (bF ?_));refine bE hh 1 ?_;refine bF ?_;refine bE hh 1 ?_;refine bD bq.out rfl Se ?_;refine eu ?_;refine jN ?_;refine Bi (b := 2) rfl rfl Sd Se ?_;refine cH (aa (cT (aq (ai (ao (ah ?_))))));refine eM [] [5, 6] [0, 0, 3, 7, 15, 15, 15, 31] 7 [[(2, none)], [], [(39, some 0), (40, some 1)], [(41, some 2)], [(38, some 3)], [(38, some 3)], [(38, some 3)]] [(6, 44), (5, 43), (4, 42), (3, 38), (2, 41), (1, 40), (0, 39)] hh mixed Sf fN rfl (by repeat (first | exact bT | refine bG ?_ | refine bW ?_)) ?_;refine eX 1 [_,_] ?_;refine dC (fun _ hj => hof _) ?_;refine dC (fun _ hj => hdv _) ?_;refine Rx ?_;refine QE ?_;refine QE ?_;refine QE ?_;refine aR ?_;intro f W hJ hV _;have hb_8 := hJ.bl;obtain ⟨v44, v43, v42, v38, v41, v40, v39, _⟩ := hV;replace hh := hJ.hp;refine aX (bp (ae v44 (ae v43 (ae v42 (ae v38 (ae v41 (ae v40 (ae v39 aW)))))))) ?_;dsimp only [ck];clear hJ;refine bK hh 1 [_,_] ?_;intro ws hh;replace hh : Hp _ (_ :: .blk _ _ [_, _] _ :: _) _ := hh;refine aa (al (mI ?_));refine a9 (aI (az (bg (ai ?_))))
      refine ⟨⟨x, j + 1, hx, hxz, by show Value.int _ _ = Value.int _ _; congr 1; omega, hh⟩, by show (e + 8 * a.size + 1 - (e + j + 1)).toNat < (e + 8 * a.size + 1 - (e + j)).toNat; omega, ?_⟩;exact eB
     ·have hfin := Hd (e := e) (show y.natAbs % 2 = 1 by omega) hyz;refine ah (sr (bF ?_));refine bE hh 1 ?_;refine bF ?_;refine bE hh 1 ?_;refine bD bq.out rfl Se ?_;refine eu ?_;refine jN ?_;refine Bi (b := 2) rfl rfl Sd Se ?_;refine cH (aa (cF (aV (aE (aE (bo (ai (sr ?_))))))));refine cu hh 1 [_,_] (mI ?_);refine gg [_,_,_] ?_;refine bK hh 0 [_,_,_] ?_;intro ws hh;replace hh : Hp _ (.blk _ _ [_, _, _] _ :: _) _ := hh;refine aa (au ?_);refine Ij ?_;rw [hfin];exact ⟨rfl, hh.below⟩
theorem Ih {e : Int} {x : Dyadic} (w : World) (hx : Dyadic.ofIntWithPrec z (-e) = x) (hz : (iM z).size ≤ 10000000) (h1 : -1000000000000 ≤ e) (h2 : e ≤ 1000000000000) :
  Calls Tryz.prog 169 #[.agg #[.bool (iN z), .string (iM z)], .int .i64 e] w fun r w' => r = .returned (.agg #[.bool (nR x).neg, .string (nR x).bf, .int .i64 (nR x).e]) ∧ Below w.heap.size w w' := by
 have := qx (iN z) (iM z) e w hz h1 h2;rw [eR, hx] at this;exact this
theorem pE (n : Int) (w : World) (h1 : -9223372036854775808 ≤ n) (h2 : n ≤ 9223372036854775807) :
  Calls Tryz.prog 86 #[.int .i64 n] w fun r w' => r = .returned (.agg #[.bool (nR (n : Dyadic)).neg, .string (nR (n : Dyadic)).bf, .int .i64 (nR (n : Dyadic)).e]) ∧ Below w.heap.size w w' := by
 have hh := Hp.start w;have hsz : (iM n).size ≤ 10000000 := by
  rw [dN];have : bu n.natAbs ≤ 64 := dt Sd;omega
 have hc := fun w1 => Ih (z := n) (e := 0) (x := (n : Dyadic)) w1 rfl hsz Sd Sd;refine aj (N := 6) (l := [.int .i64 n]) Tryz.func86 rfl rfl (by simp) ?_;refine sr ?_;refine bJ hh ?_;intro b2 w2 hh;refine aa (sr (mI ?_));refine br hh (pO n _ h1 h2) rfl ?_;intro w4 hh;refine br hh (hc _) rfl ?_;intro w5 hh;exact IP
theorem ow (a : NR) (n : Int) (w : World) (ha : a.bf.size ≤ 10000000) (h1 : -100000000000 ≤ a.e) (h2 : a.e ≤ 100000000000) (h3 : -100000000000 ≤ n) (h4 : n ≤ 100000000000) :
  Calls Tryz.prog 85 #[.agg #[.bool a.neg, .string a.bf, .int .i64 a.e], .int .i64 n] w fun r w' => r = .returned (.agg #[.bool (nR (a.d * cf n)).neg, .string (nR (a.d * cf n)).bf, .int .i64 (nR (a.d * cf n)).e]) ∧ Below w.heap.size w w' := by
 have hh := Hp.start w;have e1 : Dyadic.ofIntWithPrec (iv a.neg a.bf) (-(a.e + n)) = a.d * cf n := by
  rw [Int.neg_add];exact Dm _ _ _
 have hc := fun w1 => qx a.neg a.bf (a.e + n) w1 ha Sd Sd;rw [e1] at hc;refine aj (N := 12) (l := [.agg #[.bool a.neg, .string a.bf, .int .i64 a.e], .int .i64 n]) Tryz.func85 rfl rfl (by simp) ?_;refine sr ?_;refine cq hh [_,_,_] ?_;intro b2 w2 hh;refine bJ hh ?_;intro b4 w4 hh;refine aa (sr (bF ?_));refine cu hh 1 [_,_] (bF ?_);refine bE hh 1 ?_;refine mI ?_;refine a9 ?_;refine br hh (hc _) rfl ?_;intro w11 hh;exact IP
theorem Sz.pow {x : Dyadic} (h : Sz k x) (n : Nat) : Sz (1 + k * n) (x ^ n) := by
 induction n with
 | zero => rw [UL]; exact Sz.one
 | succ n ih => rw [Dyadic.pow_succ]; exact (ih.mul h).mono (by rw [TZ]; omega)
theorem Sz.two {p : Int} (h1 : -(k : Int) ≤ p) (h2 : p ≤ k) : Sz (k + 8) (Dyadic.ofIntWithPrec 1 p) := by
 have := Sz.raw (a := ⟨iN 1, iM 1, -p⟩) (m := 8) (E := k) (by show 8 * (iM 1).size ≤ 8; decide) (by simp only []; omega) (by simp only []; omega);rw [NR.d, NR.i, eR, Int.neg_neg] at this;exact this.mono Sd
def D (m e : Int) : Dyadic := Dyadic.ofIntWithPrec m (-e)
theorem Fv {m e : Int} (hm : m.natAbs < 256) (h1 : -16 ≤ e) (h2 : e ≤ 16) : Sz 24 (D m e) := by
 have := Sz.raw (a := ⟨iN m, iM m, e⟩) (m := 8) (E := 16) (by show 8 * (iM m).size ≤ 8; rw [dN]; have : bu m.natAbs ≤ 8 := dt hm; omega) h1 h2;rw [NR.d, NR.i, eR] at this;exact this
def Q0 (most far : Int) (l : List NR) : Bool := l.any fun a => decide (most < a.bf.size ∨ a.e < -far ∨ far < a.e)
variable {W : World} {base fuel : Nat} {cs : List Value} {held : Bool}
open Go.ChangeShapes Go.WideShapes Go.ChangeAt Go.RowKit Go.ChangeMaps
set_option maxRecDepth 100000 in
theorem pU {H : Type} {enc : TypeId × Value → H} {sp : Nat → Bool} {x : DataW H × List MemPlace} (h : DataW.trod enc Tryz.prog W base sp held fuel 65 cs = some x) :
  ∃ a : NR, cs = a.cells ∧ (Lit.int .i64 a.e).wf = true := by
 have c1 : Tryz.prog.cellsOf 65 = 3 := by kernel_rfl
 have c2 : Tryz.prog.cellsOf 63 = 2 := by kernel_rfl
 have c3 : Tryz.prog.cellsOf 4 = 1 := by kernel_rfl
 have c4 : Tryz.prog.cellsOf 9 = 1 := by kernel_rfl
 have c5 : Tryz.prog.cellsOf 3 = 1 := by kernel_rfl
 obtain ⟨y0, y1, n, _, hl, h0, h1⟩ := trod_struct2 Tryz.underlying65 h;obtain ⟨z0, z1, n2, _, hl2, h00, h01⟩ := trod_struct2 Tryz.underlying63 h0;obtain ⟨b, e0, _⟩ := DataW.trod_bool Tryz.underlying4 h00;obtain ⟨s, e1, _, hs⟩ := DataW.trod_string Tryz.underlying9 h01;obtain ⟨z, e2, _, hz⟩ := DataW.trod_int Tryz.underlying3 h1;rw [c1] at hl
 match cs, hl with
 | [x0, x1, x2], _ =>
  simp only [c2, c3, c4, c5] at e0 e1 e2;simp at e0 e1 e2;subst e0 e1 e2;exact ⟨⟨b, s, z⟩, rfl, hz⟩
theorem zA (h : laidMetH Tryz.prog Rows.calcSlopesRow.laid W) : dD W := by
 rw [MakeChecks.laidMetH_plain _ _ _ Sf] at h;obtain ⟨ps, ⟨g, t, cs, fuel, p, q, hg, ht, hv, hd, _, _⟩, _, _⟩ := h;obtain rfl := Tc ((show Tryz.prog.globalNamed "math/bits.deBruijn64tab" = some 0 by kernel_rfl).symm.trans hg);obtain rfl := Tc ((show (Tryz.prog.globals[0]?).map (·.type) = some 244 by kernel_rfl).symm.trans ht);obtain ⟨xs, m, _, ex, _, hl, hel⟩ := DataW.trod_array Tryz.underlying244 hd;have c5 : Tryz.prog.cellsOf 5 = 1 := by kernel_rfl
 have e3 : (xs.map (·.1)) = AV.map fun n => .lit (.int .u8 n) := (DataW.agg.inj (Prod.mk.inj ex).1).symm;have hlen : AV.length = 64 := by decide
 intro r u hu;have hr : r < 64 := by
  have := (SC.1 hu).1;rw [cz] at this;omega
 have hE := hel r hr;rw [c5, SI, Ts Sd] at hE;obtain ⟨z, e1, e2, _⟩ := DataW.trod_int Tryz.underlying5 hE;have e4 : (xs.map (·.1))[r]? = (AV.map fun (n : Nat) => (DataW.lit (.int .u8 n) : DataW Unit))[r]? := by rw [e3]
 rw [St, St, Ts (by omega : r < xs.length), Ts (by omega : r < AV.length), e2] at e4;have hz : u = .int .u8 z := by
  rw [gl, St, Ts (by omega : r < AV.length)] at hu;simp only [T5, T3, DataW.lit.injEq, Lit.int.injEq, true_and] at e4 hu;rw [← hu, e4]
 rw [eC, SM, World.var?_cell hg hv r, hz];have : cs.toList[r]? = some (.int .u8 z) := by
  have h0 : ((cs.toList.drop r).take 1)[0]? = some (.int .u8 z) := by rw [e1]; rfl
  simpa using h0
 simpa using this
variable {P : Program} {b0 : Nat} {α : Type}
theorem rX {α : Type} {p : Nat → α → Prop} : ∀ (n : Nat), (∀ i, i < n → ∃ a, p i a) → ∃ l : List α, l.length = n ∧ ∀ i a, l[i]? = some a → p i a
 | 0, _ => ⟨[], rfl, fun i a h => by simp at h⟩
 | n + 1, h => by
  obtain ⟨l, h1, h2⟩ := rX n fun i hi => h i Sd;obtain ⟨a, ha⟩ := h n Sd;refine ⟨l ++ [a], by simp [h1], fun i b hb => ?_⟩
  rcases S6 i l.length with hi | hi
  ·rw [UM hi] at hb;exact h2 i b hb
  ·rw [Tu hi] at hb;have h3 : i - l.length = 0 := by
    rcases T8 (i - l.length) with h | h
    ·exact h
    ·rw [Sw (by simp; omega)] at hb; cases hb
   rw [h3] at hb;simp only [UX, T3] at hb;subst hb;rw [show i = n by omega];exact ha
theorem vx {f : α → List Value} {p : α → Prop} {sz : Nat} {t e : TypeId} {H : Type} {enc : TypeId × Value → H} {r : Reach} {sp : Nat → Bool} {v : Value} {d : DataW H} {ps : List MemPlace}
  (hf : ∀ x, (f x).length = sz) (h0 : 0 < sz) (ht : P.underlying t = some (.slice e)) (hc : P.cellsOf e = sz) (one : ∀ fuel cs x, DataW.trod enc P W base sp held fuel e cs = some x → ∃ a, cs = f a ∧ p a)
  (hval : Value.okWide P W r b0 t v) (hd : DataW.Trod enc P W base sp held t v d ps) : ∃ (A : Option Addr) (n c : Nat) (l : List α), v = .slice A n c ∧ Sl W A n sz (aw f l) ∧ ∀ a ∈ l, p a := by
 obtain ⟨a, len, cap, rfl⟩ := okWide_slice ht hval;obtain ⟨fuel, hfu⟩ := hd
 rcases Go.Deep.open_slice ht hfu with ⟨h1, _⟩ | ⟨ad, n, cp, m, k, D, Pl, h1, _, h2, h3, hm, _, h5⟩
 ·have h1' : [Value.slice a len cap] = [.slice none 0 0] := h1;simp only [List.cons.injEq, Value.slice.injEq, and_true] at h1';obtain ⟨rfl, rfl, rfl⟩ := h1';exact ⟨none, 0, 0, [], rfl, Sl.nil W none sz, fun _ h => by simp at h⟩
 ·have h1' : [Value.slice a len cap] = [.slice (some ad) n cp] := h1;simp only [List.cons.injEq, Value.slice.injEq, and_true] at h1';obtain ⟨rfl, rfl, rfl⟩ := h1';have hnm : len ≤ m := by rw [hm]; split <;> omega
  obtain ⟨l, hl, hp⟩ := rX (p := fun i a => W.cells? base (ad.add (i * sz)) sz = some (f a) ∧ p a) len fun i hi => by
   exact N6
  refine ⟨some ad, len, cap, l, rfl, ⟨by rw [dZ hf, hl], fun _ => ⟨ad, rfl, fun j u hu => ?_⟩⟩, fun a ha => ?_⟩
  ·exact O3
  ·obtain ⟨i, hi⟩ := TV.1 ha;exact (hp i a hi).2
variable {c : Nat}
def IC (z : Int) : List Value := [.int .i64 z]
theorem IC.len (z : Int) : (IC z).length = 1 := rfl
theorem J3 (l : List Int) : aw IC l = bm l := by
 induction l with
 | nil => rfl
 | cons z l ih => rw [iL, ih]; rfl
set_option maxRecDepth 100000 in
theorem Fc {H : Type} {enc : TypeId × Value → H} {sp : Nat → Bool} {x : DataW H × List MemPlace} (h : DataW.trod enc Tryz.prog W base sp held fuel 3 cs = some x) :
  ∃ z : Int, cs = IC z ∧ (Lit.int .i64 z).wf = true := by
 have c1 : Tryz.prog.cellsOf 3 = 1 := by kernel_rfl
 obtain ⟨z, e2, _, hz⟩ := DataW.trod_int Tryz.underlying3 h;exact ⟨z, e2, hz⟩
set_option maxRecDepth 100000 in
theorem EX {H : Type} {enc : TypeId × Value → H} {r : Reach} {sp : Nat → Bool} {v : Value} {d : DataW H} {ps : List MemPlace}
  (hval : Value.okWide Tryz.prog W r b0 35 v) (hd : DataW.Trod enc Tryz.prog W base sp held 35 v d ps) : ∃ (A : Option Addr) (n c : Nat) (l : List Int), v = .slice A n c ∧ Sl W A n 1 (bm l) ∧ ∀ z ∈ l, -9223372036854775808 ≤ z ∧ z ≤ 9223372036854775807 := by
 obtain ⟨A, n, c, l, h1, h2, h3⟩ := vx IC.len Se Tryz.underlying35 Sf (fun _ _ _ h => Fc h) hval hd;rw [J3] at h2;exact ⟨A, n, c, l, h1, h2, fun z hz => bounds_i64 (h3 z hz)⟩
theorem An {f : α → List Value} {p : α → Prop} {sz : Nat} {t e : TypeId} {H : Type} {enc : TypeId × Value → H} {sp : Nat → Bool} {x : DataW H × List MemPlace}
  (hf : ∀ x, (f x).length = sz) (h0 : 0 < sz) (ht : P.underlying t = some (.slice e)) (hc : P.cellsOf e = sz) (one : ∀ fuel cs x, DataW.trod enc P W base sp held fuel e cs = some x → ∃ a, cs = f a ∧ p a)
  (hfu : DataW.trod enc P W base sp held fuel t cs = some x) : ∃ (A : Option Addr) (n c : Nat) (l : List α), cs = [.slice A n c] ∧ Sl W A n sz (aw f l) ∧ ∀ a ∈ l, p a := by
 rcases Go.Deep.open_slice ht hfu with ⟨h1, _⟩ | ⟨ad, n, cp, m, k, D, Pl, h1, _, h2, h3, hm, _, h5⟩
 ·exact ⟨none, 0, 0, [], h1, Sl.nil W none sz, fun _ h => by simp at h⟩
 ·have hnm : n ≤ m := by rw [hm]; split <;> omega
  obtain ⟨l, hl, hp⟩ := rX (p := fun i a => W.cells? base (ad.add (i * sz)) sz = some (f a) ∧ p a) n fun i hi => by
   exact N6
  refine ⟨some ad, n, cp, l, h1, ⟨by rw [dZ hf, hl], fun _ => ⟨ad, rfl, fun j u hu => ?_⟩⟩, fun a ha => ?_⟩
  ·exact O3
  ·obtain ⟨i, hi⟩ := TV.1 ha;exact (hp i a hi).2
theorem Ex {t e : TypeId} {H : Type} {enc : TypeId × Value → H} {sp : Nat → Bool} {A : Option Addr} {x : DataW H × List MemPlace}
  (ht : P.underlying t = some (.slice e)) (hfu : DataW.trod enc P W base sp held fuel t [.slice A n c] = some x) : n ≤ c := by
 rcases Go.Deep.open_slice ht hfu with ⟨h1, _⟩ | ⟨ad, n', cp, m, k, D, Pl, h1, _, h2, _⟩
 ·injection h1 with h1
  injection h1 with _ e2 e3
  omega
 ·injection h1 with h1
  injection h1 with _ e2 e3
  omega
theorem Gn {l : List Int} (h : l.all cM = true) : ints (l.map z4) = l := by
 induction l with
 | nil => rfl
 | cons x l ih =>
  simp only [List.all_cons, SE] at h;have h1 : ((z4 x).toNat : Int) = x := by
   have := ra h.1;injection this with _ this
   exact this.symm
  have := ih h.2;simp only [ints, SW, h1];congr 1
theorem HT {l : List Int} (h : l.all cM = true) : eI (l.map z4) = true := by
 rw [eI, SU];intro c hc;obtain ⟨x, hx, rfl⟩ := SB.1 hc;have h1 := SU.1 h x hx;have := ra h1;injection this with _ this
 simp only [cM, SE, SJ] at h1;simp only [SJ];omega
theorem KA {a : List UInt8} (h : eI a = true) : (ints a).all cM = true := by
 rw [SU];intro x hx;obtain ⟨c, hc, rfl⟩ := SB.1 hx;have := SU.1 h c hc;simp only [SJ] at this;simp only [cM, SE, SJ];omega
theorem u4 {f : Int → Int → Int} {a b : List UInt8} {l : List Int} (h : jc f a b = some l) : eI a = true ∧ eI b = true ∧ b.length = a.length ∧ l = List.zipWith f (ints a) (ints b) := by
 unfold jc at h;split at h
 ·rename_i hc;simp only [SE, SJ] at hc;injection h with h
  exact ⟨hc.1, hc.2.1, Sd, h.symm⟩
 ·cases h
theorem IX {f : Int → Int → Int} {a b : List UInt8} (h1 : eI a = true) (h2 : eI b = true) (h3 : b.length = a.length) : jc f a b = some (List.zipWith f (ints a) (ints b)) := by
 unfold jc;rw [Sj (by simp [h1, h2, h3])]
theorem mU {a c : List UInt8} (h : (mulL a c).2 = 0) : eI a = true ∧ eI c = true ∧ c.length = a.length ∧ eI (mulL a c).1 = true ∧ ints (mulL a c).1 = List.zipWith (· + ·) (ints a) (ints c) := by
 unfold mulL at h ⊢;split
 ·rename_i l hl;rw [hl] at h;simp only at h ⊢;obtain ⟨h1, h2, h3, h4⟩ := u4 hl;by_cases hc : l.all cM = true
  ·rw [(rE hc).1];exact ⟨h1, h2, h3, HT hc, by rw [Gn hc, h4]⟩
  ·simp [Je, hc] at h
 ·rename_i hl;rw [hl] at h;simp at h
theorem Ab {a c : List UInt8} (h : (mulL a c).2 = 0) : (mulL a c).1.length = a.length := by
 obtain ⟨_, _, h3, _, h5⟩ := mU h;have := Tm List.length h5;rw [cK, List.length_zipWith, cK, cK] at this;omega
structure TR where
 m : ByteArray
 c : NR
def TR.cells (t : TR) : List Value := [.string t.m, .bool t.c.neg, .string t.c.bf, .int .i64 t.c.e]
theorem TR.len (t : TR) : t.cells.length = 4 := rfl
theorem TR.one (t : TR) : t.cells.all Value.oneCell' = true := rfl
def iV (a b : ByteArray) : Bool := Op.bytesLess a.data.toList b.data.toList
theorem ph : ∀ a : List UInt8, Op.bytesLess a a = false
 | [] => rfl
 | c :: a => by simp [Op.bytesLess, ph a]
theorem ql : ∀ a b c : List UInt8, Op.bytesLess a b = true → Op.bytesLess b c = true → Op.bytesLess a c = true
 | _, [], [], _, h => by simp [Op.bytesLess] at h
 | _, _ :: _, [], _, h => by simp [Op.bytesLess] at h
 | [], [], _ :: _, h, _ => by simp [Op.bytesLess] at h
 | _ :: _, [], _ :: _, h, _ => by simp [Op.bytesLess] at h
 | [], _ :: _, _ :: _, _, _ => rfl
 | x :: a, y :: b, z :: c, h1, h2 => by
  simp only [Op.bytesLess, Uu, SE, SJ, T0] at h1 h2 ⊢
  rcases h1 with h1 | ⟨rfl, h1⟩
  ·rcases h2 with h2 | ⟨rfl, h2⟩
   ·exact .inl (UInt8.lt_trans h1 h2)
   ·exact .inl h1
  ·rcases h2 with h2 | ⟨rfl, h2⟩
   ·exact .inl h2
   ·exact .inr ⟨rfl, ql a b c h1 h2⟩
theorem vt : ∀ a b : List UInt8, Op.bytesLess a b = false → Op.bytesLess b a = false → a = b
 | [], [], _, _ => rfl
 | [], _ :: _, h, _ => by simp [Op.bytesLess] at h
 | _ :: _, [], _, h => by simp [Op.bytesLess] at h
 | x :: a, y :: b, h1, h2 => by
  simp only [Op.bytesLess, Bool.or_eq_false_iff, Bool.and_eq_false_iff, Vv, beq_eq_false_iff_ne] at h1 h2;have e : x = y := by
   have a1 := h1.1;have a2 := h2.1;rw [UInt8.lt_iff_toNat_lt] at a1 a2;exact U2.1 Sd
  subst e;rw [vt a b (h1.2.resolve_left (fun h => h rfl)) (h2.2.resolve_left (fun h => h rfl))]
theorem gF (a : ByteArray) : iV a a = false := ph _
theorem jG {a b c : ByteArray} (h1 : iV a b = true) (h2 : iV b c = true) : iV a c = true := ql _ _ _ h1 h2
theorem n4 {a b : ByteArray} (h1 : iV a b = false) (h2 : iV b a = false) : a = b := ti (vt _ _ h1 h2)
theorem GV {a b : ByteArray} (h : iV a b = true) : a ≠ b := fun e => by rw [e, gF] at h; cases h
theorem EI {a b : ByteArray} (h : iV a b = true) : iV b a = false := by
 cases h2 : iV b a with
 | false => rfl
 | true => have := jG h h2; rw [gF] at this; cases this
def rv (l : List TR) : Prop := l.Pairwise fun a b => iV a.m b.m = true
def wS (f : ByteArray → Dyadic) : List TR → Dyadic
 | [] => 0
 | t :: l => t.c.d * f t.m + wS f l
theorem mC (f : ByteArray → Dyadic) (l k : List TR) : wS f (l ++ k) = wS f l + wS f k := by
 induction l with
 | nil => exact (Ur _).symm
 | cons t l ih => rw [Sv, wS, wS, ih, Dyadic.add_assoc]
theorem Kc (f : ByteArray → Dyadic) (l : List TR) (t : TR) : wS f (l ++ [t]) = wS f l + t.c.d * f t.m := by
 rw [mC, wS, wS, UH]
def ie (l : List TR) (m : ByteArray) : Dyadic := wS (fun k => if k = m then 1 else 0) l
theorem fy (t : TR) (l : List TR) (m : ByteArray) : ie (t :: l) m = (if t.m = m then t.c.d else 0) + ie l m := by
 show t.c.d * (if t.m = m then 1 else 0) + ie l m = _;split
 ·rw [Dyadic.mul_one]
 ·rw [U4]
theorem se (m : ByteArray) : ie [] m = 0 := rfl
theorem eU (l k : List TR) (m : ByteArray) : ie (l ++ k) m = ie l m + ie k m := mC _ _ _
theorem uE {l : List TR} {m : ByteArray} (h : ∀ t ∈ l, t.m ≠ m) : ie l m = 0 := by
 induction l with
 | nil => rfl
 | cons t l ih => rw [fy, Si (h t Sq), ih fun s hs => h s (SA _ hs), Ur]
structure Canon (l : List TR) : Prop where
 qO : rv l
 nz : ∀ t ∈ l, t.c.d ≠ 0
 nf : ∀ t ∈ l, t.c = nR t.c.d
theorem rW {t : TR} {l : List TR} (h : Canon (t :: l)) : Canon l := ⟨(TF.1 h.qO).2, fun s hs => h.nz s (SA _ hs), fun s hs => h.nf s (SA _ hs)⟩
theorem uw {t : TR} {l : List TR} {m : ByteArray} (h : rv (t :: l)) (hm : m = t.m ∨ iV m t.m = true) : ∀ s ∈ l, s.m ≠ m := fun s hs e => by
 have h1 := (TF.1 h).1 s hs
 rcases hm with rfl | hm
 ·rw [e, gF] at h1; cases h1
 ·have := jG hm h1;rw [e, gF] at this; cases this
theorem jD {t : TR} {l : List TR} (h : rv (t :: l)) : ie (t :: l) t.m = t.c.d := by
 rw [fy, Sj rfl, uE (uw h (.inl rfl)), UH]
theorem uZ {t : TR} {l : List TR} {m : ByteArray} (h : rv (t :: l)) (hm : iV m t.m = true) : ie (t :: l) m = 0 := by
 rw [fy, Si (fun e => GV hm e.symm), uE (uw h (.inr hm)), Ur]
theorem yk : ∀ {l k : List TR}, Canon l → Canon k → (∀ m, ie l m = ie k m) → l = k
 | [], [], _, _, _ => rfl
 | [], t :: k, _, hk, h => by
  have := h t.m;rw [jD hk.qO, se] at this;exact absurd this.symm (hk.nz t Sq)
 | t :: l, [], hl, _, h => by
  have := h t.m;rw [jD hl.qO, se] at this;exact absurd this (hl.nz t Sq)
 | t :: l, s :: k, hl, hk, h => by
  have h1 : iV t.m s.m = false := by
   cases hb : iV t.m s.m with
   | false => rfl
   | true =>
    have := h t.m;rw [jD hl.qO, uZ hk.qO hb] at this;exact absurd this (hl.nz t Sq)
  have h2 : iV s.m t.m = false := by
   cases hb : iV s.m t.m with
   | false => rfl
   | true =>
    have := h s.m;rw [jD hk.qO, uZ hl.qO hb] at this;exact absurd this.symm (hk.nz s Sq)
  have em := n4 h1 h2;have ed : t.c.d = s.c.d := by
   have := h t.m;rw [jD hl.qO, em, jD hk.qO] at this;exact this
  have et : t = s := by
   have a := hl.nf t Sq;have b := hk.nf s Sq;obtain ⟨m1, c1⟩ := t;obtain ⟨m2, c2⟩ := s;simp only at em ed a b;rw [em, a, b, ed]
  subst et;rw [yk (rW hl) (rW hk) fun m => by
   have := h m;rw [fy, fy] at this;grind]
def nA : List TR → TR → List TR
 | [], x => [⟨x.m, nR x.c.d⟩]
 | t :: l, x => if iV t.m x.m = true then t :: nA l x else if iV x.m t.m = true then ⟨x.m, nR x.c.d⟩ :: t :: l else ⟨x.m, nR (t.c.d + x.c.d)⟩ :: l
theorem DP (f : ByteArray → Dyadic) : ∀ (l : List TR) (x : TR), wS f (nA l x) = wS f l + x.c.d * f x.m
 | [], x => by
  show (nR x.c.d).d * f x.m + 0 = 0 + _;rw [cn, UH, Ur]
 | t :: l, x => by
  unfold nA;split
  ·rw [wS, DP f l x, wS, Dyadic.add_assoc]
  ·split
   ·rw [wS, wS, cn, Dyadic.add_comm]
   ·rename_i h1 h2;have e : t.m = x.m := n4 (by simpa using h1) (by simpa using h2);rw [wS, wS, cn, e];grind
theorem tg : ∀ {l : List TR} {x t : TR}, t ∈ nA l x → t ∈ l ∨ t.m = x.m
 | [], x, t, h => .inr (by rw [SN.1 h])
 | s :: l, x, t, h => by
  unfold nA at h;split at h
  ·rcases SH.1 h with rfl | h
   ·exact .inl Sq
   ·rcases tg h with h | h
    ·exact .inl (SA _ h)
    ·exact .inr h
  ·split at h
   ·rcases SH.1 h with rfl | h
    ·exact .inr rfl
    ·exact .inl h
   ·rcases SH.1 h with rfl | h
    ·exact .inr rfl
    ·exact .inl (SA _ h)
theorem yH : ∀ {l : List TR} {x : TR}, rv l → rv (nA l x)
 | [], x, _ => VB _ _
 | s :: l, x, h => by
  have h1 := TF.1 h;unfold nA;split
  ·rename_i hs;refine TF.2 ⟨fun t ht => ?_, yH h1.2⟩
   rcases tg ht with ht | ht
   ·exact h1.1 t ht
   ·rw [ht]; exact hs
  ·split
   ·rename_i hs;refine TF.2 ⟨fun t ht => ?_, h⟩
    rcases SH.1 ht with rfl | ht
    ·exact hs
    ·exact jG hs (h1.1 t ht)
   ·rename_i a b;have e : s.m = x.m := n4 (by simpa using a) (by simpa using b);refine TF.2 ⟨fun t ht => ?_, h1.2⟩;show iV x.m t.m = true;rw [← e];exact h1.1 t ht
theorem B0 : ∀ {l : List TR} {x : TR}, (∀ t ∈ l, t.c = nR t.c.d) → ∀ t ∈ nA l x, t.c = nR t.c.d
 | [], x, _, t, ht => by rw [SN.1 ht]; show nR _ = nR (nR _).d; rw [cn]
 | s :: l, x, h, t, ht => by
  unfold nA at ht;split at ht
  ·rcases SH.1 ht with rfl | ht
   ·exact h t Sq
   ·exact B0 (fun t ht => h t (SA _ ht)) t ht
  ·split at ht
   ·rcases SH.1 ht with rfl | ht
    ·show nR _ = nR (nR _).d; rw [cn]
    ·exact h t ht
   ·rcases SH.1 ht with rfl | ht
    ·show nR _ = nR (nR _).d; rw [cn]
    ·exact h t (SA _ ht)
theorem yA : ∀ (l : List TR) (x : TR), (nA l x).length ≤ l.length + 1
 | [], x => So _
 | s :: l, x => by
  have := yA l x;unfold nA;split
  ·rw [SG, SG]; omega
  ·split <;> simp
theorem Cq {k : Nat} : ∀ {l : List TR} {x : TR}, (∀ t ∈ l, Sz k t.c.d) → Sz k x.c.d → ∀ t ∈ nA l x, Sz (k + 1) t.c.d
 | [], x, _, hx, t, ht => by rw [SN.1 ht]; show Sz _ (nR _).d; rw [cn]; exact hx.mono Sd
 | s :: l, x, h, hx, t, ht => by
  unfold nA at ht;split at ht
  ·rcases SH.1 ht with rfl | ht
   ·exact (h t Sq).mono Sd
   ·exact Cq (fun t ht => h t (SA _ ht)) hx t ht
  ·split at ht
   ·rcases SH.1 ht with rfl | ht
    ·show Sz _ (nR _).d; rw [cn]; exact hx.mono Sd
    ·exact (h t ht).mono Sd
   ·rcases SH.1 ht with rfl | ht
    ·show Sz _ (nR _).d; rw [cn]; exact (h s Sq).add hx
    ·exact (h t (SA _ ht)).mono Sd
def lO (l : List TR) : List TR := l.foldl nA []
def vL (t : TR) : Bool := !decide (t.c.d = 0)
def aF (l : List TR) : List TR := (lO l).filter vL
theorem iC (l : List TR) (x : TR) : lO (l ++ [x]) = nA (lO l) x := by unfold lO; rw [UI]; rfl
theorem ji {P : List α → Prop} (h0 : P []) (hs : ∀ l x, P l → P (l ++ [x])) (l : List α) : P l := by
 have : ∀ k : List α, P k.reverse := fun k => by
  induction k with
  | nil => exact h0
  | cons x k ih => rw [Ue]; exact hs _ _ ih
 have h := this l.reverse;rwa [U0] at h
theorem Ii (f : ByteArray → Dyadic) (l : List TR) : wS f (lO l) = wS f l := by
 induction l using ji with
 | h0 => rfl
 | hs l x ih => rw [iC, DP, ih, Kc]
theorem Fe (l : List TR) : rv (lO l) := by
 induction l using ji with
 | h0 => exact Vh
 | hs l x ih => rw [iC]; exact yH ih
theorem Im (l : List TR) : ∀ t ∈ lO l, t.c = nR t.c.d := by
 induction l using ji with
 | h0 => intro t ht; cases ht
 | hs l x ih => rw [iC]; exact B0 ih
theorem EZ (l : List TR) : (lO l).length ≤ l.length := by
 induction l using ji with
 | h0 => exact So _
 | hs l x ih => rw [iC, Sr]; have := yA (lO l) x; simp; omega
theorem GJ (l : List TR) (h : ∀ t ∈ l, Sz k t.c.d) : ∀ t ∈ lO l, Sz (k + l.length) t.c.d := by
 induction l using ji with
 | h0 => intro t ht; cases ht
 | hs l x ih =>
  rw [iC, Sr];exact Cq (k := k + l.length) (ih fun t ht => h t (Uh _ ht)) ((h x (by simp)).mono Sd)
theorem ED (l : List TR) : ∀ t ∈ lO l, ∃ s ∈ l, s.m = t.m := by
 induction l using ji with
 | h0 => intro t ht; cases ht
 | hs l x ih =>
  rw [iC];intro t ht
  rcases tg ht with ht | ht
  ·obtain ⟨s, hs, e⟩ := ih t ht;exact ⟨s, Uh _ hs, e⟩
  ·exact ⟨x, by simp, ht.symm⟩
theorem uy (f : ByteArray → Dyadic) (l : List TR) : wS f (l.filter vL) = wS f l := by
 induction l with
 | nil => rfl
 | cons t l ih =>
  rw [List.filter_cons];by_cases h : t.c.d = 0
  ·rw [Si (by unfold vL; rw [SF h]; decide), ih, wS, h, Vo, Ur]
  ·rw [Sj (by unfold vL; rw [SQ h]; rfl), wS, wS, ih]
theorem p8 (f : ByteArray → Dyadic) (l : List TR) : wS f (aF l) = wS f l := (uy f _).trans (Ii f l)
theorem qV (l : List TR) (m : ByteArray) : ie (aF l) m = ie l m := p8 _ _
theorem Aa {t : TR} (h : vL t = true) : t.c.d ≠ 0 := fun e => by
 unfold vL at h;rw [SF e] at h
 cases h
theorem eZ (l : List TR) : Canon (aF l) :=
 ⟨List.Pairwise.filter _ (Fe l), fun t ht => Aa (TD.1 ht).2, fun t ht => Im l t (TD.1 ht).1⟩
theorem cI (l : List TR) : (aF l).length ≤ l.length := SK (List.length_filter_le _ _) (EZ l)
theorem mD {l : List TR} (h : ∀ t ∈ l, Sz k t.c.d) : ∀ t ∈ aF l, Sz (k + l.length) t.c.d := fun t ht => GJ l h t (TD.1 ht).1
theorem jT {l : List TR} : ∀ t ∈ aF l, ∃ s ∈ l, s.m = t.m := fun t ht => ED l t (TD.1 ht).1
theorem vf {l k : List TR} (h : Canon k) (hc : ∀ m, ie k m = ie l m) : k = aF l := yk h (eZ l) fun m => by rw [hc, qV]
theorem xi {l k : List TR} (hc : ∀ m, ie k m = ie l m) : aF k = aF l := vf (eZ k) fun m => by rw [qV, hc]
variable {O Y l : List TR}
def iA (k : Nat) (l : List TR) : Prop := ∀ t ∈ l, t.c.ok ∧ Sz k t.c.d
theorem iA.mono (h : iA k l) (hk : k ≤ j) : iA j l := fun t ht => ⟨(h t ht).1, (h t ht).2.mono hk⟩
structure MD (k : Nat) (l L : List TR) : Prop where
 qO : rv L
 co : ∀ m, ie L m = ie l m
 len : L.length ≤ l.length
 ok : iA k L
 mem : ∀ t ∈ L, ∃ s ∈ l, s.m = t.m
theorem MD.mono {L : List TR} (h : MD k l L) (hk : k ≤ j) : MD j l L := ⟨h.qO, h.co, h.len, h.ok.mono hk, h.mem⟩
theorem MD.self (h : rv l) (hk : iA k l) : MD k l l := ⟨h, fun _ => rfl, So _, hk, fun t ht => ⟨t, ht, rfl⟩⟩
structure Mg (k : Nat) (xs ys O X Y : List TR) : Prop where
 ro : rv O
 rx : rv X
 ry : rv Y
 co : ∀ m, ie O m + (ie X m + ie Y m) = ie xs m + ie ys m
 bx : ∀ t ∈ O, ∀ s ∈ X, iV t.m s.m = true
 hy : ∀ t ∈ O, ∀ s ∈ Y, iV t.m s.m = true
 len : O.length + (X.length + Y.length) ≤ xs.length + ys.length
 oo : iA (k + 1) O
 ox : iA k X
 oy : iA k Y
 mo : ∀ t ∈ O, ∃ s ∈ xs ++ ys, s.m = t.m
 mx : ∀ t ∈ X, t ∈ xs ++ ys
 my : ∀ t ∈ Y, t ∈ xs ++ ys
theorem Mg.start {xs ys : List TR} (hx : rv xs) (hy : rv ys) (ox : iA k xs) (oy : iA k ys) : Mg k xs ys [] xs ys :=
 ⟨Vh, hx, hy, fun m => Ur _, fun t ht => (by cases ht), fun t ht => (by cases ht), by simp, fun t ht => (by cases ht), ox, oy, fun t ht => (by cases ht), fun t ht => Uh _ ht, fun t ht => TG _ ht⟩
theorem tF {x : TR} (h : rv O) (hx : ∀ t ∈ O, iV t.m x.m = true) : rv (O ++ [x]) :=
 List.pairwise_append.2 ⟨h, VB _ _, fun t ht s hs => by rw [SN.1 hs]; exact hx t ht⟩
theorem tC (x : TR) (m : ByteArray) : ie [x] m = if x.m = m then x.c.d else 0 := by rw [fy, se, UH]
theorem fg {P : α → Prop} {O : List α} {x : α} (h : ∀ t ∈ O, P t) (hx : P x) : ∀ t ∈ O ++ [x], P t := fun t ht => by
 rcases S2.1 ht with ht | ht
 ·exact h t ht
 ·rw [SN.1 ht]; exact hx
theorem Mg.left {xs ys X : List TR} {x y : TR} (h : Mg k xs ys O (x :: X) (y :: Y)) (hl : iV x.m y.m = true) : Mg k xs ys (O ++ [x]) X (y :: Y) := by
 obtain ⟨ro, rx, ry, co, bx, hby, len, oo, ox, oy, mo, mx, my⟩ := h;have r1 := TF.1 rx;have r2 := TF.1 ry;refine ⟨tF ro fun t ht => bx t ht x Sq, r1.2, ry, fun m => ?_, fg (fun t ht s hs => bx t ht s (SA _ hs)) fun s hs => r1.1 s hs, fg hby fun s hs => ?_, by simp at len ⊢; omega, fg oo ⟨(ox x Sq).1, (ox x Sq).2.mono Sd⟩, fun t ht => ox t (SA _ ht), oy, fg mo ⟨x, mx x Sq, rfl⟩, fun t ht => mx t (SA _ ht), my⟩
 ·have := co m;rw [fy x X] at this;rw [eU, tC];grind
 ·rcases SH.1 hs with rfl | hs
  ·exact hl
  ·exact jG hl (r2.1 s hs)
theorem Mg.right {xs ys X : List TR} {x y : TR} (h : Mg k xs ys O (x :: X) (y :: Y)) (hl : iV y.m x.m = true) : Mg k xs ys (O ++ [y]) (x :: X) Y := by
 obtain ⟨ro, rx, ry, co, bx, hby, len, oo, ox, oy, mo, mx, my⟩ := h;have r1 := TF.1 rx;have r2 := TF.1 ry;refine ⟨tF ro fun t ht => hby t ht y Sq, rx, r2.2, fun m => ?_, fg bx fun s hs => ?_, fg (fun t ht s hs => hby t ht s (SA _ hs)) fun s hs => r2.1 s hs, by simp at len ⊢; omega, fg oo ⟨(oy y Sq).1, (oy y Sq).2.mono Sd⟩, ox, fun t ht => oy t (SA _ ht), fg mo ⟨y, my y Sq, rfl⟩, mx, fun t ht => my t (SA _ ht)⟩
 ·have := co m;rw [fy y Y] at this;rw [eU, tC];grind
 ·rcases SH.1 hs with rfl | hs
  ·exact hl
  ·exact jG hl (r1.1 s hs)
theorem Mg.both {xs ys X : List TR} {x y : TR} (h : Mg k xs ys O (x :: X) (y :: Y)) (h1 : iV x.m y.m = false) (h2 : iV y.m x.m = false) (hk : k ≤ 3999980) : Mg k xs ys (O ++ [⟨x.m, nR (x.c.d + y.c.d)⟩]) X Y := by
 obtain ⟨ro, rx, ry, co, bx, hby, len, oo, ox, oy, mo, mx, my⟩ := h;have r1 := TF.1 rx;have r2 := TF.1 ry;have e := n4 h1 h2;have hz := (ox x Sq).2.add (oy y Sq).2;refine ⟨tF ro fun t ht => bx t ht x Sq, r1.2, r2.2, fun m => ?_, fg (fun t ht s hs => bx t ht s (SA _ hs)) fun s hs => r1.1 s hs, fg (fun t ht s hs => hby t ht s (SA _ hs)) fun s hs => ?_, by simp at len ⊢; omega, fg oo ⟨hz.ok Sd, ?_⟩, fun t ht => ox t (SA _ ht), fun t ht => oy t (SA _ ht), fg mo ⟨x, mx x Sq, rfl⟩, fun t ht => mx t (SA _ ht), fun t ht => my t (SA _ ht)⟩
 ·have := co m;rw [fy y Y, fy x X, ← e] at this;rw [eU, tC];show ie O m + (if x.m = m then (nR (x.c.d + y.c.d)).d else 0) + (ie X m + ie Y m) = _;rw [cn];grind
 ·show iV x.m s.m = true;rw [e];exact r2.1 s hs
 ·show Sz _ (nR _).d;rw [cn];exact hz
theorem Mg.done {xs ys X : List TR} (h : Mg k xs ys O X Y) (hd : X = [] ∨ Y = []) : MD (k + 1) (xs ++ ys) (O ++ X ++ Y) := by
 obtain ⟨ro, rx, ry, co, bx, hby, len, oo, ox, oy, mo, mx, my⟩ := h;refine ⟨?_, fun m => ?_, by simp at len ⊢; omega, fun t ht => ?_, fun t ht => ?_⟩
 ·rw [S5];refine List.pairwise_append.2 ⟨ro, ?_, fun t ht s hs => ?_⟩
  ·rcases hd with rfl | rfl
   ·exact ry
   ·rw [S3]; exact rx
  ·rcases S2.1 hs with hs | hs
   ·exact bx t ht s hs
   ·exact hby t ht s hs
 ·rw [eU, eU, eU, Dyadic.add_assoc];exact co m
 ·rcases S2.1 ht with ht | ht
  ·rcases S2.1 ht with ht | ht
   ·exact oo t ht
   ·exact ⟨(ox t ht).1, (ox t ht).2.mono Sd⟩
  ·exact ⟨(oy t ht).1, (oy t ht).2.mono Sd⟩
 ·rcases S2.1 ht with ht | ht
  ·rcases S2.1 ht with ht | ht
   ·exact mo t ht
   ·exact ⟨t, mx t ht, rfl⟩
  ·exact ⟨t, my t ht, rfl⟩
theorem MD.aF {k : Nat} {l L : List TR} (h : MD k l L) : ((L.filter vL).map fun t => (⟨t.m, nR t.c.d⟩ : TR)) = aF l := by
 refine vf ⟨?_, fun t ht => ?_, fun t ht => ?_⟩ fun m => ?_
 ·exact List.Pairwise.map _ (fun a b hab => hab) (List.Pairwise.filter _ h.qO)
 ·obtain ⟨s, hs, rfl⟩ := SB.1 ht;show (nR s.c.d).d ≠ 0;rw [cn];exact Aa (TD.1 hs).2
 ·obtain ⟨s, hs, rfl⟩ := SB.1 ht;show nR s.c.d = nR (nR s.c.d).d;rw [cn]
 ·have e : ∀ (f : ByteArray → Dyadic) (k : List TR), wS f (k.map fun t => (⟨t.m, nR t.c.d⟩ : TR)) = wS f k := fun f k => by
   induction k with
   | nil => rfl
   | cons t k ih => rw [SW, wS, wS, ih]; show (nR t.c.d).d * f t.m + _ = _; rw [cn]
  show wS _ _ = _;rw [e, uy];exact h.co m
theorem uY (h : l.length < 2) : rv l := by
 match l, h with
 | [], _ => exact Vh
 | [x], _ => exact VB _ _
variable {K : Value → World → Prop} {ag : Bool} {by' : Nat} {ops : Array Oper} {pos : String} {zc : List Value}
section
variable {ro : Mode}
section
variable {P : Program} {N : Nat} {ops : Array Oper} {Q : Kq} {ρ : Rf} {w w0 : World} {rest : List Oper} {H : List HE} {d : Nat} {ty : TypeId} {pos : String} {af : Array Edge}
theorem JQ (hh : Hp w0 H w) {t e : TypeId} {l cp : Operand} {kl kc : IntKind} {L C : Int} {sz : Nat} (hl : ev ρ l = .int kl L) (hc : ev ρ cp = .int kc C) (hL : L = 0) (hC : C = (n : Int))
  (ht : P.underlying t = some (.slice e)) (hte : dk P e = some (sz, ag, by', zc)) (hb : by' * n ≤ 281474976710656) (h63 : n ≤ 9223372036854775807) (hN : d < N)
  (k : ∀ b w', Hp w0 (.row (some ⟨b, 0, none⟩) 0 n e sz [] :: H) w' → WL ro P N ops Q rest (cx ρ d (.slice (some ⟨b, 0, none⟩) 0 n)) w') :
  WL ro P N ops Q (⟨some d, .makeSlice t l cp, ty, pos, af, none⟩ :: rest) ρ w := by
 obtain ⟨i, z, dd, hi, hd, hz, hs, hby, hzc, _⟩ := eW hte;subst hL; subst hC; subst hs;have hr := run_make (P := P) w t e i z ht hi hz kl kc 0 n (Int.le_refl _) Sd (by rw [hby, ← Tv]; omega) Sd;simp only [T7, Int.toNat_zero] at hr;refine aM rfl rfl hN (w' := w.alloc (.cells (madeCells z.cells (n * i.size)) e)) (v := .slice (some ⟨w.heap.size, 0, none⟩) 0 n) ?_ (k _ _ (hh.aO (show Below w.heap.size w (w.alloc (.cells (madeCells z.cells (n * i.size)) e)) from ⟨rfl, rfl, rfl, (World.grownBy_alloc w _ none).size, fun j hj => (World.grownBy_alloc w _ none).block j hj (by simp)⟩) ?_))
 ·simp [execOp, hl, hc, hr]
 ·exact ⟨by simp, .inr ⟨w.heap.size, n, madeCells z.cells (n * i.size), rfl, So _, heap_alloc_new w _, Sn _, by unfold maxLen; omega, size_madeCells _ _, by simp⟩⟩
end
def ki (n sz : Nat) (cs : List Value) : VP := fun v W => ∃ g : Nat, v = .slice (some ⟨g, 0, none⟩) n n ∧ Sl W (some ⟨g, 0, none⟩) n sz cs
theorem ki.ext {sz : Nat} (v : Value) (w w' : World) (h : ki n sz cs v w) (hb : Below w.heap.size w w') : ki n sz cs v w' := let ⟨g, h1, h2⟩ := h; ⟨g, h1, h2.ext hb⟩
section
variable {P : Program} {ρ : Rf} {w : World}
theorem KJ {d : Option Nat} {ty : TypeId} {af : Array Edge} {t e : TypeId} {l cp : Operand} {kl kc : IntKind} {L C : Int} {sz : Nat} (hl : ev ρ l = .int kl L) (hc : ev ρ cp = .int kc C) (hL : L = (n : Int)) (hC : C = (n : Int))
  (ht : P.underlying t = some (.slice e)) (hte : dk P e = some (sz, ag, by', zc)) (hzl : zc.length = sz) (hb : by' * n ≤ 281474976710656) (h63 : n ≤ 9223372036854775807)
  (hk : ∀ v w2, ki n sz (gd n zc) v w2 → Below w.heap.size w w2 → K v w2) : OG P ops ⟨d, .makeSlice t l cp, ty, pos, af, none⟩ ρ w K := by
 obtain ⟨i, z, dd, hi, hd, hz, hs, hby, hzc, _⟩ := eW hte;subst hL; subst hC;obtain ⟨w', hr, hown, hg⟩ := run_make_full (P := P) w w.heap.size t e i z sz ht hi hz hs kl kc n (by rw [hby]; exact hb) (by unfold maxLen; omega) (So _);have hzz : (madeCells z.cells (n * sz)).toList = gd n zc := by
  exact Oc
 rw [hzz] at hown;exact gK rfl (w' := w') (v := .slice (some ⟨w.heap.size, 0, none⟩) n n) (by simp [execOp, hl, hc, hr]) (hk _ _ ⟨w.heap.size, rfl, mV hown⟩ ⟨hg.os, hg.tape, hg.output, hg.size, fun j hj => hg.block j hj (by simp)⟩)
theorem su (n : Nat) : gd n [.int .u8 0] = nQ (List.replicate n 0) := by
 induction n with
 | zero => rfl
 | succ n ih => rw [gd, ih, UC]; rfl
end
end
theorem C3 (a : ByteArray) : a.toList = a.data.toList := by
 have key : ∀ s : ByteArray, s.toList = s.data.toList := fun s => by
  exact O6
 exact key a
theorem pq (a b : ByteArray) : Op.bytesLess a.toList b.toList = iV a b := by rw [C3, C3]; rfl
theorem JM (a b : ByteArray) : (!(Op.bytesLess a.toList b.toList || a.toList == b.toList)) = iV b a := by
 rw [pq, F7]
 cases h1 : iV a b with
 | true => rw [EI h1]; rfl
 | false =>
  cases h2 : iV b a with
  | true => rw [SQ (fun e => GV h2 e.symm)]; rfl
  | false => rw [SF (n4 h1 h2)]; rfl
def H8 (x y : TR) : Int := if iV x.m y.m = true then -1 else if iV y.m x.m = true then 1 else 0
theorem Aj (x y : TR) (w : World) : Calls Tryz.prog 76 #[.agg #[.string x.m, .bool x.c.neg, .string x.c.bf, .int .i64 x.c.e], .agg #[.string y.m, .bool y.c.neg, .string y.c.bf, .int .i64 y.c.e]] w fun r w' => r = .returned (.int .i64 (H8 x y)) ∧ Below w.heap.size w w' := by
 have hh := Hp.start w;refine aj (N := 17) (l := [.agg #[.string x.m, .bool x.c.neg, .string x.c.bf, .int .i64 x.c.e], .agg #[.string y.m, .bool y.c.neg, .string y.c.bf, .int .i64 y.c.e]]) Tryz.func76 rfl rfl (by simp) ?_;refine sr ?_;refine cq hh [_,_,_,_] ?_;intro b2 w2 hh;refine cq hh [_,_,_,_] ?_;intro b3 w3 hh;refine sH ?_;refine bE hh 1 ?_;refine bF ?_;refine bE hh 0 ?_;refine EE rfl rfl Se ?_;refine aB (aa ?_);rw [pq];unfold H8
 cases h1 : iV x.m y.m with
 | true =>
  refine cT (sr (aI (aa (au (bQ (aG ?_))))));refine da ?_;exact ⟨rfl, hh.below⟩
 | false =>
  refine cF (sr (bF ?_));refine bE hh 1 ?_;refine bF ?_;refine bE hh 0 ?_;refine DZ rfl rfl Se ?_;refine aB (aa ?_);rw [JM]
  cases h2 : iV y.m x.m with
  | true =>
   refine cT (sr (aI (aa (au (bQ (aG ?_))))));refine da ?_;exact ⟨rfl, hh.below⟩
  | false =>
   refine cF (aq (bg (ai (sr (aI (aa (au ?_)))))));refine da ?_;exact ⟨rfl, hh.below⟩
theorem Eu (x y : TR) (k : Nat) (w : World) (hT : dD w) (hx : x.c.ok ∧ Sz k x.c.d) (hy : y.c.ok ∧ Sz k y.c.d) (hk : k ≤ 3999980) : Calls Tryz.prog 77 #[.agg #[.string x.m, .bool x.c.neg, .string x.c.bf, .int .i64 x.c.e], .agg #[.string y.m, .bool y.c.neg, .string y.c.bf, .int .i64 y.c.e]] w fun r w' => r = .returned (.agg #[.string x.m, .bool (nR (x.c.d + y.c.d)).neg, .string (nR (x.c.d + y.c.d)).bf, .int .i64 (nR (x.c.d + y.c.d)).e]) ∧ Below w.heap.size w w' := by
 have hh := Hp.start w;have hsum := fun A cc w1 hT1 hS1 => iG A 2 cc [x.c, y.c] w1 hT1 hS1 (by simpa using ⟨hx.1, hy.1⟩) k (by simpa using ⟨hx.2, hy.2⟩) Sd;rw [show m9 ([x.c, y.c].map NR.d) = x.c.d + y.c.d by simp only [SW, Tx, kx]] at hsum;refine aj (N := 14) (l := [.agg #[.string x.m, .bool x.c.neg, .string x.c.bf, .int .i64 x.c.e], .agg #[.string y.m, .bool y.c.neg, .string y.c.bf, .int .i64 y.c.e]]) Tryz.func77 rfl rfl (by simp) ?_;refine sr ?_;refine cq hh [_,_,_,_] ?_;intro b2 w2 hh;refine cq hh [_,_,_,_] ?_;intro b3 w3 hh;refine bJ hh ?_;intro b4 w4 hh;refine aa (ah ?_);refine aU 8 [[(2, none)], [(5, some 0)], [(2, none)], [(7, some 2)], [(3, none)], [(9, some 4)], [(8, some 3), (10, some 5)], [(11, some 6)]] [(7, 12), (6, 11), (5, 10), (4, 9), (3, 8), (2, 7), (1, 6), (0, 5)] hh mixed Sf ?_;refine ek ?_;refine gH 2 ?_;refine ek ?_;refine eX 2 [_,_,_] ?_;refine ek ?_;refine eX 1 [_,_,_] ?_;refine z7 [_,_,_,_,_,_] ?_;refine a8 (i := 7) (Is (.agg #[.bool (nR (x.c.d + y.c.d)).neg, .string (nR (x.c.d + y.c.d)).bf, .int .i64 (nR (x.c.d + y.c.d)).e])) Is.ext ?_ ?_
 ·intro ρ1 w1 hj hR;obtain ⟨A11, c11, h11, s11⟩ := hR.1;exact bA rfl (aZ ak.out (aA h11 a7)) (hsum A11 c11 _ (hT.hp hj.hp) s11) (fun _ _ hq => ⟨_, hq.1, hq.2, rfl⟩)
 refine aR ?_;intro f W hJ hV;have hb_1 := hJ.bl;obtain ⟨v12, v11, v10, v9, v8, v7, v6, v5, _⟩ := hV;obtain ⟨A11, c11, e11, f11⟩ : Rows _ _ _ (f 6) W := v11;replace hh := hJ.hp;refine aX (bp (ae v12 (ae e11 (ae v10 (ae v9 (ae v8 (ae v7 (ae v6 (ae v5 aW))))))))) ?_;dsimp only [ck];clear e11 hJ;refine gg [_,_,_,_] ?_;refine bK hh 0 [_,_,_,_] ?_;intro ws hh;replace hh : Hp _ (.blk _ _ [_, _, _, _] _ :: _) _ := hh;refine aa (au ?_);refine II (dy rfl (dz (vs := [_, _, _, _]) aP.out (hh.bH (i := 0) (n := 4) rfl rfl) rfl) fq) ?_;exact ⟨rfl, hh.below⟩
variable {N : Nat} {w : World} {ρ : Rf}
theorem cd {Q : Kq} {L : Array Bool} {i d : Nat} {op : Op} {ty : TypeId} {af : Array Edge} {v : Value} (hq : NP Q) (hi : ops[i]? = some ⟨some d, op, ty, pos, af, none⟩) (hs : Region.noSelect ops = true) (hf : Region.free .any ops L i = true) (hr : (Region.ready .any ops L).contains i = true)
  (hv : ∀ w, (execOp (ev ρ) ⟨some d, op, ty, pos, af, none⟩).run P w = .ok (.value v) w) (hN : d < N) (h : WA P N ops Q fuel (L.setIfInBounds i true) (cx ρ d v) w) : WA P N ops Q (fuel + 1) L ρ w :=
 ⟨fun a hfit => wpAny_first hi (Region.noSelect_spec hs) (fun c a w ⟨ρ', _, hq'⟩ => (hq c ρ' w hq').elim) fuel L a w (Region.free_spec hi hf) (by simpa using hr) (.inl ⟨by simp [Region.wanted], fun w => by rw [hfit.eval]; exact hv w⟩) (h.out _ (hfit.put hN v))⟩
theorem Sl.tail {A : Option Addr} {x : TR} {X : List TR} (h : Sl w A n 4 (aw TR.cells (x :: X))) (h0 : 0 < n) (hc : n ≤ c) : Sl w (if c = 1 then A else A.map (·.add (1 * 4))) (n - 1) 4 (aw TR.cells X) := by
 have := h.back (l := 1) Sd hc;rw [show (aw TR.cells (x :: X)).drop (1 * 4) = aw TR.cells X from kA TR.len (x :: X) 1] at this;exact this
theorem n7 (A : Option Addr) (n c : Nat) (xs : List TR) (B : Option Addr) (m c2 : Nat) (ys : List TR) (k : Nat) (w : World) (hT : dD w) (hS : Sl w A n 4 (aw TR.cells xs)) (hS2 : Sl w B m 4 (aw TR.cells ys)) (hc : n ≤ c) (hc2 : m ≤ c2) (hn : n ≤ 1000000) (hm : m ≤ 1000000) (hk : k ≤ 3999980)
  (rx : rv xs) (ry : rv ys) (ox : iA k xs) (oy : iA k ys) :
  Calls Tryz.prog 75 #[.slice A n c, .slice B m c2, .func (.func 76) #[] #[], .func (.func 77) #[] #[]] w fun r w' => ∃ (L : List TR) (A' : Option Addr) (c' : Nat), MD (k + 1) (xs ++ ys) L ∧ r = .returned (.slice A' L.length c') ∧ Hp w [.row A' L.length c' 96 4 (aw TR.cells L)] w' := by
 have hh := Hp.start w;have hlx := hS.bz TR.len Se;have hly := hS2.bz TR.len Se;have hnx : xs.length ≤ 1000000 := Sd;have hny : ys.length ≤ 1000000 := Sd;refine aj (N := 75) (l := [.slice A n c, .slice B m c2, .func (.func 76) #[] #[], .func (.func 77) #[] #[]]) Tryz.func75 rfl rfl (by simp) ?_;refine sr (aL (aa (sr (mL (aK (mL (aK ?_)))))));refine a9 ?_;refine JQ (n := (n + m)) hh rfl rfl Sd Sd bq.out aP.out Sd Sd Se ?_;intro b16 w16 hh;refine aL (aa (ah (ao ?_)));refine xK [0, 1, 9, 10, 17, 18, 19, 20, 21, 22, 23, 24, 25, 26, 27, 28, 29, 30, 31, 32, 33, 34, 35, 36, 37, 38, 39, 40, 41, 42, 43, 44, 45, 46, 47, 48, 49, 50, 51, 52, 53, 54, 55, 56, 57, 58, 59, 60, 61, 62, 63, 64, 65, 66, 67, 68, 69] 0 1 9
  (fun va vb vo w' => ∃ (A : Option Addr) (n c : Nat) (X : List TR) (B : Option Addr) (m c2 : Nat) (Y : List TR) (O : List TR) (C : Option Addr) (co : Nat), va = .slice A n c ∧ vb = .slice B m c2 ∧ vo = .slice C O.length co ∧ n ≤ c ∧ m ≤ c2 ∧ Sl w A n 4 (aw TR.cells X) ∧ Sl w B m 4 (aw TR.cells Y) ∧ Mg k xs ys O X Y ∧ Hp w [.row C O.length co 96 4 (aw TR.cells O)] w')
  (fun va vb _ _ => lenOf va + lenOf vb) ?_ ?_
 ·exact ⟨A, n, c, xs, B, m, c2, ys, [], some ⟨b16, 0, none⟩, n + m, rfl, rfl, rfl, hc, hc2, hS, hS2, Mg.start rx ry ox oy, hh⟩
 ·clear hh hS hS2 hlx hly hc hc2 hn hm;rintro ρ' va vb vo w' ⟨A, n, c, X, B, m, c2, Y, O, C, co, rfl, rfl, rfl, hc, hc2, hS, hS2, hmg, hh⟩;have hX := hS.bz TR.len Se;have hY := hS2.bz TR.len Se;have hlen := hmg.len;have oX := cw TR.one X;have oY := cw TR.one Y;by_cases hn : n = 0
  ·refine ah (sr (mL (aK ?_)));refine cg (mB ?_);refine gS (gS (gS ?_));refine fa ?_;refine aa (cF (aV (aE (aE (bo (ai (sr (mL (mL ?_)))))))));refine cR hh (i := 0) rfl rfl rfl (hS.ext hh.below) bq.out aP.out rfl Se ?one3 Sd Sd Se ?kk3
   case one3 => first | rfl | assumption | exact bU _ | exact oneCells_u8s _
   intro A72 c72 w72 hh;simp only [Sy] at hh;refine mL ?_;refine cR hh (i := 0) rfl rfl rfl (hS2.ext hh.below) bq.out aP.out rfl Se ?one4 Sd Sd Se ?kk4
   case one4 => first | rfl | assumption | exact bU _ | exact oneCells_u8s _
   intro A74 c74 w74 hh;simp only [Sy] at hh;refine aL (aa (au ?_));refine da ?_;have hd := hmg.done (.inl (TW Sd));exact Pr
  ·by_cases hm : m = 0
   ·refine ah (sr (mL (aK ?_)));refine uB ?_;refine cg ?_;refine fV ?_;refine aa (cF (aV (aE (aE (bo (ai (sr (mL (mL ?_)))))))));refine cR hh (i := 0) rfl rfl rfl (hS.ext hh.below) bq.out aP.out rfl Se ?one5 Sd Sd Se ?kk5
    case one5 => first | rfl | assumption | exact bU _ | exact oneCells_u8s _
    intro A72 c72 w72 hh;simp only [Sy] at hh;refine mL ?_;refine cR hh (i := 0) rfl rfl rfl (hS2.ext hh.below) bq.out aP.out rfl Se ?one6 Sd Sd Se ?kk6
    case one6 => first | rfl | assumption | exact bU _ | exact oneCells_u8s _
    intro A74 c74 w74 hh;simp only [Sy] at hh;refine aL (aa (au ?_));refine da ?_;have hd := hmg.done (.inr (TW Sd));exact Pr
   ·obtain ⟨x, X, rfl⟩ : ∃ x X', X = x :: X' := by cases X with
     | nil => exact absurd hX.symm hn
     | cons x X' => exact ⟨x, X', rfl⟩
    obtain ⟨y, Y, rfl⟩ : ∃ y Y', Y = y :: Y' := by cases Y with
     | nil => exact absurd hY.symm hm
     | cons y Y' => exact ⟨y, Y', rfl⟩
    obtain ⟨ad, rfl, hr⟩ := hS.at_ Sd;obtain ⟨ad2, rfl, hr2⟩ := hS2.at_ Sd;have hxx : (x :: X)[0]? = some x := rfl;have hyy : (y :: Y)[0]? = some y := rfl;have hSt := hS.tail Sd hc;have hSt2 := hS2.tail Sd hc2;have hsd := fun w1 => Aj x y w1;unfold H8 at hsd
    cases h1 : iV x.m y.m with
    | true =>
     rw [h1, Sj rfl] at hsd;refine ah (sr (mL (aK ?_)));refine uB ?_;refine cg ?_;refine fV ?_;refine aa (cT (aq (ai (ao (ah ?_)))));refine HG ?_;refine KQ ?_;refine iw ?_;refine qe (0) ?_;refine xx [_,_,_,_] (fun _ hj => (hr.ext hj.hp.below).recAt TR.len hxx) ?_;refine iw ?_;refine qe (0) ?_;refine xx [_,_,_,_] (fun _ hj => (hr2.ext hj.hp.below).recAt TR.len hyy) ?_;refine aR ?_;intro f W hJ hV;have hb_3 := hJ.bl;obtain ⟨v31, v30, v29, v28, v27, v26, v25, _⟩ := hV;replace hh := hJ.hp;refine Gt ?_;dsimp only [ck];clear hJ;refine fR (hsd _) ak.out rfl rfl Se ?_;rintro e_ w32 ⟨rfl, hb_⟩;refine ⟨_, rfl, ?_⟩;replace hh := hh.ext hb_;refine aI (aa (ao (sr (mI ?_))));refine a6 (aB (aa (cT ?_)));refine pw hh mixed fun w_ hj_ => ?_;replace hh := hj_.hp;clear hj_;refine cd (i := 6) (by repeat (first | exact bT | refine bG ?_ | refine bW ?_ | refine np_scope ?_)) rfl Sf Sf Sf (fun _ => eJ rfl) Se ?_;refine cd (i := 7) (by repeat (first | exact bT | refine bG ?_ | refine bW ?_ | refine np_scope ?_)) rfl Sf Sf Sf (fun _ => ik (l := 1) bq.out aP.size rfl rfl Sd Sd Sd) Se ?_
     refine cd (i := 0) (by repeat (first | exact bT | refine bG ?_ | refine bW ?_ | refine np_scope ?_)) rfl Sf Sf Sf (fun _ => eJ rfl) Se ?_;refine cd (i := 1) (by repeat (first | exact bT | refine bG ?_ | refine bW ?_ | refine np_scope ?_)) rfl Sf Sf Sf (fun _ => eJ rfl) Se ?_;refine cd (i := 2) (by repeat (first | exact bT | refine bG ?_ | refine bW ?_ | refine np_scope ?_)) rfl Sf Sf Sf (fun _ => jK (k := 0) bq.out aP.size rfl rfl Sd Sd) Se ?_;refine fL (i := 3) Sf rfl ?_;refine G3 ?_;refine eN ?_;refine fL (i := 4) Sf rfl ?_;refine BI ?_;intro b55 w55 hh;refine eN ?_;refine fL (i := 5) Sf rfl ?_;refine qp ?_;intro A56 c56 w56 hh;simp only [Sy, Tb] at hh;replace hh := hh.sub (Th _ _);refine eN ?_;refine Cd ?_;refine aL (aL (az (bg (bg (ai ?_)))));replace hh := hh.sub (Sk _ SD);refine ⟨⟨_, n - 1, c - 1, X, some ad2, m, c2, y :: Y, O ++ [x], A56, c56, rfl, rfl, ?_, Sd, hc2, hSt, hS2, hmg.left h1, ?_⟩, by show (n - 1) + m < n + m; omega, ?_⟩
     ·show Value.slice _ (O.length + 1) _ = Value.slice _ (O ++ [x]).length _;rw [Sr]
      rfl
     ·rw [Sr, cA];exact hh
     ·exact eB
    | false =>
     cases h2 : iV y.m x.m with
     | true =>
      rw [h1, h2, Si Se, Sj rfl] at hsd;refine ah (sr (mL (aK ?_)));refine uB ?_;refine cg ?_;refine fV ?_;refine aa (cT (aq (ai (ao (ah ?_)))));refine HG ?_;refine KQ ?_;refine iw ?_;refine qe (0) ?_;refine xx [_,_,_,_] (fun _ hj => (hr.ext hj.hp.below).recAt TR.len hxx) ?_;refine iw ?_;refine qe (0) ?_;refine xx [_,_,_,_] (fun _ hj => (hr2.ext hj.hp.below).recAt TR.len hyy) ?_;refine aR ?_;intro f W hJ hV;have hb_3 := hJ.bl;obtain ⟨v31, v30, v29, v28, v27, v26, v25, _⟩ := hV;replace hh := hJ.hp;refine Gt ?_;dsimp only [ck];clear hJ;refine fR (hsd _) ak.out rfl rfl Se ?_;rintro e_ w32 ⟨rfl, hb_⟩;refine ⟨_, rfl, ?_⟩;replace hh := hh.ext hb_;refine aI (aa (ao (sr (mI ?_))));refine a6 (aB (aa (cF (sr (mI ?_)))));refine cg (aB (aa (cT ?_)));refine pw hh mixed fun w_ hj_ => ?_;replace hh := hj_.hp;clear hj_;refine cd (i := 6) (by repeat (first | exact bT | refine bG ?_ | refine bW ?_ | refine np_scope ?_)) rfl Sf Sf Sf (fun _ => eJ rfl) Se ?_;refine cd (i := 7) (by repeat (first | exact bT | refine bG ?_ | refine bW ?_ | refine np_scope ?_)) rfl Sf Sf Sf (fun _ => ik (l := 1) bq.out aP.size rfl rfl Sd Sd Sd) Se ?_
      refine cd (i := 0) (by repeat (first | exact bT | refine bG ?_ | refine bW ?_ | refine np_scope ?_)) rfl Sf Sf Sf (fun _ => eJ rfl) Se ?_;refine cd (i := 1) (by repeat (first | exact bT | refine bG ?_ | refine bW ?_ | refine np_scope ?_)) rfl Sf Sf Sf (fun _ => eJ rfl) Se ?_;refine cd (i := 2) (by repeat (first | exact bT | refine bG ?_ | refine bW ?_ | refine np_scope ?_)) rfl Sf Sf Sf (fun _ => jK (k := 0) bq.out aP.size rfl rfl Sd Sd) Se ?_;refine fL (i := 3) Sf rfl ?_;refine FT ?_;refine eN ?_;refine fL (i := 4) Sf rfl ?_;refine BI ?_;intro b66 w66 hh;refine eN ?_;refine fL (i := 5) Sf rfl ?_;refine qp ?_;intro A67 c67 w67 hh;simp only [Sy, Tb] at hh;replace hh := hh.sub (Th _ _);refine eN ?_;refine Cd ?_;refine aL (aL (az (bg (bg (ai ?_)))));replace hh := hh.sub (Sk _ SD);refine ⟨⟨some ad, n, c, x :: X, _, m - 1, c2 - 1, Y, O ++ [y], A67, c67, rfl, rfl, ?_, hc, Sd, hS, hSt2, hmg.right h2, ?_⟩, by show n + (m - 1) < n + m; omega, ?_⟩
      ·show Value.slice _ (O.length + 1) _ = Value.slice _ (O ++ [y]).length _;rw [Sr]
       rfl
      ·rw [Sr, cA];exact hh
      ·exact eB
     | false =>
      rw [h1, h2, Si Se, Si Se] at hsd;have hsm := fun w1 hT1 => Eu x y k w1 hT1 (hmg.ox x Sq) (hmg.oy y Sq) hk;refine ah (sr (mL (aK ?_)));refine uB ?_;refine cg ?_;refine fV ?_;refine aa (cT (aq (ai (ao (ah ?_)))));refine HG ?_;refine KQ ?_;refine iw ?_;refine qe (0) ?_;refine xx [_,_,_,_] (fun _ hj => (hr.ext hj.hp.below).recAt TR.len hxx) ?_;refine iw ?_;refine qe (0) ?_;refine xx [_,_,_,_] (fun _ hj => (hr2.ext hj.hp.below).recAt TR.len hyy) ?_;refine aR ?_;intro f W hJ hV;have hb_3 := hJ.bl;obtain ⟨v31, v30, v29, v28, v27, v26, v25, _⟩ := hV;replace hh := hJ.hp;refine Gt ?_;dsimp only [ck];clear hJ;refine fR (hsd _) ak.out rfl rfl Se ?_;rintro e_ w32 ⟨rfl, hb_⟩;refine ⟨_, rfl, ?_⟩;replace hh := hh.ext hb_;refine aI (aa (ao (sr (mI ?_))));refine a6 (aB (aa (cF (sr (mI ?_)))));refine cg (aB (aa (cF ?_)));refine pw hh mixed fun w_ hj_ => ?_;replace hh := hj_.hp;clear hj_;refine cd (i := 11) (by repeat (first | exact bT | refine bG ?_ | refine bW ?_ | refine np_scope ?_)) rfl Sf Sf Sf (fun _ => eJ rfl) Se ?_
      refine cd (i := 12) (by repeat (first | exact bT | refine bG ?_ | refine bW ?_ | refine np_scope ?_)) rfl Sf Sf Sf (fun _ => ik (l := 1) bq.out aP.size rfl rfl Sd Sd Sd) Se ?_;refine cd (i := 13) (by repeat (first | exact bT | refine bG ?_ | refine bW ?_ | refine np_scope ?_)) rfl Sf Sf Sf (fun _ => eJ rfl) Se ?_;refine cd (i := 14) (by repeat (first | exact bT | refine bG ?_ | refine bW ?_ | refine np_scope ?_)) rfl Sf Sf Sf (fun _ => ik (l := 1) bq.out aP.size rfl rfl Sd Sd Sd) Se ?_;refine cd (i := 0) (by repeat (first | exact bT | refine bG ?_ | refine bW ?_ | refine np_scope ?_)) rfl Sf Sf Sf (fun _ => eJ rfl) Se ?_;refine cd (i := 1) (by repeat (first | exact bT | refine bG ?_ | refine bW ?_ | refine np_scope ?_)) rfl Sf Sf Sf (fun _ => eJ rfl) Se ?_;refine cd (i := 2) (by repeat (first | exact bT | refine bG ?_ | refine bW ?_ | refine np_scope ?_)) rfl Sf Sf Sf (fun _ => eJ rfl) Se ?_;refine cd (i := 3) (by repeat (first | exact bT | refine bG ?_ | refine bW ?_ | refine np_scope ?_)) rfl Sf Sf Sf (fun _ => jK (k := 0) bq.out aP.size rfl rfl Sd Sd) Se ?_
      refine cd (i := 5) (by repeat (first | exact bT | refine bG ?_ | refine bW ?_ | refine np_scope ?_)) rfl Sf Sf Sf (fun _ => eJ rfl) Se ?_;refine cd (i := 6) (by repeat (first | exact bT | refine bG ?_ | refine bW ?_ | refine np_scope ?_)) rfl Sf Sf Sf (fun _ => jK (k := 0) bq.out aP.size rfl rfl Sd Sd) Se ?_;refine s8 (i := 4) (i2 := 7) Sf rfl rfl ?_ ?_
      ·refine G3 ?_;refine eN ?_;refine fL (i := 7) Sf rfl ?_;refine FT ?_;exact Ly
      ·refine FT ?_;refine eN ?_;refine fL (i := 4) Sf rfl ?_;refine G3 ?_;exact Ly
variable {c' n1 n2 s1 s2 : Nat} {fz : Nat × Nat} {o : Oper} {t' t1 t2 : TypeId} {w' w0 w1 : World} {xs1 xs2 : List Value}
section
variable {ro : Mode}
theorem eY {b b' : Nat} {t : TypeId} {sz : Nat} {A : Option Addr} {xs : List Value} (h : w.ownsRow b t sz (.slice A n c) n xs) (hb : b' ≤ b) : w.ownsRow b' t sz (.slice A n c) n xs :=
 ⟨h.1, h.2.imp id fun ⟨g, cap, cur, h1, h2, h3⟩ => ⟨g, cap, cur, h1, SK hb h2, h3⟩⟩
theorem lY {b b' : Nat} {x : HE} (h : x.holds b w) (hb : b' ≤ b) : x.holds b' w := by
 cases x with
 | blk b t cs fz => exact ⟨SK hb h.1, h.2⟩
 | row A n c t sz xs => exact eY h hb
 | ob b o => exact ⟨SK hb h.1, h.2⟩
theorem Hp.perm {H H' : List HE} (h : Hp w0 H w) (hp : H.Perm H') : Hp w0 H' w :=
 ⟨h.below, fun x hx => h.own x (hp.mem_iff.2 hx), (hp.filterMap _).nodup_iff.1 h.nd⟩
theorem Hp.fH {H : List HE} (h : Hp w0 H w) {i sz : Nat} {A : Option Addr} {t : TypeId} {xs : List Value} (hi : H[i]? = some (.row A n c t sz xs)) : n ≤ c := by
 have h1 : w.ownsRow w0.heap.size t sz (.slice A n c) n xs := h.at_ hi
 rcases h1.2 with ⟨_, h3⟩ | ⟨g, cap, cur, h2, _, _, h5, _⟩
 ·omega
 ·injection h2 with _ _ e3
  omega
theorem Hp.join {H H2 : List HE} (h : Hp w0 H w) (h2 : Hp w H2 w') : Hp w0 (H2 ++ H) w' := by
 have h' := h.ext h2.below;refine ⟨h'.below, fun x hx => ?_, ?_⟩
 ·rcases S2.1 hx with hx | hx
  ·exact lY (h2.own x hx) h.size
  ·exact h'.own x hx
 ·rw [VC, List.nodup_append];refine ⟨h2.nd, h.nd, fun a ha b hb hab => ?_⟩;subst hab;obtain ⟨x, hx, hxa⟩ := Tq.1 ha;obtain ⟨y, hy, hya⟩ := Tq.1 hb;have h3 := dX (h2.own x hx) hxa;have h4 := dX (h.own y hy) hya;omega
section
variable {P : Program} {N : Nat} {ops : Array Oper} {Q : Kq} {ρ : Rf} {w w0 : World} {rest : List Oper} {H : List HE} {ty : TypeId} {pos : String} {af : Array Edge}
theorem Jd {v : Value} (hg : o.guard = none) (hd : o.dst = none)
  (hr : (execOp (ev ρ) o).run P w = .ok (.value v) w') (k : WL ro P N ops Q rest ρ w') : WL ro P N ops Q (o :: rest) ρ w :=
 ⟨fun hm a hf => wpList_plain hg fun K hK => by
  unfold Oper.wp;rw [hf.eval, hr];show K (a.put o.dst v) w';rw [hd];exact hK _ _ (k.lT hm _ hf),
 fun a hf n => wpListIn_plain hg fun K hK => by
  refine ⟨fun _ _ => trivial, ?_⟩;rw [hf.eval, kU _ hr (fun _ h => by cases h)];show K (a.put o.dst v) w';rw [hd];exact hK _ _ (k.jX _ hf n)⟩
theorem Iu {l : List α} {i : Nat} {x : α} (h : l[i]? = some x) : l.set i x = l := by
 obtain ⟨h1, rfl⟩ := SC.1 h;exact List.set_getElem_self h1
end
abbrev Hp.sz {w0 w : World} {H : List HE} (_ : Hp w0 H w) : Nat := w.heap.size
theorem vX {A : Option Addr} {sz b : Nat} {t : TypeId} {xs : List Value} {cs : Array Value} (h : HE.holds base W (.row A n c t' sz xs)) (h3 : W.heap[b]? = some (.cells cs t fz)) (hne : t' ≠ t) : (HE.row A n c t' sz xs).id ≠ some b := by
 intro hid
 rcases h.2 with ⟨h1, _⟩ | ⟨g, cap, cur, h1, _, h4, _⟩
 ·injection h1 with e1
  subst e1
  cases hid
 ·injection h1 with e1
  subst e1;obtain rfl : g = b := Tc hid;rw [h3] at h4;injection h4 with h4
  injection h4 with _ h5
  exact hne h5.symm
theorem JJ.pW {H L : List HE} {t : TypeId} {b : Nat} (hJ : JJ w0 H w W) (hs : Hp w0 H w) (h2 : w.heap.size ≤ b) (h3 : W.heap[b]? = some (.cells cs.toArray t (0, 0))) (hb : w.heap.size ≤ w1.heap.size) (hL : Hp w1 L W) (hne : ∀ x ∈ L, x.id ≠ some b) : Hp w0 (.blk b t cs (0, 0) :: (L ++ H)) W := by
 have h1 := hs.join (⟨hJ.bl, fun x hx => lY (hL.own x hx) hb, hL.nd⟩ : Hp w L W);refine ⟨h1.below, fun x hx => ?_, ?_⟩
 ·rcases SH.1 hx with rfl | hx
  ·exact ⟨SK hs.size h2, h3, .inr (So _)⟩
  ·exact h1.own x hx
 ·rw [Ux];show (b :: (L ++ H).filterMap HE.id).Nodup;refine Uk.2 ⟨fun hm => ?_, h1.nd⟩;obtain ⟨y, hy, hyb⟩ := Tq.1 hm
  rcases S2.1 hy with hy | hy
  ·exact hne y hy hyb
  ·have := (dX (hs.own y hy) hyb).2;omega
theorem JK {A A' : Option Addr} {sz n' sz' : Nat} {t : TypeId} {xs xs' : List Value} (h : HE.holds base W (.row A n c t sz xs)) (h' : HE.holds base W (.row A' n' c' t' sz' xs')) (hne : t ≠ t') (b : Nat) (h1 : (HE.row A n c t sz xs).id = some b) : (HE.row A' n' c' t' sz' xs').id ≠ some b := by
 rcases h.2 with ⟨h2, _⟩ | ⟨g, cap, cur, h2, _, h4, _⟩
 ·injection h2 with e1
  subst e1
  cases h1
 ·injection h2 with e1
  subst e1;obtain rfl : g = b := Tc h1;exact vX h' h4 (fun e => hne e.symm)
theorem JJ.tx {H : List HE} {t : TypeId} {b c1 c2 : Nat} {A1 A2 : Option Addr} (hJ : JJ w0 H w W) (hs : Hp w0 H w) (h2 : w.heap.size ≤ b) (h3 : W.heap[b]? = some (.cells cs.toArray t (0, 0)))
  (o1 : W.ownsRow w.heap.size t1 s1 (.slice A1 n1 c1) n1 xs1) (o2 : W.ownsRow w.heap.size t2 s2 (.slice A2 n2 c2) n2 xs2) (h12 : t1 ≠ t2) (ht1 : t1 ≠ t) (ht2 : t2 ≠ t) : Hp w0 (.blk b t cs (0, 0) :: .row A1 n1 c1 t1 s1 xs1 :: .row A2 n2 c2 t2 s2 xs2 :: H) W := by
 have hL : Hp w [.row A1 n1 c1 t1 s1 xs1, .row A2 n2 c2 t2 s2 xs2] W := by
  exact NQ
 refine JJ.pW hJ hs h2 h3 (So _) hL fun x hx => ?_
 rcases SH.1 hx with rfl | hx
 ·exact vX o1 h3 ht1
 ·obtain rfl := SN.1 hx;exact vX o2 h3 ht2
def q8 (base : Nat) (t : TypeId) (n sz : Nat) (cs : List Value) : VP := fun v W => ∃ A c, v = .slice A n c ∧ W.ownsRow base t sz (.slice A n c) n cs
theorem q8.ext {t : TypeId} {sz : Nat} (v : Value) (w w' : World) (h : q8 base t n sz cs v w) (hb : Below w.heap.size w w') : q8 base t n sz cs v w' := let ⟨A, c, h1, h2⟩ := h; ⟨A, c, h1, kY h2 hb⟩
def px (base : Nat) (t1 t2 : TypeId) (n1 s1 n2 s2 : Nat) (xs1 xs2 : List Value) : VP := fun v W => ∃ A c B k, v = .agg #[.slice A n1 c, .slice B n2 k] ∧ W.ownsRow base t1 s1 (.slice A n1 c) n1 xs1 ∧ W.ownsRow base t2 s2 (.slice B n2 k) n2 xs2
theorem px.ext (v : Value) (w w' : World) (h : px base t1 t2 n1 s1 n2 s2 xs1 xs2 v w) (hb : Below w.heap.size w w') : px base t1 t2 n1 s1 n2 s2 xs1 xs2 v w' := let ⟨A, c, B, k, h1, h2, h3⟩ := h; ⟨A, c, B, k, h1, kY h2 hb, kY h3 hb⟩
end
structure RX where
 A : Option Addr
 n : Nat
 c : Nat
 ts : List TR
def km (k : Nat) (l : List TR) : VP := fun v W => ∃ g : RX, v = .slice g.A g.n g.c ∧ (g.n ≤ g.c ∧ g.ts.length = g.n ∧ MD k l g.ts ∧ Sl W g.A g.n 4 (aw TR.cells g.ts))
theorem km.ext (v : Value) (w w' : World) (h : km k l v w) (hb : Below w.heap.size w w') : km k l v w' := let ⟨g, h1, h2, h3, h4, h5⟩ := h; ⟨g, h1, h2, h3, h4, h5.ext hb⟩
theorem MD.Hw {k1 k2 : Nat} {l1 l2 L1 L2 L : List TR} (h1 : MD k1 l1 L1) (h2 : MD k2 l2 L2) (h : MD k (L1 ++ L2) L) (hk : k ≤ j) : MD j (l1 ++ l2) L :=
 ⟨h.qO, fun m => by rw [h.co, eU, h1.co, h2.co, eU], by have a := h.len; have b := h1.len; have c := h2.len; rw [Sr] at a ⊢; omega, h.ok.mono hk, fun t ht => by
  obtain ⟨s, hs, e⟩ := h.mem t ht
  rcases S2.1 hs with hs | hs
  ·obtain ⟨u, hu, e2⟩ := h1.mem s hs;exact ⟨u, Uh _ hu, e2.trans e⟩
  ·obtain ⟨u, hu, e2⟩ := h2.mem s hs;exact ⟨u, TG _ hu, e2.trans e⟩⟩
theorem lZ (k : Nat) : ∀ (N : Nat) (A : Option Addr) (n c : Nat) (l : List TR) (w : World), n ≤ N → dD w → Sl w A n 4 (aw TR.cells l) → n ≤ c → n ≤ 1000000 → k + n ≤ 3999980 → iA k l →
  Calls Tryz.prog 162 #[.slice A n c, .func (.func 76) #[] #[], .func (.func 77) #[] #[]] w fun r w' => (n < 2 ∧ r = .returned (.slice A n c) ∧ Below w.heap.size w w') ∨ (2 ≤ n ∧ ∃ (L : List TR) (A' : Option Addr) (c' : Nat), MD (k + n) l L ∧ r = .returned (.slice A' L.length c') ∧ Hp w [.row A' L.length c' 96 4 (aw TR.cells L)] w')
 | 0, A, n, c, l, w, hN, hT, hS, hc, hn, hk, hok => by
  have hh := Hp.start w;obtain rfl : n = 0 := Sd;refine aj (N := 30) (l := [.slice A 0 c, .func (.func 76) #[] #[], .func (.func 77) #[] #[]]) Tryz.func162 rfl rfl (by simp) ?_;refine sr (aL (aa (ah (sr (mL (aK ?_))))));refine a6 (aa (cT (sr (mL (aL (aa (au (aG ?_))))))));refine da ?_;exact .inl ⟨Sd, rfl, hh.below⟩
 | N + 1, A, n, c, l, w, hN, hT, hS, hc, hn, hk, hok => by
  have hh := Hp.start w;have hl := hS.bz TR.len Se;by_cases h2 : n < 2
  ·refine aj (N := 30) (l := [.slice A n c, .func (.func 76) #[] #[], .func (.func 77) #[] #[]]) Tryz.func162 rfl rfl (by simp) ?_;refine sr (aL (aa (ah (sr (mL (aK ?_))))));refine a6 (aa (cT (sr (mL (aL (aa (au (aG ?_))))))));refine da ?_;exact .inl ⟨h2, rfl, hh.below⟩
  ·obtain ⟨h, hhalf⟩ : ∃ h, h = n / 2 := ⟨_, rfl⟩;have hh1 : 1 ≤ h := Sd;have hh2 : h + h ≤ n := Sd;have hh3 : n ≤ h + h + 1 := Sd;have hq : ((n : Int)) / 2 = (h : Int) := Sd;have hS1 := hS.front (m := h) Sd;rw [show (aw TR.cells l).take (h * 4) = aw TR.cells (l.take h) from mE TR.len l h] at hS1;have hS2 := hS.back (l := h) Sd hc;rw [show (aw TR.cells l).drop (h * 4) = aw TR.cells (l.drop h) from kA TR.len l h] at hS2;have o1 : iA k (l.take h) := fun t ht => hok t (Uc ht);have o2 : iA k (l.drop h) := fun t ht => hok t (VA ht);have rd : ∀ {A' : Option Addr} {n' c' : Nat} {l' : List TR} {r : Ending} {w1 w' : World}, Sl w1 A' n' 4 (aw TR.cells l') → n' ≤ c' → iA k l' → ((n' < 2 ∧ r = .returned (.slice A' n' c') ∧ Below w1.heap.size w1 w') ∨ (2 ≤ n' ∧ ∃ (L : List TR) (B : Option Addr) (b : Nat), MD (k + n') l' L ∧ r = .returned (.slice B L.length b) ∧ Hp w1 [.row B L.length b 96 4 (aw TR.cells L)] w')) → ∃ v, r = .returned v ∧ Below w1.heap.size w1 w' ∧ km (k + n') l' v w' := by
    rintro A' n' c' l' r w1 w' hs hc' ho (⟨h1, rfl, hb⟩ | ⟨h1, L, B, b, hm, rfl, h3⟩)
    ·have e := hs.bz TR.len Se;exact ⟨_, rfl, hb, ⟨A', n', c', l'⟩, rfl, hc', e, (MD.self (uY Sd) ho).mono Sd, hs.ext hb⟩
    ·exact ⟨_, rfl, h3.below, ⟨B, L.length, b, L⟩, rfl, h3.fH (i := 0) rfl, rfl, hm, h3.aD (i := 0) rfl⟩
   have ih1 := fun w1 (hT1 : dD w1) (hb : Below w.heap.size w w1) => lZ k N A h c (l.take h) w1 Sd hT1 (hS1.ext hb) Sd Sd Sd o1;have ih2 := fun w1 (hT1 : dD w1) (hb : Below w.heap.size w w1) => lZ k N _ (n - h) (c - h) (l.drop h) w1 Sd hT1 (hS2.ext hb) Sd Sd Sd o2;refine aj (N := 30) (l := [.slice A n c, .func (.func 76) #[] #[], .func (.func 77) #[] #[]]) Tryz.func162 rfl rfl (by simp) ?_;refine sr (aL (aa (ah (sr (mL (aK ?_))))));refine a6 (aa (cF (aq (ai (sr (mL (aK ?_)))))));refine kT ?_;refine aI (aa (ah ?_));rw [hq];refine aU 14 [[(0, none)], [(7, none)], [(15, some 0), (16, some 1)], [(1, none)], [(2, none)], [(17, some 2), (18, some 3), (19, some 4)], [(0, none)], [(7, none)], [(21, some 6), (22, some 7)], [(1, none)], [(2, none)], [(23, some 8), (24, some 9), (25, some 10)], [(1, none)], [(2, none)]] [(13, 28), (12, 27), (11, 26), (10, 25), (9, 24), (8, 23), (7, 22), (6, 21), (5, 20), (4, 19), (3, 18), (2, 17), (1, 16), (0, 15)] hh mixed Sf ?_;refine iw ?_;refine eH ?_;refine bB (i := 2) (fun ρ1 w1 hj hR => yS (h := h) bq.out aP.size (show ρ1 15 = Value.slice _ _ _ from hR.1) (show ρ1 16 = Value.int _ _ from hR.2.1) Sd Sd) ?_;refine KQ ?_;refine KQ ?_
   refine a8 (i := 5) (km (k + h) (l.take h)) (km.ext) ?_ ?_
   ·intro ρ1 w1 hj hR;exact bA rfl (aZ ak.out (aA (show ρ1 17 = Value.slice _ _ _ from hR.1) (aA (show ρ1 18 = Value.func _ _ _ from hR.2.1) (aA (show ρ1 19 = Value.func _ _ _ from hR.2.2.1) a7)))) (ih1 w1 (hT.hp hj.hp) hj.hp.below) (fun _ _ hq => rd (hS1.ext hj.hp.below) Sd o1 hq)
   refine iw ?_;refine eH ?_;refine bB (i := 8) (fun ρ1 w1 hj hR => ik (l := h) bq.out aP.size (show ρ1 21 = Value.slice _ _ _ from hR.1) (show ρ1 22 = Value.int _ _ from hR.2.1) Sd Sd Sd) ?_;refine KQ ?_;refine KQ ?_;refine a8 (i := 11) (km (k + (n - h)) (l.drop h)) (km.ext) ?_ ?_
   ·intro ρ1 w1 hj hR;exact bA rfl (aZ ak.out (aA (show ρ1 23 = Value.slice _ _ _ from hR.1) (aA (show ρ1 24 = Value.func _ _ _ from hR.2.1) (aA (show ρ1 25 = Value.func _ _ _ from hR.2.2.1) a7)))) (ih2 w1 (hT.hp hj.hp) hj.hp.below) (fun _ _ hq => rd (hS2.ext hj.hp.below) Sd o2 hq)
   refine KQ ?_;refine KQ ?_;refine aR ?_;intro f W hJ hV;have hb_4 := hJ.bl;obtain ⟨v28, v27, v26, v25, v24, v23, v22, v21, v20, v19, v18, v17, v16, v15, _⟩ := hV;obtain ⟨g20, e20, o20⟩ : km (k + h) (l.take h) (f 5) W := v20;obtain ⟨g26, e26, o26⟩ : km (k + (n - h)) (l.drop h) (f 11) W := v26;replace hh := hJ.hp;refine aX (bp (ae v28 (ae v27 (ae e26 (ae v25 (ae v24 (ae v23 (ae v22 (ae v21 (ae e20 (ae v19 (ae v18 (ae v17 (ae v16 (ae v15 aW))))))))))))))) ?_;dsimp only [ck];clear e20 e26 hJ;obtain ⟨p1, p2, p3, p4⟩ := o20;obtain ⟨q1, q2, q3, q4⟩ := o26;have l1 := p3.len;have l2 := q3.len;rw [SP] at l1;rw [TT] at l2;refine aC (n7 g20.A g20.n g20.c g20.ts g26.A g26.n g26.c g26.ts (k + (n - h)) _ (hT.hp hh) p4 q4 p1 q1 Sd Sd Sd p3.qO q3.qO (p3.ok.mono Sd) (q3.ok.mono Sd)) ak.out rfl Se ?_;rintro e_ w29 ⟨L, A', c', hm, rfl, h3⟩;refine ⟨_, rfl, ?_⟩;replace hh := hh.join h3;refine aL (aa (au ?_));refine da ?_;refine .inr ⟨Sd, L, A', c', ?_, rfl, hh⟩;have := p3.Hw q3 hm (j := k + n) Sd;rwa [To] at this
section
variable {ro : Mode}
section
variable {P : Program} {N : Nat} {ops : Array Oper} {Q : Kq} {ρ : Rf} {w w0 : World} {rest : List Oper} {H : List HE} {ty d : Nat} {pos : String} {af : Array Edge}
theorem wX (hh : Hp w0 H w) {t e : TypeId} {x : Operand} {i p o sz g : Nat} {xs : List Value} (hi : H[i]? = some (.row (some ⟨g, 0, none⟩) p c e sz xs)) (hx : ev ρ x = .slice (some ⟨g, o, none⟩) m c') (ho : p * sz ≤ o) (hom : o + m * sz ≤ c * sz) (hm : 0 < m)
  (ht : P.underlying t = some (.slice e)) (hte : dk P e = some (sz, ag, by', zc)) (hzl : zc.length = sz) (h1 : (zc.all Value.oneCell') = true)
  (k : ∀ w', Hp w0 H w' → WL ro P N ops Q rest ρ w') : WL ro P N ops Q (⟨none, .call ⟨.builtin .clear, #[x], #[t]⟩, ty, pos, af, none⟩ :: rest) ρ w := by
 obtain ⟨z, hz, hzc⟩ := dY (w := w) hte;obtain ⟨hlen, h2⟩ := hh.at_ hi
 rcases h2 with ⟨h2, _⟩ | ⟨g', cap, cur, hv, hg, hheap, hmc, hcm, hcur, htake⟩
 ·cases h2
 ·injection hv with hA hn hcap
  injection hA with hA
  injection hA with hA
  subst hA; subst hcap;have hcl : cur.size = cur.toList.length := by simp
  have hzr : (gd m zc).length = m * sz := by rw [iW, hzl]
  have hall : ∀ v ∈ gd m zc, v.oneCell' = true := fun v hv => by
   obtain ⟨j, hj⟩ := TV.1 hv;have hj2 := (SC.1 hj).1;rw [iW] at hj2;rw [vR m zc j hj2] at hj;exact SU.1 h1 v (Sp hj)
  obtain ⟨w', hr, hb', hgr, hs⟩ := gB (P := P) (b := g) (t := e) (fz := (0, 0)) o (gd m zc) 0 cur.toList w (by simpa using hheap) (.inr (So _)) (by rw [← hcl, hzr]; omega) hall;have hset := Iu hi;refine Jd rfl rfl (w' := w') (v := .tuple #[]) ?_ (k w' (hset ▸ hh.grown hi hgr (.inl rfl) ⟨hlen, .inr ⟨g, c, (bM cur.toList (o + 0) (gd m zc)).toArray, rfl, hg, by simpa using hb', hmc, hcm, ?_, ?_⟩⟩))
  ·simp only [execOp, resolve, invoke, hx, List.map_toArray, SW, Tx];have hzz : Builtin.zeroCells z.cells m = (gd m zc).toArray := by
    rw [Builtin.zeroCells, hzc, US]; exact sc m zc
   obtain ⟨q, rfl⟩ : ∃ q, m = q + 1 := ⟨m - 1, Sd⟩;simp [builtin, Builtin.clear_, run_underlying ht, hz, hzz, hr]
  ·simp only [US];rw [fB (by rw [← hcl, hzr]; omega), ← hcl, hcur]
  ·simp only [bM];rw [S5, List.take_append_of_le_length (by rw [SP, ← hcl]; omega), List.take_take, Tp Sd];exact htake
end
end
section
variable {ro : Mode}
section
variable {P : Program} {N : Nat} {ops : Array Oper} {Q : Kq} {ρ : Rf} {w w0 : World} {rest : List Oper} {d : Nat} {ty : TypeId} {pos : String} {af : Array Edge}
theorem rA {t e u : TypeId} {x y : Operand} {A : Option Addr} {n' : Nat} (ht : P.underlying t = some (.slice e)) (hx : ev ρ x = .slice A n c) (hy : ev ρ y = .slice none n' c') (hN : d < N)
  (kk : WL ro P N ops Q rest (cx ρ d (.bool A.isNone)) w) : WL ro P N ops Q (⟨some d, .binOp .eql t x y u, ty, pos, af, none⟩ :: rest) ρ w :=
 aM rfl rfl hN (by
  have h1 := Go.Lib.run_eql_slice_nil (P := P) w t e A n c n' c' ht;simp only [execOp, hx, hy];simp [eqGuard, h1]) kk
end
end
variable {Hr : List HE}
theorem rT (A : Option Addr) (n c : Nat) (l : List TR) (g : FuncId) (cap : List Value) (p : TR → Bool) (w : World) (hS : Sl w A n 4 (aw TR.cells l)) (hn : n ≤ 1000000) [ak Tryz.prog g]
  (hg : ∀ (z : TR) (w1 : World), z ∈ l → Below w.heap.size w w1 → Calls Tryz.prog g (.agg #[.string z.m, .bool z.c.neg, .string z.c.bf, .int .i64 z.c.e] :: cap).toArray w1 fun r w' => r = .returned (.bool (p z)) ∧ Below w1.heap.size w1 w') :
  Calls Tryz.prog 205 #[.slice A n c, .func (.func g) #[] cap.toArray] w fun r w' => ∃ v, r = .returned (.int .i64 v) ∧ ((l.any p = false ∧ v = -1) ∨ ∃ (i : Nat) (z : TR), i < n ∧ v = i ∧ (l.take i).any p = false ∧ l[i]? = some z ∧ p z = true) ∧ Below w.heap.size w w' := by
 have hh := Hp.start w;have hln := hS.bz TR.len Se;refine aj (N := 19) (l := [.slice A n c, .func (.func g) #[] cap.toArray]) Tryz.func205 rfl rfl (by simp) ?_;refine zk ?_;refine aN [4, 5, 8, 9, 10, 11, 12, 13, 14, 15, 16, 17, 18] 8
  (fun v w' => ∃ i : Nat, i ≤ n ∧ v = .int .i64 i ∧ (l.take i).any p = false ∧ Hp w [] w')
  (fun v _ => n - (intOf v).toNat) ?_ ?_
 ·exact ⟨0, Sn _, rfl, rfl, hh⟩
 ·clear hh;rintro ρ' v w' ⟨i, hi, rfl, hall, hh⟩;by_cases hlt : i < n
  ·obtain ⟨z, hz⟩ := av (l := l) (k := i) Sd;obtain ⟨ad, rfl, hr⟩ := hS.at_ Sd;have hc := fun w1 => hg z w1 (Sp hz)
   cases gz : p z with
   | true =>
    rw [gz] at hc;refine sr ?_;refine qT ?_;refine ix ?_;refine mL (mI ?_);refine bX ?_;refine ct (vs := [_, _, _, _]) aP.out rfl ((hr.ext hh.below).recAt TR.len hz) rfl Se ?_;refine fR (hc _ hh.below) ak.out rfl rfl Se ?_;rintro e_ w16 ⟨rfl, hb_⟩;refine ⟨_, rfl, ?_⟩;replace hh := hh.ext hb_;refine aa (cT (sr (mI (aI (aa (au (bQ (aG (aG (bQ (aG ?_)))))))))));refine da ?_;exact ⟨_, rfl, .inr ⟨i, z, hlt, rfl, hall, hz, gz⟩, hh.below⟩
   | false =>
    rw [gz] at hc;refine sr ?_;refine qT ?_;refine ix ?_;refine mL (mI ?_);refine bX ?_;refine ct (vs := [_, _, _, _]) aP.out rfl ((hr.ext hh.below).recAt TR.len hz) rfl Se ?_;exact B9
  ·rw [Su Sd] at hall;refine sr ?_;refine Cx ?_;refine da ?_;exact ⟨_, rfl, .inl ⟨hall, rfl⟩, hh.below⟩
theorem Bz (A : Option Addr) (n c : Nat) (l : List TR) (g : FuncId) (cap : List Value) (p : TR → Bool) (w : World) (hS : Sl w A n 4 (aw TR.cells l)) (hn : n ≤ 1000000) [ak Tryz.prog g]
  (hg : ∀ (z : TR) (w1 : World), z ∈ l → Below w.heap.size w w1 → Calls Tryz.prog g (.agg #[.string z.m, .bool z.c.neg, .string z.c.bf, .int .i64 z.c.e] :: cap).toArray w1 fun r w' => r = .returned (.bool (p z)) ∧ Below w1.heap.size w1 w') :
  Calls Tryz.prog 157 #[.slice A n c, .func (.func g) #[] cap.toArray] w fun r w' => r = .returned (.bool (l.any p)) ∧ Below w.heap.size w w' := by
 have hh := Hp.start w;refine aj (N := 9) (l := [.slice A n c, .func (.func g) #[] cap.toArray]) Tryz.func157 rfl rfl (by simp) ?_;refine sr (aB (aa (sr (mL ?_))));refine ix ?_;refine aC (rT A n c l g cap p _ (hS.ext hh.below) hn hg) ak.out rfl Se ?_;rintro e_ w7 ⟨v_, rfl, hv_, hb_⟩;refine ⟨_, rfl, ?_⟩;replace hh := hh.ext hb_
 rcases hv_ with ⟨ha, rfl⟩ | ⟨i, z, hi, rfl, ht, hz, hp⟩
 ·rw [ha];exact Dh
 ·rw [show l.any p = true from Ub.2 ⟨z, Sp hz, hp⟩];exact Dh
theorem lr (A : Option Addr) (n c : Nat) (l : List TR) (w : World) (hS : Sl w A n 4 (aw TR.cells l)) (hn : n ≤ 1000000) :
  Calls Tryz.prog 79 #[.slice A n c] w fun r w' => ∃ A' c', r = .returned (.slice A' n c') ∧ w'.ownsRow w.heap.size 96 4 (.slice A' n c') n (aw TR.cells l) ∧ Below w.heap.size w w' := by
 have hh := Hp.start w;have oX := cw TR.one l
 rcases A with _ | ad
 ·have hn0 : n = 0 := by
   exact NB
  subst hn0;have hl : l = [] := TW (by have := hS.bz TR.len Se; omega);subst hl;refine aj (N := 8) (l := [.slice none 0 c]) Tryz.func79 rfl rfl (by simp) ?_;exact NI
 ·refine aj (N := 8) (l := [.slice (some ad) n c]) Tryz.func79 rfl rfl (by simp) ?_;refine sr (aL (aa (ah (sr (mL ?_)))));refine rA bq.out rfl rfl Se ?_;refine qX ?_;refine jV hh bq.out aP.out Se ?_;intro b5 w5 hh;refine mL ?_;refine cR hh (i := 0) rfl rfl rfl (hS.ext hh.below) bq.out aP.out rfl Se ?one7 Sd Sd Se ?kk7
  case one7 => first | rfl | assumption | exact bU _ | exact oneCells_u8s _
  exact Gq
theorem y8 {l : List α} {i : Nat} (h : i < j) (x : α) : (l.set i x).drop j = l.drop j := by
 refine S0 fun k => ?_;rw [Uo, Uo, Tz, Si Sd]
theorem ud {l : List α} {i : Nat} (h : i < l.length) (x : α) : (l.set i x).take (i + 1) = l.take i ++ [x] := by
 rw [ay (show (l.set i x)[i]? = some x by rw [Tz, Sj rfl, Sj h]), List.take_set_of_le (So _)]
theorem A5 (A : Option Addr) (n c : Nat) (l : List TR) (g : FuncId) (p : TR → Bool) (w : World) (hh : Hp w0 (.row A n c 96 4 (aw TR.cells l) :: Hr) w) (hl : l.length = n) (hn : n ≤ 1000000) [ak Tryz.prog g]
  (hg : ∀ (z : TR) (w1 : World), z ∈ l → Calls Tryz.prog g (.agg #[.string z.m, .bool z.c.neg, .string z.c.bf, .int .i64 z.c.e] :: []).toArray w1 fun r w' => r = .returned (.bool (p z)) ∧ Below w1.heap.size w1 w') :
  Calls Tryz.prog 161 #[.slice A n c, .func (.func g) #[] #[]] w fun r w' => r = .returned (.slice A (l.filter fun z => !p z).length c) ∧ Hp w0 (.row A (l.filter fun z => !p z).length c 96 4 (aw TR.cells (l.filter fun z => !p z)) :: Hr) w' := by
 have hc := hh.fH (i := 0) rfl;have hsl := hh.aD (i := 0) rfl;refine aj (N := 42) (l := [.slice A n c, .func (.func g) #[] #[]]) Tryz.func161 rfl rfl (by simp) ?_;refine sr (aL (aa (sr (mL ?_))));refine ix ?_;refine aC (rT A n c l g [] p _ hsl hn (fun z w1 hz _ => hg z w1 hz)) ak.out rfl Se ?_;rintro e_ w10 ⟨v_, rfl, hv_, hb_⟩;refine ⟨_, rfl, ?_⟩;replace hh := hh.ext hb_
 rcases hv_ with ⟨ha, rfl⟩ | ⟨i0, z0, hi0, rfl, ht0, hz0, hp0⟩
 ·have hf : (l.filter fun z => !p z) = l := List.filter_eq_self.2 fun z hz => by
   have := TA.1 ha z hz;simpa using this
  rw [hf, hl];refine aI (aa (ah (sr (mI ?_))));refine cH (aa (cT (sr (mL (aL (aa (au (aG ?_))))))));refine da ?_;exact ⟨rfl, hh⟩
 ·have hf0 : ((l.take (i0 + 1)).filter fun z => !p z) = l.take i0 := by
   rw [ay hz0, Vp, List.filter_cons_of_neg (by rw [hp0]; decide), List.filter_nil, S3];exact List.filter_eq_self.2 fun z hz => by
    have := TA.1 ht0 z hz;simpa using this
  obtain ⟨g0, rfl⟩ := hh.cD (i := 0) rfl Sd;refine aI (aa (ah (sr (mI ?_))));refine cH (aa (cF (aq (ai (ah (sr (mI ?_)))))));refine a9 (aI (aa (ao ?_)));refine bP [5, 6, 7, 16, 17, 18, 19, 20, 21, 22, 23, 24, 25, 26, 27, 28, 29, 30, 31, 32, 33, 34, 35] 5 6
   (fun v5 v6 w' => ∃ (i j : Nat) (X : List TR), i < j ∧ j ≤ n ∧ v5 = .int .i64 i ∧ v6 = .int .i64 j ∧ X.length = n ∧ i = ((l.take j).filter fun z => !p z).length ∧ X.take i = ((l.take j).filter fun z => !p z) ∧ X.drop j = l.drop j ∧ Hp w0 (.row (some ⟨g0, 0, none⟩) n c 96 4 (aw TR.cells X) :: Hr) w')
   (fun _ v _ => n - (intOf v).toNat) ?_ ?_
  ·exact ⟨i0, i0 + 1, l, Sd, Sd, rfl, rfl, hl, by rw [hf0, SP]; omega, hf0.symm, rfl, hh⟩
  ·clear hh;rintro ρ' v5 v6 w' ⟨i, j, X, hij, hj, rfl, rfl, hX, hi, htk, hdr, hh⟩;by_cases hlt : j < n
   ·obtain ⟨z, hz⟩ := av (l := l) (k := j) Sd;have hXj : X[j]? = some z := by
     have h1 : (X.drop j)[0]? = (l.drop j)[0]? := by rw [hdr]
     rw [Uo, Uo, TB] at h1;rw [h1, hz]
    have hgz := fun w1 => hg z w1 (Sp hz);have hdr2 : X.drop (j + 1) = l.drop (j + 1) := by rw [← U9, ← U9, hdr]
    have hrl := dZ TR.len X;refine ah (sr (mI (mL (aK ?_))));refine tH ?_;refine qN ?_;refine ct (vs := [_, _, _, _]) aP.out rfl (hh.eL (f := TR.cells) (x := z) (l := X) (i := 0) rfl TR.len Se hXj) rfl Se ?_;refine bJ hh ?_;intro b7 w7 hh;refine bK hh 0 [_,_,_,_] ?_;intro ws hh;replace hh : Hp _ (.blk _ _ [_, _, _, _] _ :: _) _ := hh;refine aa (sr ?_);refine ix ?_;refine cu hh 0 [_,_,_,_] ?_
    cases hpz : p z with
    | true =>
     rw [hpz] at hgz;have hfl : ((l.take (j + 1)).filter fun z => !p z) = ((l.take j).filter fun z => !p z) := by rw [ay hz, Vp, List.filter_cons_of_neg (by rw [hpz]; decide), List.filter_nil, S3]
     refine fR (hgz _) ak.out rfl rfl Se ?_;rintro e_ w28 ⟨rfl, hb_⟩;refine ⟨_, rfl, ?_⟩;replace hh := hh.ext hb_;refine fF ?_;refine zO ?_;refine a9 (aI (az (ai ?_)));replace hh := hh.sub (Sm _ (Sk _ (TJ _)));refine ⟨⟨i, j + 1, X, Sd, Sd, rfl, rfl, hX, by rw [hfl]; exact hi, by rw [hfl]; exact htk, hdr2, hh⟩, by show n - (j + 1) < n - j; omega, ?_⟩;exact eB
    | false =>
     rw [hpz] at hgz;have hfl : ((l.take (j + 1)).filter fun z => !p z) = ((l.take j).filter fun z => !p z) ++ [z] := by rw [ay hz, Vp, List.filter_cons_of_pos (by rw [hpz]; decide), List.filter_nil]
     refine fR (hgz _) ak.out rfl rfl Se ?_;rintro e_ w28 ⟨rfl, hb_⟩;refine ⟨_, rfl, ?_⟩;replace hh := hh.ext hb_;refine fF ?_;refine aa (cT (sr (mL (mI ?_))));refine cu hh 0 [_,_,_,_] ?_;refine gj ?_;refine bY hh (i := 1) (vs := [_, _, _, _]) rfl rfl (iq rfl) rfl aP.out rfl Sd rfl ?_;intro ws hh;simp only [Sy, Tb] at hh;rw [show bM (aw TR.cells X) (i * 4) [.string z.m, .bool z.c.neg, .string z.c.bf, .int .i64 z.c.e] = aw TR.cells (X.set i z) from dO TR.len Sd] at hh;refine aa (al (mI ?_));refine a9 (aI (az (bg (ai (al (mI ?_))))));refine a9 (aI (az (ai ?_)));replace hh := hh.sub (Sm _ (Sk _ (TJ _)));refine ⟨⟨i + 1, j + 1, X.set i z, Sd, Sd, rfl, rfl, by rw [TL]; exact hX, by rw [hfl, Sr, ← hi]; rfl, by rw [hfl, ud Sd, htk], by rw [y8 Sd]; exact hdr2, hh⟩, by show n - (j + 1) < n - j; omega, ?_⟩;exact eB
   ·obtain rfl : j = n := Sd;rw [show l.take j = l from Su Sd] at hi htk;have hcap := hh.fH (i := 0) rfl;have hp31 : (if c = i then some (⟨g0, 0, none⟩ : Addr) else (some (⟨g0, 0, none⟩ : Addr)).map (·.add (i * 4))) = some ⟨g0, i * 4, none⟩ := by
     rw [Si Sd];show some ((⟨g0, 0, none⟩ : Addr).add (i * 4)) = _;rw [eC, SM]
    have htt : (aw TR.cells X).take (i * 4) = aw TR.cells (l.filter fun z => !p z) := by rw [mE TR.len, htk]
    refine ah (sr (mI (mL (aK ?_))));refine a6 (aa (cF (aV (aE (aE (bo (ai (sr (mL (mI ?_))))))))));refine aM rfl rfl Se (iB (l := i) (h := j) bq.out aP.size rfl ⟨_, _, rfl, rfl⟩ rfl Sd Sd) ?_;rw [hp31];replace hh := hh.AY (k := i) Sd;rw [htt] at hh;refine wX hh (i := 0) (o := i * 4) (m := j - i) rfl rfl Sd Sd Sd bq.out aP.out rfl rfl ?_;intro w38 hh;refine aa (sr (mL (mI ?_)));refine o6 (h := i) bq.out aP.size rfl rfl Sd Sd Se ?_;refine aL (aa (au ?_));refine da ?_;rw [← hi];exact ⟨rfl, hh⟩
variable {E : Int} {ts : List TR}
structure PX where
 v : Int
 A : Option Addr
 n : Nat
 c : Nat
 ts : List TR
def PX.row (g : PX) : HE := .row g.A g.n g.c 96 4 (aw TR.cells g.ts)
def PX.at_ (g : PX) (w : World) : Prop := Sl w g.A g.n 4 (aw TR.cells g.ts)
theorem PX.at_.ext {g : PX} (h : g.at_ w) (hb : Below w.heap.size w w') : g.at_ w' := Sl.ext h hb
theorem PX.at_.ln {g : PX} (h : g.at_ w) : g.ts.length = g.n := Sl.bz h TR.len Se
structure gh (E v : Int) (ts : List TR) (g : PX) : Prop where
 v : g.v = if E = 0 then v else 0
 ts : g.ts = if E = 0 then ts else []
def PX.nil : PX := ⟨0, none, 0, 0, []⟩
theorem gh.err {v : Int} (h : E ≠ 0) : gh E v ts PX.nil := ⟨by rw [Si h]; rfl, by rw [Si h]; rfl⟩
theorem Hp.EU {H : List HE} (h : Hp w0 H w) : Hp w0 (PX.nil.row :: H) w := h.dL 96 4
theorem ui (A : Option Addr) (n c : Nat) (l : List TR) (k : Nat) (w : World) (hT : dD w) (hh : Hp w0 (.row A n c 96 4 (aw TR.cells l) :: Hr) w) (hl : l.length = n) (hn : n ≤ 1000000) (hk : k + n ≤ 3999980) (ho : iA k l) :
  Calls Tryz.prog 162 #[.slice A n c, .func (.func 76) #[] #[], .func (.func 77) #[] #[]] w fun r w' => ∃ (L : List TR) (A' : Option Addr) (c' : Nat), MD (k + n) l L ∧ r = .returned (.slice A' L.length c') ∧ Hp w0 (.row A' L.length c' 96 4 (aw TR.cells L) :: Hr) w' := by
 refine (lZ k n A n c l w (So _) hT (hh.aD (i := 0) rfl) (hh.fH (i := 0) rfl) hn hk ho).mono fun r w' h => ?_
 rcases h with ⟨h1, rfl, hb⟩ | ⟨h1, L, A', c', hm, rfl, h3⟩
 ·exact ⟨l, A, c, (MD.self (uY Sd) ho).mono Sd, by rw [hl], by rw [hl]; exact hh.ext hb⟩
 ·refine ⟨L, A', c', hm, rfl, ?_⟩;exact (hh.join h3).sub (Sk _ (Sm _ (TJ _)))
def PT (t : TR) : Bool := decide (t.c.d = 0)
theorem Bj (l : List TR) : (l.filter fun z => !PT z) = l.filter vL := rfl
theorem wx (z : TR) (w : World) : Calls Tryz.prog 163 #[.agg #[.string z.m, .bool z.c.neg, .string z.c.bf, .int .i64 z.c.e]] w fun r w' => r = .returned (.bool (PT z)) ∧ Below w.heap.size w w' := by
 have hh := Hp.start w;refine aj (N := 7) (l := [.agg #[.string z.m, .bool z.c.neg, .string z.c.bf, .int .i64 z.c.e]]) Tryz.func163 rfl rfl (by simp) ?_;refine sr ?_;refine cq hh [_,_,_,_] ?_;intro b1 w1 hh;refine aB (aa (sr (bF ?_)));refine cu hh 0 [_,_,_] ?_;refine br hh (gP z.c _) rfl ?_;intro w5 hh;have hz : z.c.i.sign = 0 ↔ z.c.d = 0 := by
  rw [Int.sign_eq_zero_iff_zero];exact ⟨fun h => by unfold NR.d; rw [h]; rfl, qD⟩
 unfold PT;by_cases h0 : z.c.d = 0
 ·have hs := hz.2 h0;rw [SF h0];refine cH (aB (aa (au ?_)));refine da ?_;exact ⟨rfl, hh.below⟩
 ·have hs : ¬ z.c.i.sign = 0 := fun h => h0 (hz.1 h);rw [SQ h0];refine cH (aB (aa (au ?_)));refine da ?_;exact ⟨rfl, hh.below⟩
def fY (l : List TR) : Int := if 4096 < (aF l).length then 3 else 0
theorem zn {xs ys : List Value} {o : Nat} {v : Value} (h : xs[o]? = some v) : bM xs o (v :: ys) = bM xs (o + 1) ys := by
 unfold bM;rw [ay h, SG, show o + (ys.length + 1) = o + 1 + ys.length by omega];simp
def QP (t : TR) : TR := ⟨t.m, nR t.c.d⟩
theorem ur {X : List TR} {i : Nat} {z : TR} (h : X[i]? = some z) (y : NR) : bM (aw TR.cells X) (i * 4 + 1) [.bool y.neg, .string y.bf, .int .i64 y.e] = aw TR.cells (X.set i ⟨z.m, y⟩) := by
 have h0 : (aw TR.cells X)[i * 4]? = some (.string z.m) := by
  have h1 := tQ TR.len h;have h2 : (((aw TR.cells X).drop (i * 4)).take 4)[0]? = some (.string z.m) := by rw [h1]; rfl
  rwa [List.getElem?_take_of_lt Se, Uo, TB] at h2
 rw [← zn h0];exact dO TR.len (y := ⟨z.m, y⟩) (SC.1 h).1
theorem ke (v : Int) (A : Option Addr) (n c : Nat) (l : List TR) (k : Nat) (w : World) (hT : dD w0) (hh : Hp w0 (.row A n c 96 4 (aw TR.cells l) :: Hr) w) (hl : l.length = n) (hn : n ≤ 1000000) (hk : k + n ≤ 3999980) (ho : iA k l) :
  Calls Tryz.prog 78 #[.int .i64 v, .slice A n c] w fun r w' => ∃ g : PX, gh (fY l) v (aF l) g ∧ r = .returned (.tuple #[.agg #[.int .i64 g.v, .slice g.A g.n g.c], .int .i64 (fY l)]) ∧ Hp w0 (g.row :: Hr) w' := by
 refine aj (N := 33) (l := [.int .i64 v, .slice A n c]) Tryz.func78 rfl rfl (by simp) ?_;refine sr ?_;refine bJ hh ?_;intro b4 w4 hh;refine aI (aa (sr (mL ?_)));replace hh := hh.perm (Tr (l₁ := [_]));simp only [Sv, Ss] at hh;refine aC (ui A n c l k _ (hT.hp hh) hh hl hn hk ho) ak.out rfl Se ?_;rintro e_ w8 ⟨L, A1, c1, hmd, rfl, hh⟩;refine ⟨_, rfl, ?_⟩;have hlen := hmd.len;refine aC (A5 A1 L.length c1 L _ PT _ hh rfl Sd (fun z w1 _ => wx z w1)) ak.out rfl Se ?_;rintro e_ w9 ⟨rfl, hh⟩;refine ⟨_, rfl, ?_⟩;rw [Bj] at hh ⊢;have hML : (L.filter vL).length ≤ L.length := List.length_filter_le _ _;have hgl : (aF l).length = (L.filter vL).length := by rw [← hmd.aF, Sx]
 have hgm := hmd.aF;have hok : iA (k + n) (L.filter vL) := fun t ht => hmd.ok t (TD.1 ht).1;generalize hM : L.filter vL = M at *;by_cases h4 : 4096 < M.length
 ·rw [show fY l = 3 by unfold fY; rw [Sj Sd]];refine aL (aa (ah (sr (mL (aK ?_)))));refine cg (aa (cT (sr ?_)));refine gg [_,_] ?_;refine bK hh 1 [_,_] ?_;intro ws hh;replace hh : Hp _ (_ :: .blk _ _ [_, _] _ :: _) _ := hh;refine aI (aa (au (aG ?_)));replace hh := hh.sub (Sm _ (Sk _ (TJ _)));refine yJ ?_;exact ⟨PX.nil, gh.err Se, rfl, (hh.sub (Th _ _)).EU⟩
 ·rw [show fY l = 0 by unfold fY; rw [Si Sd]];refine aL (aa (ah (sr (mL (aK ?_)))));refine cg (aa (cF (aq (ai (ah (sr (mL (aK (mI (aa (ao ?_)))))))))));refine aN [6, 16, 17, 18, 19, 20, 21, 22, 23, 24, 25, 26, 27, 28, 29] 16
   (fun v w' => ∃ (i : Nat) (X : List TR), i ≤ M.length ∧ v = .int .i64 i ∧ X.length = M.length ∧ X = (M.take i).map QP ++ M.drop i ∧ Hp w0 (.row A1 M.length c1 96 4 (aw TR.cells X) :: .blk b4 24 [.int .i64 0, .slice none 0 0] (0, 0) :: Hr) w')
   (fun v _ => M.length - (intOf v).toNat) ?_ ?_
  ·exact ⟨0, M, Sn _, rfl, rfl, rfl, hh⟩
  ·clear hh;rintro ρ' v w' ⟨i, X, hi, rfl, hX, hXe, hh⟩;by_cases hlt : i < M.length
   ·obtain ⟨z, hz⟩ := av (l := M) (k := i) Sd;have hXz : X[i]? = some z := by
     rw [hXe, Tu (by rw [Sx, SP]; omega), Sx, SP, Tp Sd, Td, Uo];exact hz
    have hzo := hok z (Sp hz);have hXn : X.set i ⟨z.m, nR z.c.d⟩ = (M.take (i + 1)).map QP ++ M.drop (i + 1) := by
     rw [ay hz, Tt, hXe, Un _ _ (by rw [Sx, SP]; omega), Sx, SP, Tp Sd, Td, S5];congr 1;obtain ⟨h1, h2⟩ := SC.1 hz;rw [T4 h1, h2]
     rfl
    have hrl := dZ TR.len X;obtain ⟨g0, rfl⟩ := hh.cD (i := 0) rfl Sd;refine sr ?_;refine a6 (aa (ah (cT (aq (ai (ah (ao (sr (mI (aI (aa (al (mL (mI (mL (mI ?_))))))))))))))));refine gj ?_;refine bF ?_;refine ct (vs := [_, _, _]) aP.out rfl ((hh.eL (f := TR.cells) (x := z) (l := X) (i := 0) rfl TR.len Se hXz).drop 1) rfl Se ?_;refine br hh (ew z.c _ (hT.hp hh) (by have := hzo.1.1; omega) (by have := hzo.1.2.1; omega) (by have := hzo.1.2.2; omega)) rfl ?_;intro w26 hh;refine gj ?_;refine bF ?_;refine C4 ?_;intro ws hh;simp only [Sy] at hh;rw [ur hXz, hXn] at hh;refine fG ?_;refine a9 (mI (az (ai ?_)));refine ⟨⟨i + 1, _, Sd, rfl, ?_, rfl, hh⟩, by show M.length - (i + 1) < M.length - i; omega, ?_⟩
    ·rw [← hXn, TL, hX]
    ·exact eB
   ·obtain rfl : i = M.length := Sd;rw [Su (So _), Uf (So _), S3] at hXe;have hXg : X = aF l := by rw [hXe]; exact hgm
    rw [hXg] at hh;refine sr ?_;refine a6 (aa (ah (cF (aV (aE (aE (bo (ai (sr (mI (mL ?_)))))))))));refine gg [_,_] ?_;refine bK hh 1 [_,_] ?_;intro ws hh;replace hh : Hp _ (_ :: .blk _ _ [_, _] _ :: _) _ := hh;refine aI (aa (au ?_));refine CF ?_;exact ⟨⟨v, A1, M.length, c1, aF l⟩, ⟨rfl, rfl⟩, rfl, hh.sub (Sk _ (Sm _ (TJ _)))⟩
theorem kL (s : ByteArray) (n : Int) (w : World) (hs : s.size ≤ 9223372036854775807) :
  Calls Tryz.prog 159 #[.string s, .int .i64 n] w fun e w' => e = .returned (.bool (eI s.data.toList && decide ((s.size : Int) = n))) ∧ Below w.heap.size w w' := by
 refine aj (N := 20) (l := [.string s, .int .i64 n]) Tryz.func159 rfl rfl (by simp) ?_;refine sr (aB (aa (ah (sr (mS ?_)))));refine bD bq.out rfl Se ?_;refine mI (aa (ao ?_));refine aN [4, 5, 8, 9, 10, 11, 12, 13, 14, 15] 8
  (fun v w' => ∃ k : Nat, k ≤ s.size ∧ v = .int .i64 k ∧ eI (s.data.toList.take k) = true ∧ w' = w)
  (fun v _ => s.size - (intOf v).toNat) ?_ ?_
 ·exact ⟨0, Sn _, rfl, rfl, rfl⟩
 ·rintro ρ' v w' ⟨k, hk, rfl, hm, rfl⟩;by_cases hlt : k < s.size
  ·obtain ⟨c, hc⟩ := av (l := s.data.toList) (k := k) (by rw [← dE]; exact hlt);have hb := c.toNat_lt;by_cases h8 : c.toNat < 128
   ·refine sr ?_;refine a6 (aa (ah (cT (aq (ai (ah (ao (sr (mI (aI (aa (sr (mS (mI ?_))))))))))))));refine jN ?_;refine cg (aa (cF (aq (bg (ai (al ?_))))));refine a9 (mI (az (ai ?_)));refine ⟨⟨k + 1, Sd, rfl, by rw [ay hc, EG, hm]; simpa using h8, rfl⟩, by show s.size - (k + 1) < s.size - k; omega, ?_⟩;exact eB
   ·refine sr ?_;refine a6 (aa (ah (cT (aq (ai (ah (ao (sr (mI (aI (aa (sr (mS (mI ?_))))))))))))));refine jN ?_;refine cg (aa (cT (sr (aB (aa (au (bQ (aG (aG (bQ (aG ?_)))))))))));refine da ?_;rw [Gr hc h8];exact ⟨rfl, Below.refl _ _⟩
  ·refine sr ?_;refine a6 (aa (ah (cF (aV (aE (aE (bo (ai (sr (mS ?_))))))))));refine bD bq.out rfl Se ?_;refine mI ?_;refine Cw rfl rfl Se ?_;refine aB (aa (au ?_));refine da ?_;rw [Su (by rw [← dE]; omega)] at hm;rw [hm];exact ⟨rfl, Below.refl _ _⟩
theorem l9 (s : ByteArray) (w : World) (hs : s.size ≤ 9223372036854775807) :
  Calls Tryz.prog 159 #[.string s, .int .i64 s.size] w fun e w' => e = .returned (.bool (eI s.data.toList)) ∧ Below w.heap.size w w' := by
 have h := kL s s.size w hs;simpa using h
theorem GA (A : Option Addr) (n c : Nat) (xs : List Int) (w : World) (hsl : Sl w A n 1 (bm xs)) (hn : n ≤ 100000) :
  Calls Tryz.prog 187 #[.slice A n c] w fun e w' => e = .returned (.tuple #[.string (str (IH xs)), .int .i64 (Je xs)]) ∧ Below w.heap.size w w' := by
 have hlen : xs.length = n := by have := hsl.1; rw [cL] at this; omega
 have hh := Hp.start w;refine aj (N := 27) (l := [.slice A n c]) Tryz.func187 rfl rfl (by simp) ?_;refine sr (aS (aI (aa (sr (aL (aa (ah (sr (mL (aK (mI (aa (ao ?_)))))))))))));refine bP [2, 3, 4, 6, 9, 10, 11, 12, 13, 14, 15, 16, 17, 18, 19, 20, 21, 22, 23, 24] 4 9
  (fun b i w' => ∃ (k c' : Nat) (A' : Option Addr), k ≤ n ∧ i = .int .i64 k ∧ b = .slice A' k c' ∧ (xs.take k).all cM = true ∧ Hp w [.row A' k c' 5 1 (nQ ((xs.take k).map z4))] w')
  (fun _ v _ => n - (intOf v).toNat) ?_ ?_
 ·exact ⟨0, 0, none, Sn _, rfl, rfl, rfl, hh.dL _ _⟩
 ·clear hh;rintro ρ' b i w' ⟨k, c', A', hk, rfl, rfl, hall, hh⟩;by_cases hlt : k < n
  ·obtain ⟨x, hx⟩ := av (l := xs) (k := k) Sd;obtain ⟨ad, rfl, hr⟩ := (hsl.ext hh.below).at_ Sd;by_cases h0 : x < 0
   ·refine sr ?_;refine dq ?_;refine mh bq.out aP.size rfl rfl Sd Sd Se ?_;refine cv aP.out rfl (jQ hr (cO hx) rfl) Se ?_;refine aI (aa (ah (sr (mI ?_))));refine a6 (mB ?_);refine gS (gS ?_);refine fV ?_;exact Oz
   ·by_cases h1 : 127 < x
    ·refine sr ?_;refine dq ?_;refine mh bq.out aP.size rfl rfl Sd Sd Se ?_;refine cv aP.out rfl (jQ hr (cO hx) rfl) Se ?_;refine aI (aa (ah (sr (mI ?_))));refine a6 (mB (gT (mI (gT ?_))));refine cg ?_;refine fa ?_;exact Oz
    ·have hok : cM x = true := by simp [cM]; omega
     refine sr ?_;refine dq ?_;refine mh bq.out aP.size rfl rfl Sd Sd Se ?_;refine cv aP.out rfl (jQ hr (cO hx) rfl) Se ?_;refine aI (aa (ah (sr (mI ?_))));refine a6 (mB (gT (mI (gT ?_))));refine cg ?_;refine fa ?_;refine aa (cF (aq (ai (al (mL (mI ?_))))));refine sf bq.out bq.out rfl Se ?_;refine qI ?_;intro b22 w22 hh;refine cR hh (i := 1) rfl rfl rfl (hh.aD (i := 0) rfl) bq.out aP.out rfl Se rfl Sd Sd Se ?_;intro A23 c23 w23 hh;simp only [Sy, Tb] at hh;replace hh := hh.sub (Th _ _);refine na ?_;refine a9 (mI (az (ai ?_)));refine ⟨⟨k + 1, c23, A23, Sd, rfl, rfl, Gz hx hall hok, ?_⟩, by show n - (k + 1) < n - k; omega, ?_⟩
     ·rw [JD Sd Sd, GC hx hok] at hh;exact hh
     ·exact eB
  ·obtain rfl : k = n := Sd;rw [Su Sd] at hall hh;obtain ⟨e1, e2⟩ := rE hall;refine sr ?_;refine oV ?_;refine qw bq.out bq.out bq.out rfl (hh.aD (i := 0) rfl) Se ?_;refine aS (aI (aa (au ?_)));refine Fx ?_;rw [e1, e2];exact ⟨rfl, hh.below⟩
theorem iS (s : ByteArray) (w : World) (hs : s.size ≤ 100000) :
  Calls Tryz.prog 91 #[.string s] w fun e w' => ∃ A c, e = .returned (.slice A (jh s.data.toList).length c) ∧ w'.ownsRow w.heap.size 3 1 (.slice A (jh s.data.toList).length c) (jh s.data.toList).length (bm (jh s.data.toList)) ∧ Below w.heap.size w w' := by
 have hh := Hp.start w;have hsz := dE s
 cases hm : eI s.data.toList with
 | false =>
  refine aj (N := 22) (l := [.string s]) Tryz.func91 rfl rfl (by simp) ?_;refine sr (aL (aa (ah (sr (mS (mS ?_))))));refine bD bq.out rfl Se ?_;refine br hh (l9 s _ Sd) rfl ?_;intro w9 hh;rw [hm];refine fF ?_;refine aa (cT (sr (aL (aa (au (aG ?_))))));refine da ?_;rw [GI hm];exact ⟨none, 0, rfl, World.ownsRow_nil _ _ _ _, hh.below⟩
 | true =>
  refine aj (N := 22) (l := [.string s]) Tryz.func91 rfl rfl (by simp) ?_;refine sr (aL (aa (ah (sr (mS (mS ?_))))));refine bD bq.out rfl Se ?_;refine br hh (l9 s _ Sd) rfl ?_;intro w9 hh;rw [hm];refine fF ?_;refine aa (cF (aq (ai (sr (aL (aa (ah (sr (mS ?_)))))))));refine xv hh bq.out rfl Se ?_;intro b12 w12 hh;skip;refine aa (ao ?_);refine aN [3, 5, 13, 14, 15, 16, 17, 18, 19, 20] 3
   (fun v w' => ∃ (k c' : Nat) (A' : Option Addr), k ≤ s.size ∧ v = .slice A' k c' ∧ Hp w [.row A' k c' 3 1 (bm (ints (s.data.toList.take k))), .it b12 s k] w')
   (fun v _ => s.size - lenOf v) ?_ ?_
  ·exact ⟨0, 0, none, Sn _, rfl, hh.dL _ _⟩
  ·clear hh;rintro ρ' v w' ⟨k, c', A', hk, rfl, hh⟩;by_cases hlt : k < s.size
   ·obtain ⟨c, hc⟩ := av (l := s.data.toList) (k := k) Sd;have h8 := rb hm hc;refine sr ?_;refine xc hh (i := 1) rfl rfl hc h8 Se ?_;intro w13 hh;simp only [Sy, Tb] at hh;skip;refine cE ?_;refine aa (ah (cT (aq (ai (ao (sr ?_))))));refine cE ?_;refine aI (aa (al (mL (mI ?_))));refine yG ?_;refine qI ?_;intro b19 w19 hh;refine cR hh (i := 1) rfl rfl rfl (hh.aD (i := 0) rfl) bq.out aP.out rfl Se rfl Sd Sd Se ?_;intro A20 c20 w20 hh;simp only [Sy, Tb] at hh;replace hh := hh.sub (Th _ _);refine aL (az (bg (ai ?_)));rw [tR hc] at hh;refine ⟨⟨k + 1, c20, A20, Sd, rfl, hh⟩, by show s.size - (k + 1) < s.size - k; omega, ?_⟩;exact eB
   ·refine sr ?_;refine xa hh (i := 1) rfl rfl hlt Se ?_;skip;refine cE ?_;refine aa (ah (cF (aV (aE (aE (bo (ai (sr (mL (aL (aa (au ?_))))))))))));refine da ?_;obtain rfl : k = s.size := Sd;rw [Su Sd] at hh;have h1 := hh.at_ (i := 0) rfl;rw [kB hm, cK, ← hsz];exact ⟨A', c', rfl, h1, hh.below⟩
theorem rN (a b : ByteArray) (g : FuncId) (f : Int → Int → Int) (w : World) (ha : a.size ≤ 100000) (hb : b.size ≤ 100000) [ak Tryz.prog g]
  (hg : ∀ (x y : Int) (w : World), 0 ≤ x → x ≤ 127 → 0 ≤ y → y ≤ 127 → Calls Tryz.prog g #[.int .i64 x, .int .i64 y] w fun e w' => e = .returned (.int .i64 (f x y)) ∧ Below w.heap.size w w') :
  Calls Tryz.prog 206 #[.string a, .string b, .func (.func g) #[] #[]] w fun e w' =>
   (jc f a.data.toList b.data.toList = none ∧ e = .returned (.tuple #[.slice none 0 0, .bool false]) ∧ Below w.heap.size w w') ∨
   ∃ l, jc f a.data.toList b.data.toList = some l ∧ l.length = b.size ∧ ∃ A c, e = .returned (.tuple #[.slice A l.length c, .bool true]) ∧ w'.ownsRow w.heap.size 3 1 (.slice A l.length c) l.length (bm l) ∧ Below w.heap.size w w' := by
 have hh := Hp.start w;have hsa := dE a;have hsb := dE b
 cases hma : eI a.data.toList with
 | false =>
  refine HN ?_;refine sr (aL (aB (aa (sr (mS ?_)))));refine aC (iS b _ hb) ak.out rfl Se ?_;rintro e_ w12 ⟨A12, c12, rfl, hown_, hb_⟩;refine ⟨_, rfl, ?_⟩;replace hh := hh.aO (x := .row _ _ _ _ _ _) hb_ hown_;refine aL (aa (ah (sr (mS (mS ?_)))));refine bD bq.out rfl Se ?_;refine br hh (l9 a _ Sd) rfl ?_;intro w16 hh;rw [hma];refine fF ?_;refine mB ?_;refine gS (gS (gS ?_));refine kP ?_;refine gS ?_;refine fV ?_;refine aa (cT (sr (aL (aB (aa (au (aG ?_)))))));refine Fx ?_;exact .inl ⟨by simp [jc, hma], rfl, hh.below⟩
 | true =>
  cases hmb : (eI b.data.toList && decide ((b.size : Int) = a.size)) with
  | false =>
   refine HN ?_;refine sr (aL (aB (aa (sr (mS ?_)))));refine aC (iS b _ hb) ak.out rfl Se ?_;rintro e_ w12 ⟨A12, c12, rfl, hown_, hb_⟩;refine ⟨_, rfl, ?_⟩;replace hh := hh.aO (x := .row _ _ _ _ _ _) hb_ hown_;refine aL (aa (ah (sr (mS (mS ?_)))));refine bD bq.out rfl Se ?_;refine br hh (l9 a _ Sd) rfl ?_;intro w16 hh;rw [hma];refine fF ?_;refine mB (gT (mS (gT (mS (gT ?_)))));refine bD bq.out rfl Se ?_;refine aH rfl rfl ?_;refine br hh (kL b _ _ Sd) rfl ?_;intro w22 hh;rw [hmb];refine gT ?_;refine fF ?_;refine fa ?_;refine aa (cT (sr (aL (aB (aa (au (aG ?_)))))));refine Fx ?_;have : (eI b.data.toList && decide ((b.data.toList.length : Int) = a.data.toList.length)) = false := by rw [← hsa, ← hsb]; exact hmb
   exact .inl ⟨by simp only [jc, hma, this]; rfl, rfl, hh.below⟩
  | true =>
   have hmb2 := hmb;simp only [SE, SJ] at hmb2;have hbl : jc f a.data.toList b.data.toList = some (List.zipWith f (ints a.data.toList) (ints b.data.toList)) := by
    have : (eI b.data.toList && decide ((b.data.toList.length : Int) = a.data.toList.length)) = true := by rw [← hsa, ← hsb]; exact hmb
    simp only [jc, hma, this]; rfl
   have hea := kB hma;have heb := kB hmb2.1;have hlab : (ints a.data.toList).length = (ints b.data.toList).length := by rw [cK, cK]; omega
   have hlb := cK b.data.toList;have hla := cK a.data.toList;have hA := iS a;have hB := iS b;rw [hea] at hA;rw [heb] at hB;generalize hia : ints a.data.toList = ia at *;generalize hib : ints b.data.toList = ib at *;have bda : ∀ (k : Nat) (x : Int), ia[k]? = some x → 0 ≤ x ∧ x ≤ 127 := fun k x h => BK (l := a.data.toList) (by rw [hea]; exact h);have bdb : ∀ (k : Nat) (x : Int), ib[k]? = some x → 0 ≤ x ∧ x ≤ 127 := fun k x h => BK (l := b.data.toList) (by rw [heb]; exact h);clear hea heb;refine HN ?_;refine sr (aL (aB (aa (sr (mS ?_)))));refine aC (hB _ hb) ak.out rfl Se ?_;rintro e_ w12 ⟨A12, c12, rfl, hown_, hb_⟩;refine ⟨_, rfl, ?_⟩;replace hh := hh.aO (x := .row _ _ _ _ _ _) hb_ hown_;refine aL (aa (ah (sr (mS (mS ?_)))));refine bD bq.out rfl Se ?_;refine br hh (l9 a _ Sd) rfl ?_;intro w16 hh;rw [hma];refine fF ?_;refine mB (gT (mS (gT (mS (gT ?_)))));refine bD bq.out rfl Se ?_;refine aH rfl rfl ?_;refine br hh (kL b _ _ Sd) rfl ?_;intro w22 hh;rw [hmb];refine gT ?_;refine fF ?_;refine fa ?_;refine aa (cF (aq (ai (ah (sr (mS ?_))))));refine aC (hA _ ha) ak.out rfl Se ?_;rintro e_ w26 ⟨A26, c26, rfl, hown_, hb_⟩;refine ⟨_, rfl, ?_⟩
   replace hh := hh.aO (x := .row _ _ _ _ _ _) hb_ hown_;refine aK (mI (aa (ao ?_)));refine aN [9, 10, 28, 29, 30, 31, 32, 33, 34, 35, 36, 37, 38, 39, 40, 41, 42, 43] 28
    (fun i w' => ∃ k : Nat, k ≤ ib.length ∧ i = .int .i64 k ∧ Hp w [.row A26 ia.length c26 3 1 (bm ia), .row A12 ib.length c12 3 1 (bm (lX f ia ib k))] w')
    (fun i _ => ib.length - (intOf i).toNat) ?_ ?_
   ·exact ⟨0, Sn _, rfl, by rw [G9]; exact hh⟩
   ·clear hh hown_ hb_;rintro ρ' i w' ⟨k, hk, rfl, hh⟩;by_cases hlt : k < ib.length
    ·obtain ⟨x, hx⟩ := av (l := ia) (k := k) Sd;obtain ⟨y, hy⟩ := av hlt;have bx := bda k x hx;have byy := bdb k y hy;have hx2 := cO hx;have hy2 := cO (Nm (f := f) hlab hy);have hml := Kn (f := f) hlab hk;have hml2 := cL (lX f ia ib k);obtain ⟨ga, rfl⟩ := hh.cD (i := 0) rfl Sd;obtain ⟨gb, rfl⟩ := hh.cD (i := 1) rfl Sd;refine sr ?_;refine fj ?_;refine Dr ?_;refine jR ?_;refine aI (aI (aa (al (mL (mI ?_)))));refine ix ?_;refine mI (mL (mI ?_));refine Dr ?_;refine cv aP.out rfl (hh.gk (i := 1) rfl (by first | assumption | (simp only [SI]; assumption))) Se ?_;refine fR (hg x y _ bx.1 bx.2 byy.1 byy.2) ak.out rfl rfl Se ?_;rintro e_ w41 ⟨rfl, hb_⟩;refine ⟨_, rfl, ?_⟩;replace hh := hh.ext hb_;refine Dr ?_;refine bY hh (i := 1) (vs := [_]) rfl rfl (cJ rfl) rfl aP.out rfl Sd rfl ?_;intro ws hh;simp only [Sy, Tb] at hh;refine fG ?_;refine a9 (mI (az (ai ?_)));rw [SI, KB hlab hx hy] at hh;refine ⟨⟨k + 1, Sd, rfl, hh⟩, by show _ - (k + 1) < _ - k; omega, ?_⟩;exact eB
    ·refine sr ?_;refine a6 (aa (ah (cF (aV (aE (aE (bo (ai (sr (mL (aL (aB (aa (au ?_))))))))))))));refine Fx ?_;obtain rfl : k = ib.length := Sd;rw [Hz hlab] at hh;have h1 := hh.at_ (i := 1) rfl;have hzl : (List.zipWith f ia ib).length = ib.length := by simp [hlab]
     refine .inr ⟨_, hbl, Sd, A12, c12, ?_⟩;rw [hzl];exact ⟨rfl, h1, hh.below⟩
theorem Ed (a b : ByteArray) (g : FuncId) (f : Int → Int → Int) (w : World) (ha : a.size ≤ 100000) (hb : b.size ≤ 100000) [ak Tryz.prog g]
  (hg : ∀ (x y : Int) (w : World), 0 ≤ x → x ≤ 127 → 0 ≤ y → y ≤ 127 → Calls Tryz.prog g #[.int .i64 x, .int .i64 y] w fun e w' => e = .returned (.int .i64 (f x y)) ∧ Below w.heap.size w w')
  (h : jc f a.data.toList b.data.toList = none) :
  Calls Tryz.prog 206 #[.string a, .string b, .func (.func g) #[] #[]] w fun e w' => e = .returned (.tuple #[.slice none 0 0, .bool false]) ∧ Below w.heap.size w w' :=
 (rN a b g f w ha hb hg).mono fun e w' hq => by
  rcases hq with hq | ⟨l, hl, _⟩
  ·exact hq.2
  ·rw [h] at hl; cases hl
theorem Fg (a b : ByteArray) (g : FuncId) (f : Int → Int → Int) (w : World) (ha : a.size ≤ 100000) (hb : b.size ≤ 100000) [ak Tryz.prog g]
  (hg : ∀ (x y : Int) (w : World), 0 ≤ x → x ≤ 127 → 0 ≤ y → y ≤ 127 → Calls Tryz.prog g #[.int .i64 x, .int .i64 y] w fun e w' => e = .returned (.int .i64 (f x y)) ∧ Below w.heap.size w w')
  {l : List Int} (h : jc f a.data.toList b.data.toList = some l) :
  Calls Tryz.prog 206 #[.string a, .string b, .func (.func g) #[] #[]] w fun e w' => ∃ A c, e = .returned (.tuple #[.slice A l.length c, .bool true]) ∧ w'.ownsRow w.heap.size 3 1 (.slice A l.length c) l.length (bm l) ∧ Below w.heap.size w w' :=
 (rN a b g f w ha hb hg).mono fun e w' hq => by
  rcases hq with ⟨hn, _⟩ | ⟨l', hl, _, hq⟩
  ·rw [h] at hn; cases hn
  ·rw [h] at hl; injection hl with hl; subst hl; exact hq
theorem Eo {f : Int → Int → Int} {a b : List UInt8} {l : List Int} (h : jc f a b = some l) : l.length ≤ b.length := by
 unfold jc at h;split at h
 ·injection h with h; subst h; simp [ints]; omega
 ·cases h
theorem tL (x y : Int) (w : World) (h1 : 0 ≤ x) (h2 : x ≤ 127) (h3 : 0 ≤ y) (h4 : y ≤ 127) :
  Calls Tryz.prog 207 #[.int .i64 x, .int .i64 y] w fun e w' => e = .returned (.int .i64 (x + y)) ∧ Below w.heap.size w w' := by
 refine aj (N := 8) (l := [.int .i64 x, .int .i64 y]) Tryz.func207 rfl rfl (by simp) ?_;refine sr (aI (aa (sr (mI (mI ?_)))));refine a9 (aI (aa (au ?_)));refine da ?_;exact ⟨rfl, Below.refl _ _⟩
theorem EH (a b : ByteArray) (w : World) (ha : a.size ≤ 100000) (hb : b.size ≤ 100000) :
  Calls Tryz.prog 165 #[.string a, .string b] w fun e w' => e = .returned (.tuple #[.string (str (mulL a.data.toList b.data.toList).1), .int .i64 (mulL a.data.toList b.data.toList).2]) ∧ Below w.heap.size w w' := by
 have hh := Hp.start w;have hsb := dE b
 cases hbo : jc (· + ·) a.data.toList b.data.toList with
 | none =>
  refine aj (N := 20) (l := [.string a, .string b]) Tryz.func165 rfl rfl (by simp) ?_;refine sr (aS (aI (aa (sr (mS (mS ?_))))));refine br hh (Ed a b _ _ _ ha hb tL hbo) rfl ?_;intro w11 hh;refine mT ?_;refine cE ?_;refine cE ?_;refine aL (aB (aa (ah (sr (mB ?_)))));refine fF ?_;refine aa (cT (sr (aS (aI (aa (au (aG ?_)))))));refine Fx ?_;simp only [mulL, hbo];exact ⟨rfl, hh.below⟩
 | some l =>
  have hl := Eo hbo;refine aj (N := 20) (l := [.string a, .string b]) Tryz.func165 rfl rfl (by simp) ?_;refine sr (aS (aI (aa (sr (mS (mS ?_))))));refine aC (Fg a b _ _ _ ha hb tL hbo) ak.out rfl Se ?_;rintro e_ w11 ⟨A11, c11, rfl, hown_, hb_⟩;refine ⟨_, rfl, ?_⟩;replace hh := hh.aO (x := .row _ _ _ _ _ _) hb_ hown_;refine mT ?_;refine cE ?_;refine cE ?_;refine aL (aB (aa (ah (sr (mB ?_)))));refine fF ?_;refine aa (cF (aq (ai (sr (mL ?_)))));refine br hh (GA _ _ _ _ _ (hh.aD (i := 0) rfl) Sd) rfl ?_;intro w17 hh;refine cE ?_;refine cE ?_;refine aS (aI (aa (au ?_)));refine Fx ?_;simp only [mulL, hbo];exact ⟨trivial, hh.below⟩
def iJ (v : Int) : Bool := decide (0 ≤ v) && decide (v ≤ 12)
theorem gu {v : Int} : iJ v = true ↔ 0 ≤ v ∧ v ≤ 12 := by unfold iJ; rw [SE, SJ, SJ]
theorem mJ (v : Int) (w : World) : Calls Tryz.prog 134 #[.int .i64 v] w fun r w' => r = .returned (.bool (iJ v)) ∧ Below w.heap.size w w' := by
 have hh := Hp.start w;unfold iJ;by_cases h1 : 0 ≤ v
 ·rw [SF h1, Bool.true_and];by_cases h2 : v ≤ 12
  ·rw [SF h2];exact LD
  ·rw [SQ h2];exact LD
 ·rw [SQ h1, Bool.false_and];refine aj (N := 9) (l := [.int .i64 v]) Tryz.func134 rfl rfl (by simp) ?_;refine sr (aB (aa (sr (mI ?_))));refine ee (mB ?_);refine gS (gS ?_);refine fa ?_;exact vV
def PV (a : NR) : Bool := decide ((nR a.d).neg = a.neg) && (decide ((nR a.d).bf = a.bf) && decide ((nR a.d).e = a.e))
theorem rn (a : NR) : PV a = true ↔ nR a.d = a := by
 unfold PV;rw [SE, SE, SJ, SJ, SJ];constructor
 ·rintro ⟨h1, h2, h3⟩;obtain ⟨s, m, e⟩ := a;generalize nR (NR.d ⟨s, m, e⟩) = b at *;obtain ⟨s', m', e'⟩ := b;simp only at h1 h2 h3;rw [h1, h2, h3]
 ·intro h;rw [h];exact ⟨rfl, rfl, rfl⟩
def ni (v : Int) (t : TR) : Bool := eI t.m.data.toList && decide ((t.m.size : Int) = v) && (vL t && PV t.c)
def sx : List TR → Bool
 | [] => true
 | [_] => true
 | a :: b :: l => iV a.m b.m && sx (b :: l)
theorem u9 : ∀ (l : List TR) (p x : TR), sx (l ++ [p, x]) = (sx (l ++ [p]) && iV p.m x.m)
 | [], p, x => by show (iV p.m x.m && true) = (true && iV p.m x.m); rw [Bool.and_true, Bool.true_and]
 | [a], p, x => by
  show (iV a.m p.m && (iV p.m x.m && true)) = ((iV a.m p.m && true) && iV p.m x.m);rw [Bool.and_true, Bool.and_true]
 | a :: b :: l, p, x => by
  show (iV a.m b.m && sx ((b :: l) ++ [p, x])) = ((iV a.m b.m && sx ((b :: l) ++ [p])) && iV p.m x.m);rw [u9 (b :: l) p x, Bool.and_assoc]
theorem CQ : ∀ {l : List TR} {i : Nat} {p x : TR}, sx l = true → l[i]? = some p → l[i + 1]? = some x → iV p.m x.m = true
 | [], i, p, x, _, h, _ => by simp at h
 | [a], i, p, x, _, _, h => by simp at h
 | a :: b :: l, 0, p, x, h, h1, h2 => by
  simp only [UX, T3, SM, UR] at h1 h2;subst h1 h2;exact (Uq.1 h).1
 | a :: b :: l, i + 1, p, x, h, h1, h2 => by
  rw [UR] at h1 h2;exact CQ (Uq.1 h).2 h1 h2
theorem sZ : ∀ {l : List TR}, sx l = true ↔ rv l
 | [] => ⟨fun _ => Vh, fun _ => rfl⟩
 | [a] => ⟨fun _ => VB _ _, fun _ => rfl⟩
 | a :: b :: l => by
  show (iV a.m b.m && sx (b :: l)) = true ↔ _;rw [SE, sZ (l := b :: l)];constructor
  ·rintro ⟨h1, h2⟩;refine TF.2 ⟨fun t ht => ?_, h2⟩
   rcases SH.1 ht with rfl | ht
   ·exact h1
   ·exact jG h1 ((TF.1 h2).1 t ht)
  ·intro h;have := TF.1 h;exact ⟨this.1 b Sq, this.2⟩
def okB (v : Int) (ts : List TR) : Bool := ts.all (ni v) && sx ts
def fh (v : Int) (ts : List TR) : Int := if iJ v = false then 1 else if 4096 < ts.length then 3 else if okB v ts = true then 0 else 1
theorem G4 {v : Int} (h1 : iJ v = true) (h2 : ¬ 4096 < ts.length) (h : okB v ts = false) : fh v ts = 1 := by
 unfold fh;rw [Si (by rw [h1]; decide), Si h2, Si (by rw [h]; decide)]
theorem vY {v : Int} {i : Nat} {x : TR} (hx : ts[i]? = some x) (h : ni v x = false) : okB v ts = false := by
 unfold okB;rw [Bool.and_eq_false_iff];refine .inl (U8.2 fun h2 => ?_);rw [SU.1 h2 x (Sp hx)] at h
 cases h
theorem FG {v : Int} {i : Nat} {p x : TR} (hp : ts[i]? = some p) (hx : ts[i + 1]? = some x) (h : iV p.m x.m = false) : okB v ts = false := by
 unfold okB;rw [Bool.and_eq_false_iff];refine .inr (U8.2 fun h2 => ?_);rw [CQ h2 hp hx] at h
 cases h
theorem wH (v : Int) (A : Option Addr) (n c : Nat) (ts : List TR) (w : World) (hT : dD w) (hS : Sl w A n 4 (aw TR.cells ts)) (hn : n ≤ 1000000) (ho : ∀ t ∈ ts, t.c.ok ∧ t.m.size ≤ 100000) :
  Calls Tryz.prog 142 #[.agg #[.int .i64 v, .slice A n c]] w fun r w' => r = .returned (.int .i64 (fh v ts)) ∧ Below w.heap.size w w' := by
 have hh := Hp.start w;have hln := hS.bz TR.len Se;have hfw := fun w1 => mJ v w1
 cases hf : iJ v with
 | false =>
  rw [hf] at hfw;rw [show fh v ts = 1 by unfold fh; rw [Sj hf]];refine GU ?_;refine sr ?_;refine cq hh [_,_] ?_;intro b1 w1 hh;refine aI (aa (ah (sr (bF ?_))));refine bE hh 0 ?_;refine br hh (hfw _) rfl ?_;intro w7 hh;refine fF ?_;exact MF
 | true =>
  rw [hf] at hfw;by_cases h4 : 4096 < n
  ·rw [show fh v ts = 3 by unfold fh; rw [Si (by rw [hf]; decide), Sj Sd]];refine GU ?_;refine sr ?_;refine cq hh [_,_] ?_;intro b1 w1 hh;refine aI (aa (ah (sr (bF ?_))));refine bE hh 0 ?_;refine br hh (hfw _) rfl ?_;intro w7 hh;refine fF ?_;refine C1 ?_;refine bE hh 0 ?_;refine aK ?_;refine cg (aa (cT (sr (aI (aa (au (aG ?_)))))));refine da ?_;exact ⟨rfl, hh.below⟩
  ·have hbad := fun h => G4 (v := v) (ts := ts) hf Sd h;refine GU ?_;refine sr ?_;refine cq hh [_,_] ?_;intro b1 w1 hh;refine aI (aa (ah (sr (bF ?_))));refine bE hh 0 ?_;refine br hh (hfw _) rfl ?_;intro w7 hh;refine fF ?_;refine C1 ?_;refine bE hh 0 ?_;refine aK ?_;refine cg (aa (cF (aq (ai (ah (sr (bF ?_)))))));refine bE hh 0 ?_;refine aK (mI (aa (ao ?_)));refine aN [2, 3, 4, 16, 17, 18, 19, 20, 21, 22, 23, 24, 25, 26, 27, 28, 29, 30, 31, 32, 33, 34, 35, 36, 37, 38, 39, 40, 41, 42, 43, 44, 45, 46, 47, 48, 49, 50, 51, 52, 53, 54, 55, 56, 57] 16
    (fun x w' => ∃ i : Nat, i ≤ n ∧ x = .int .i64 i ∧ (ts.take i).all (ni v) = true ∧ sx (ts.take i) = true ∧ Hp w [.blk b1 24 [.int .i64 v, .slice A n c] (0, 0)] w')
    (fun x _ => n - (intOf x).toNat) ?_ ?_
   ·exact ⟨0, Sn _, rfl, rfl, rfl, hh⟩
   ·clear hh;rintro ρ' x_ w' ⟨i, hi, rfl, hall, hris, hh⟩;by_cases hlt : i < n
    ·obtain ⟨x, hx⟩ := av (l := ts) (k := i) Sd;obtain ⟨ad, rfl, hr⟩ := hS.at_ Sd;obtain ⟨hxo, hxm⟩ := ho x (Sp hx);have hmay := fun w1 => kL x.m v w1 Sd;have hsg := fun w1 => gP x.c w1;have hfo := fun w1 hT1 => ew x.c w1 hT1 (by have := hxo.1; omega) (by have := hxo.2.1; omega) (by have := hxo.2.2; omega);have hzz : x.c.i.sign = 0 ↔ x.c.d = 0 := by
      rw [Int.sign_eq_zero_iff_zero];exact ⟨fun h => by unfold NR.d; rw [h]; rfl, qD⟩
     cases hm : eI x.m.data.toList && decide ((x.m.size : Int) = v) with
     | false =>
      rw [hm] at hmay;rw [hbad (vY hx (by unfold ni; rw [hm]; rfl))];refine sr ?_;refine fj ?_;refine bX ?_;refine qJ ?_;refine bJ hh ?_;intro b4 w4 hh;refine aI ?_;refine bK hh 0 [_,_,_,_] ?_;intro ws hh;replace hh : Hp _ (.blk _ _ [_, _, _, _] _ :: _) _ := hh;refine aa (ah ?_)
      refine eM [] [] zL1 33 zL0 [(32, 53), (31, 52), (30, 51), (29, 50), (28, 49), (27, 48), (26, 47), (25, 46), (24, 45), (23, 44), (22, 43), (21, 42), (20, 41), (19, 40), (18, 39), (17, 38), (16, 37), (15, 36), (14, 35), (13, 34), (12, 33), (11, 32), (10, 31), (9, 30), (8, 29), (7, 28), (6, 27), (5, 26), (4, 25), (3, 24), (2, 23), (1, 22), (0, 21)] hh mixed Sf fN rfl (by repeat (first | exact bT | refine bG ?_ | refine bW ?_)) ?_
      refine ek ?_;refine gH 0 ?_;refine ek ?_;refine gH 1 ?_;refine dC (fun _ hj => hmay _) ?_;refine D0 ?_;refine pK ?_;refine dS (dS (dS (dS ?_)));refine IM ?_;exact Ls
     | true =>
      rw [hm] at hmay;by_cases hz : x.c.d = 0
      ·have hs := hzz.2 hz;rw [hbad (vY hx (by unfold ni vL; rw [hm, SF hz]; rfl))];refine sr ?_;refine fj ?_;refine bX ?_;refine qJ ?_;refine bJ hh ?_;intro b4 w4 hh;refine aI ?_;refine bK hh 0 [_,_,_,_] ?_;intro ws hh;replace hh : Hp _ (.blk _ _ [_, _, _, _] _ :: _) _ := hh;refine aa (ah ?_)
       refine eM [] [] zL1 33 zL0 [(32, 53), (31, 52), (30, 51), (29, 50), (28, 49), (27, 48), (26, 47), (25, 46), (24, 45), (23, 44), (22, 43), (21, 42), (20, 41), (19, 40), (18, 39), (17, 38), (16, 37), (15, 36), (14, 35), (13, 34), (12, 33), (11, 32), (10, 31), (9, 30), (8, 29), (7, 28), (6, 27), (5, 26), (4, 25), (3, 24), (2, 23), (1, 22), (0, 21)] hh mixed Sf fN rfl (by repeat (first | exact bT | refine bG ?_ | refine bW ?_)) ?_
       refine ek ?_;refine gH 0 ?_;refine ek ?_;refine gH 1 ?_;refine dC (fun _ hj => hmay _) ?_;refine D0 ?_;refine pK ?_;refine dG (ek ?_);refine dG (eX 0 [_,_,_] ?_);refine xJ ?_;refine dG (zu ?_);refine KK ?_;exact Ls
      ·have hs : ¬ x.c.i.sign = 0 := fun h => hz (hzz.1 h);by_cases hnf : nR x.c.d = x.c
       ·have hgood : ni v x = true := by unfold ni vL; rw [hm, SQ hz, (rn x.c).2 hnf]; rfl
        have hall2 : (ts.take (i + 1)).all (ni v) = true := by rw [ay hx, List.all_append, hall]; simp [hgood]
        by_cases h0 : i = 0
        ·refine sr ?_;refine fj ?_;refine bX ?_;refine qJ ?_;refine bJ hh ?_;intro b4 w4 hh;refine aI ?_;refine bK hh 0 [_,_,_,_] ?_;intro ws hh;replace hh : Hp _ (.blk _ _ [_, _, _, _] _ :: _) _ := hh;refine aa (ah ?_)
         refine eM [] [] zL1 33 zL0 [(32, 53), (31, 52), (30, 51), (29, 50), (28, 49), (27, 48), (26, 47), (25, 46), (24, 45), (23, 44), (22, 43), (21, 42), (20, 41), (19, 40), (18, 39), (17, 38), (16, 37), (15, 36), (14, 35), (13, 34), (12, 33), (11, 32), (10, 31), (9, 30), (8, 29), (7, 28), (6, 27), (5, 26), (4, 25), (3, 24), (2, 23), (1, 22), (0, 21)] hh mixed Sf fN rfl (by repeat (first | exact bT | refine bG ?_ | refine bW ?_)) ?_
         refine ek ?_;refine gH 0 ?_;refine ek ?_;refine gH 1 ?_;refine dC (fun _ hj => hmay _) ?_;refine D0 ?_;refine pK ?_;refine dG (ek ?_);refine dG (eX 0 [_,_,_] ?_);refine xJ ?_;refine dG (zu ?_);refine KK ?_;refine pK ?_;refine dG (ek ?_);refine dG (eX 0 [_,_,_] ?_);refine CD ?_;refine dG (ek ?_);refine dG (eX 0 [_,_,_] ?_);refine HB ?_;refine KK ?_;refine pK ?_;refine dG (eH ?_);refine dG (MU ?_);refine dG (pK ?_);refine dS (dS (dS (dS ?_)));refine wZ (i := 28) rfl (fun ρ1 w1 hj hR => (show ρ1 44 = Value.bool _ from hR.2.2.1)) Se ?_;refine dS (dS (dS (dS ?_)));refine aR ?_;intro f W hJ hV _;have hb_8 := hJ.bl;obtain ⟨v53, v52, v51, v50, v49, v48, v47, v46, v45, v44, v43, v42, v41, v40, v39, v38, v37, v36, v35, v34, v33, v32, v31, v30, v29, v28, v27, v26, v25, v24, v23, v22, v21, _⟩ := hV;replace hh := hJ.hp;refine BT ?_;dsimp only [ck];clear hJ;refine gS (gT ?_)
         (first | refine fV ?_ | refine fa ?_)
         refine fa ?_;refine yP ?_;refine a9 (mI (az (ai ?_)));replace hh := hh.sub (Sm _ (Sk _ SD));refine ⟨⟨i + 1, Sd, rfl, hall2, by rw [ay hx, h0]; rfl, hh⟩, by show n - (i + 1) < n - i; omega, ?_⟩;exact eB
        ·obtain ⟨q, hq⟩ : ∃ q, i = q + 1 := ⟨i - 1, Sd⟩;obtain ⟨p, hp⟩ := av (l := ts) (k := q) Sd
         cases hlp : iV p.m x.m with
         | false =>
          rw [hbad (FG hp (hq ▸ hx) hlp)];have hge : (!(Op.bytesLess p.m.toList x.m.toList)) = true := by rw [pq, hlp]; rfl
          refine sr ?_;refine fj ?_;refine bX ?_;refine qJ ?_;refine bJ hh ?_;intro b4 w4 hh;refine aI ?_;refine bK hh 0 [_,_,_,_] ?_;intro ws hh;replace hh : Hp _ (.blk _ _ [_, _, _, _] _ :: _) _ := hh;refine aa (ah ?_)
          refine eM [] [] zL1 33 zL0 [(32, 53), (31, 52), (30, 51), (29, 50), (28, 49), (27, 48), (26, 47), (25, 46), (24, 45), (23, 44), (22, 43), (21, 42), (20, 41), (19, 40), (18, 39), (17, 38), (16, 37), (15, 36), (14, 35), (13, 34), (12, 33), (11, 32), (10, 31), (9, 30), (8, 29), (7, 28), (6, 27), (5, 26), (4, 25), (3, 24), (2, 23), (1, 22), (0, 21)] hh mixed Sf fN rfl (by repeat (first | exact bT | refine bG ?_ | refine bW ?_)) ?_
          refine ek ?_;refine gH 0 ?_;refine ek ?_;refine gH 1 ?_;refine dC (fun _ hj => hmay _) ?_;refine D0 ?_;refine pK ?_;refine dG (ek ?_);refine dG (eX 0 [_,_,_] ?_);refine xJ ?_;refine dG (zu ?_);refine KK ?_;refine pK ?_;refine dG (ek ?_);refine dG (eX 0 [_,_,_] ?_);refine CD ?_;refine dG (ek ?_);refine dG (eX 0 [_,_,_] ?_);refine HB ?_;refine KK ?_;refine pK ?_;refine dG (eH ?_);refine dG (MU ?_);refine dG (pK ?_);refine dG (ek ?_);refine dG (gH 1 ?_);refine dG (eH ?_);refine dG (Be ?_);refine dG (qe (q) ?_);refine dG (NM ?_);refine dG (wJ (fun _ hj => ((hr.ext hj.hp.below).recAt TR.len hp).cell (i := 0) rfl) ?_);refine dG (ek ?_);refine dG (gH 0 ?_);refine aR ?_;intro f W hJ hV _;have hb_8 := hJ.bl;obtain ⟨v53, v52, v51, v50, v49, v48, v47, v46, v45, v44, v43, v42, v41, v40, v39, v38, v37, v36, v35, v34, v33, v32, v31, v30, v29, v28, v27, v26, v25, v24, v23, v22, v21, _⟩ := hV;replace hh := hJ.hp;refine BT ?_;dsimp only [ck];clear hJ;refine gT ?_;refine vI rfl rfl Se ?_;refine gT ?_
          (first | refine fV ?_ | refine fa ?_)
          refine fa ?_;refine aa ?_;rw [hge];refine cT (sr (aI (aa (au (bQ (aG (aG (bQ (aG ?_)))))))));refine da ?_;exact ⟨rfl, hh.below⟩
         | true =>
          have hge : (!(Op.bytesLess p.m.toList x.m.toList)) = false := by rw [pq, hlp]; rfl
          refine sr ?_;refine fj ?_;refine bX ?_;refine qJ ?_;refine bJ hh ?_;intro b4 w4 hh;refine aI ?_;refine bK hh 0 [_,_,_,_] ?_;intro ws hh;replace hh : Hp _ (.blk _ _ [_, _, _, _] _ :: _) _ := hh;refine aa (ah ?_)
          refine eM [] [] zL1 33 zL0 [(32, 53), (31, 52), (30, 51), (29, 50), (28, 49), (27, 48), (26, 47), (25, 46), (24, 45), (23, 44), (22, 43), (21, 42), (20, 41), (19, 40), (18, 39), (17, 38), (16, 37), (15, 36), (14, 35), (13, 34), (12, 33), (11, 32), (10, 31), (9, 30), (8, 29), (7, 28), (6, 27), (5, 26), (4, 25), (3, 24), (2, 23), (1, 22), (0, 21)] hh mixed Sf fN rfl (by repeat (first | exact bT | refine bG ?_ | refine bW ?_)) ?_
          refine ek ?_;refine gH 0 ?_;refine ek ?_;refine gH 1 ?_;refine dC (fun _ hj => hmay _) ?_;refine D0 ?_;refine pK ?_;refine dG (ek ?_);refine dG (eX 0 [_,_,_] ?_);refine xJ ?_;refine dG (zu ?_);refine KK ?_;refine pK ?_;refine dG (ek ?_);refine dG (eX 0 [_,_,_] ?_);refine CD ?_;refine dG (ek ?_);refine dG (eX 0 [_,_,_] ?_);refine HB ?_;refine KK ?_;refine pK ?_;refine dG (eH ?_);refine dG (MU ?_);refine dG (pK ?_);refine dG (ek ?_);refine dG (gH 1 ?_);refine dG (eH ?_);refine dG (Be ?_);refine dG (qe (q) ?_);refine dG (NM ?_);refine dG (wJ (fun _ hj => ((hr.ext hj.hp.below).recAt TR.len hp).cell (i := 0) rfl) ?_);refine dG (ek ?_);refine dG (gH 0 ?_);refine aR ?_;intro f W hJ hV _;have hb_8 := hJ.bl;obtain ⟨v53, v52, v51, v50, v49, v48, v47, v46, v45, v44, v43, v42, v41, v40, v39, v38, v37, v36, v35, v34, v33, v32, v31, v30, v29, v28, v27, v26, v25, v24, v23, v22, v21, _⟩ := hV;replace hh := hJ.hp;refine BT ?_;dsimp only [ck];clear hJ;refine gT ?_;refine vI rfl rfl Se ?_;refine gT ?_
          (first | refine fV ?_ | refine fa ?_)
          refine fa ?_;refine aa ?_;rw [hge];refine cF (aq (bg (ai (al ?_))));refine a9 (mI (az (ai ?_)));replace hh := hh.sub (Sm _ (Sk _ SD));refine ⟨⟨i + 1, Sd, rfl, hall2, ?_, hh⟩, by show n - (i + 1) < n - i; omega, ?_⟩
          ·rw [hq, ay hp] at hris;rw [ay hx, hq, ay hp, S5];show sx (ts.take q ++ [p, x]) = true;rw [u9, hris, hlp]
           rfl
          ·exact eB
       ·rw [hbad (vY hx (by unfold ni vL; rw [hm, SQ hz, U8.2 (fun h => hnf ((rn x.c).1 h))]; rfl))];refine sr ?_;refine fj ?_;refine bX ?_;refine qJ ?_;refine bJ hh ?_;intro b4 w4 hh;refine aI ?_;refine bK hh 0 [_,_,_,_] ?_;intro ws hh;replace hh : Hp _ (.blk _ _ [_, _, _, _] _ :: _) _ := hh;refine aa (ah ?_)
        refine eM [] [] zL1 33 zL0 [(32, 53), (31, 52), (30, 51), (29, 50), (28, 49), (27, 48), (26, 47), (25, 46), (24, 45), (23, 44), (22, 43), (21, 42), (20, 41), (19, 40), (18, 39), (17, 38), (16, 37), (15, 36), (14, 35), (13, 34), (12, 33), (11, 32), (10, 31), (9, 30), (8, 29), (7, 28), (6, 27), (5, 26), (4, 25), (3, 24), (2, 23), (1, 22), (0, 21)] hh mixed Sf fN rfl (by repeat (first | exact bT | refine bG ?_ | refine bW ?_)) ?_
        refine ek ?_;refine gH 0 ?_;refine ek ?_;refine gH 1 ?_;refine dC (fun _ hj => hmay _) ?_;refine D0 ?_;refine pK ?_;refine dG (ek ?_);refine dG (eX 0 [_,_,_] ?_);refine xJ ?_;refine dG (zu ?_);refine KK ?_;refine pK ?_;refine dG (ek ?_);refine dG (eX 0 [_,_,_] ?_);refine CD ?_;refine dG (ek ?_);refine dG (eX 0 [_,_,_] ?_);refine DL (i := 18) rfl (fun ρ1 w1 hj hR => (show ρ1 33 = Value.bool _ from hR.2.2.1)) (fun ρ1 w1 hj hR => Ca (show ρ1 36 = Value.agg (List.toArray _) from hR.1) (show ρ1 38 = Value.agg (List.toArray _) from hR.2.1) (by assumption)) ?_;refine KK ?_;exact QO
    ·rw [Su Sd] at hall hris;rw [show fh v ts = 0 by unfold fh okB; rw [Si (by rw [hf]; decide), Si Sd, hall, hris]; rfl];refine sr ?_;refine Cx ?_;refine da ?_;exact ⟨rfl, hh.below⟩
def fK (v : Int) (t : TR) : Bool := eI t.m.data.toList && decide ((t.m.size : Int) = v)
theorem xP (z : TR) (v : Int) (b : Nat) (w : World) (hp : w.cell? ⟨b, 0, none⟩ = some (.int .i64 v)) (hz : z.m.size ≤ 100000) : Calls Tryz.prog 158 #[.agg #[.string z.m, .bool z.c.neg, .string z.c.bf, .int .i64 z.c.e], .pointer (some ⟨b, 0, none⟩)] w fun r w' => r = .returned (.bool (!fK v z)) ∧ Below w.heap.size w w' := by
 have hh := Hp.start w;have hmay := fun w1 => kL z.m v w1 Sd;unfold fK;refine aj (N := 9) (l := [.agg #[.string z.m, .bool z.c.neg, .string z.c.bf, .int .i64 z.c.e], .pointer (some ⟨b, 0, none⟩)]) Tryz.func158 rfl rfl (by simp) ?_;refine sr ?_;refine cq hh [_,_,_,_] ?_;intro b2 w2 hh;refine aB (aa (sr (bF ?_)));refine bE hh 0 ?_;refine cv aP.out rfl (cj hh.below hp) Se ?_;refine br hh (hmay _) rfl ?_;intro w7 hh
 cases eI z.m.data.toList && decide ((z.m.size : Int) = v) with
 | false =>
  refine fF ?_;exact vV
 | true =>
  refine fF ?_;exact vV
theorem ub (A : Option Addr) (n c : Nat) (l : List TR) (v : Int) (b : Nat) (w : World) (hS : Sl w A n 4 (aw TR.cells l)) (hn : n ≤ 1000000) (hp : w.cell? ⟨b, 0, none⟩ = some (.int .i64 v)) (hz : ∀ t ∈ l, t.m.size ≤ 100000) :
  Calls Tryz.prog 157 #[.slice A n c, .func (.func 158) #[] #[.pointer (some ⟨b, 0, none⟩)]] w fun r w' => r = .returned (.bool (l.any fun t => !fK v t)) ∧ Below w.heap.size w w' :=
 Bz A n c l 158 [.pointer (some ⟨b, 0, none⟩)] (fun t => !fK v t) w hS hn fun z w1 hz2 hb => xP z v b w1 (cj hb hp) (hz z hz2)
def q7 (v : Int) (l : List TR) : Int := if iJ v = false ∨ (l.any fun t => !fK v t) = true then 1 else if 65536 < l.length then 3 else fY l
theorem qo (v : Int) (A : Option Addr) (n c : Nat) (l : List TR) (k : Nat) (w : World) (hT : dD w) (hS : Sl w A n 4 (aw TR.cells l)) (hn : n ≤ 1000000) (hk : k ≤ 2999980) (ho : iA k l) (hz : ∀ t ∈ l, t.m.size ≤ 100000) :
  Calls Tryz.prog 72 #[.int .i64 v, .slice A n c] w fun r w' => ∃ g : PX, gh (q7 v l) v (aF l) g ∧ r = .returned (.tuple #[.agg #[.int .i64 g.v, .slice g.A g.n g.c], .int .i64 (q7 v l)]) ∧ Hp w [g.row] w' := by
 have hh := Hp.start w;have hln := hS.bz TR.len Se;have hfw := fun w1 => mJ v w1;have han := fun b w1 hb hp => ub A n c l v b w1 (hS.ext hb) hn hp hz
 cases hf : iJ v with
 | false =>
  rw [hf] at hfw;rw [show q7 v l = 1 by unfold q7; rw [Sj (.inl hf)]];refine DJ ?_;refine sr ?_;refine cq hh [_] ?_;intro b2 w2 hh;refine bJ hh ?_;intro b4 w4 hh;refine aI (aa (ah (sr ?_)));refine bE hh 1 ?_;refine br hh (hfw _) rfl ?_;intro w7 hh;refine fF ?_;refine mB ?_;refine gS (gS ?_);refine kP ?_;refine fV ?_;refine aa (cT (sr ?_));exact KL
 | true =>
  rw [hf] at hfw
  cases ha : l.any fun t => !fK v t with
  | true =>
   rw [ha] at han;rw [show q7 v l = 1 by unfold q7; rw [Sj (.inr ha)]];refine DJ ?_;refine sr ?_;refine cq hh [_] ?_;intro b2 w2 hh;refine bJ hh ?_;intro b4 w4 hh;refine aI (aa (ah (sr ?_)));refine bE hh 1 ?_;refine br hh (hfw _) rfl ?_;intro w7 hh;refine fF ?_;refine mB (gT (mL (gT ?_)));refine qS ?_;refine aH rfl rfl ?_;refine br hh (han _ _ hh.below (hh.dW (i := 1) (o := 0) rfl rfl)) rfl ?_;intro w12 hh;refine fa ?_;refine aa (cT (sr ?_));exact KL
  | false =>
   rw [ha] at han;have e1 : q7 v l = if 65536 < l.length then 3 else fY l := by unfold q7; rw [Si (by rw [hf, ha]; decide)]
   by_cases h6 : 65536 < n
   ·rw [e1, Sj Sd];refine DJ ?_;refine sr ?_;refine cq hh [_] ?_;intro b2 w2 hh;refine bJ hh ?_;intro b4 w4 hh;refine aI (aa (ah (sr ?_)));refine bE hh 1 ?_;refine br hh (hfw _) rfl ?_;intro w7 hh;refine fF ?_;refine mB (gT (mL (gT ?_)));refine qS ?_;refine aH rfl rfl ?_;refine br hh (han _ _ hh.below (hh.dW (i := 1) (o := 0) rfl rfl)) rfl ?_;intro w12 hh;refine fa ?_;refine aa (cF (aq (ai (ah (sr (mL (aK ?_)))))));refine cg (aa (cT (sr ?_)));exact KL
   ·rw [e1, Si Sd];refine DJ ?_;refine sr ?_;refine cq hh [_] ?_;intro b2 w2 hh;refine bJ hh ?_;intro b4 w4 hh;refine aI (aa (ah (sr ?_)));refine bE hh 1 ?_;refine br hh (hfw _) rfl ?_;intro w7 hh;refine fF ?_;refine mB (gT (mL (gT ?_)));refine qS ?_;refine aH rfl rfl ?_;refine br hh (han _ _ hh.below (hh.dW (i := 1) (o := 0) rfl rfl)) rfl ?_;intro w12 hh;refine fa ?_;refine aa (cF (aq (ai (ah (sr (mL (aK ?_)))))));refine cg (aa (cF (aq (ai (ah ?_)))));refine mR [] [0, 0, 2, 7, 15, 15, 63, 127] 3 [[(2, none)], [(1, none)], [(20, some 1)]] [(2, 21), (1, 20), (0, 19)] [([], 4, [(2, 21), (1, 20), (0, 19)])] hh mixed Sf Sf Se ?_;refine gH 1 ?_;refine iw ?_;refine a8 (i := 2) (we hh.sz 96 n 4 (aw TR.cells l)) (we.ext) ?_ ?_
    ·intro ρ1 w1 hj hR;exact bA rfl (aZ ak.out (aA (show ρ1 20 = Value.slice _ _ _ from hR.1) a7)) (lr A n c l w1 (hS.ext hj.hp.below) hn) (fun _ _ ⟨A, c, hq, ho, hb⟩ => ⟨_, hq, hb, A, c, rfl, eY ho hj.bl.size⟩)
    refine aR ?_;intro p_ hp_;simp only [SH, Vm, or_false] at hp_
    rcases hp_ with rfl
    intro f W hJ hV;have hb_5 := hJ.bl;obtain ⟨v21, v20, v19, _⟩ := hV;simp only [k5];have e19 : f 0 = _ := v19;rw [e19];have e20 : f 1 = _ := v20;rw [e20];obtain ⟨A21, c21, e21, o21⟩ : we _ _ _ _ _ (f 2) W := v21;rw [e21];replace hh := JJ.Ig hh hJ.hp o21;clear o21;clear e19 e20 e21 hJ;refine aC (ke v A21 n c21 l k _ hT hh hln Sd Sd ho) ak.out rfl Se ?_; rintro e_ w22 ⟨g, og, rfl, hh⟩; refine ⟨_, rfl, ?_⟩;refine eN ?_;refine cd (i := 4) (by repeat (first | exact bT | refine bG ?_ | refine bW ?_ | refine np_scope ?_)) rfl Sf Sf Sf (fun _ => de (show _ = Value.tuple (List.toArray _) from rfl) rfl) Se ?_;refine cd (i := 5) (by repeat (first | exact bT | refine bG ?_ | refine bW ?_ | refine np_scope ?_)) rfl Sf Sf Sf (fun _ => de (show _ = Value.tuple (List.toArray _) from rfl) rfl) Se ?_;refine lL 6 Se Sf Se Sf Sf ?_;exact CP
def PX.cells (g : PX) : List Value := [.int .i64 g.v, .slice g.A g.n g.c]
theorem PX.len (g : PX) : (PX.cells g).length = 2 := rfl
structure PX.kq (g : PX) (k : Nat) : Prop where
 n : g.n ≤ 1000000
 cap : g.n ≤ g.c
 ok : iA k g.ts
 sz : ∀ t ∈ g.ts, t.m.size ≤ 100000
def PX.e (g : PX) : Int := fh g.v g.ts
theorem mZ (g : PX) (k : Nat) (w : World) (hT : dD w) (h : g.at_ w) (hl : g.kq k) :
  Calls Tryz.prog 142 #[.agg #[.int .i64 g.v, .slice g.A g.n g.c]] w fun r w' => r = .returned (.int .i64 g.e) ∧ Below w.heap.size w w' :=
 wH g.v g.A g.n g.c g.ts w hT h hl.n fun t ht => ⟨(hl.ok t ht).1, hl.sz t ht⟩
def tZ (ps : List PX) : Bool := ps.any fun g => decide (g.v ≠ (ps.map PX.v).headD 0)
def fi (ps : List PX) : Int := match ps.find? (fun g => decide (g.e ≠ 0)) with | some g => g.e | none => if ps.length = 0 ∨ tZ ps = true then 1 else 0
theorem Bg (L : Option Addr) (n c : Nat) (ps : List PX) (f : PX) (p : Addr) (w : World) (hL : Sl w L n 2 (aw PX.cells ps)) (hp : w.cell? p = some (.slice L n c)) (hn : 0 < n) :
  Calls Tryz.prog 160 #[.agg #[.int .i64 f.v, .slice f.A f.n f.c], .pointer (some p)] w fun r w' => r = .returned (.bool (decide (f.v ≠ (ps.map PX.v).headD 0))) ∧ Below w.heap.size w w' := by
 have hh := Hp.start w;have hln := hL.bz PX.len Se;obtain ⟨g, ps, rfl⟩ : ∃ g l, ps = g :: l := by
  cases ps with
  | nil => exact absurd hln (by show ¬ 0 = n; omega)
  | cons g l => exact ⟨g, l, rfl⟩
 obtain ⟨ad, rfl, hr⟩ := hL.at_ hn;have hd : (((g :: ps).map PX.v).headD 0) = g.v := rfl;rw [hd];have h0 : (g :: ps)[0]? = some g := rfl;by_cases hg : f.v = g.v
 ·refine aj (N := 11) (l := [.agg #[.int .i64 f.v, .slice f.A f.n f.c], .pointer (some p)]) Tryz.func160 rfl rfl (by simp) ?_;refine sr ?_;refine cq hh [_,_] ?_;intro b2 w2 hh;refine aB (aa (ah ?_));refine LL ?_;refine ek ?_;refine gH 0 ?_;refine wJ (fun _ hj => (hj.hp.below.cell (lk hp)).trans hp) ?_;refine bB (i := 3) (fun ρ1 w1 hj hR => eT bq.out aP.size (show ρ1 6 = Value.slice _ _ _ from hR.1) rfl Sd Sd) ?_;refine NM ?_;refine wJ (fun _ hj => cj hj.hp.below (((hr.recAt PX.len h0)) 0 _ rfl)) ?_;refine aR ?_;intro f W hJ hV;have hb_1 := hJ.bl;obtain ⟨v9, v8, v7, v6, v5, v4, _⟩ := hV;replace hh := hJ.hp;refine aX (bp (ae v9 (ae v8 (ae v7 (ae v6 (ae v5 (ae v4 aW))))))) ?_;dsimp only [ck];clear hJ;exact Pq
 ·refine aj (N := 11) (l := [.agg #[.int .i64 f.v, .slice f.A f.n f.c], .pointer (some p)]) Tryz.func160 rfl rfl (by simp) ?_;refine sr ?_;refine cq hh [_,_] ?_;intro b2 w2 hh;refine aB (aa (ah ?_));refine LL ?_;refine ek ?_;refine gH 0 ?_;refine wJ (fun _ hj => (hj.hp.below.cell (lk hp)).trans hp) ?_;refine bB (i := 3) (fun ρ1 w1 hj hR => eT bq.out aP.size (show ρ1 6 = Value.slice _ _ _ from hR.1) rfl Sd Sd) ?_;refine NM ?_;refine wJ (fun _ hj => cj hj.hp.below (((hr.recAt PX.len h0)) 0 _ rfl)) ?_;refine aR ?_;intro f W hJ hV;have hb_1 := hJ.bl;obtain ⟨v9, v8, v7, v6, v5, v4, _⟩ := hV;replace hh := hJ.hp;refine aX (bp (ae v9 (ae v8 (ae v7 (ae v6 (ae v5 (ae v4 aW))))))) ?_;dsimp only [ck];clear hJ;exact NZ
theorem AE (A : Option Addr) (n c : Nat) (l : List PX) (g : FuncId) (cap : List Value) (p : PX → Bool) (w : World) (hS : Sl w A n 2 (aw PX.cells l)) (hn : n ≤ 1000000) [ak Tryz.prog g]
  (hg : ∀ (z : PX) (w1 : World), z ∈ l → Below w.heap.size w w1 → Calls Tryz.prog g (.agg #[.int .i64 z.v, .slice z.A z.n z.c] :: cap).toArray w1 fun r w' => r = .returned (.bool (p z)) ∧ Below w1.heap.size w1 w') :
  Calls Tryz.prog 204 #[.slice A n c, .func (.func g) #[] cap.toArray] w fun r w' => ∃ v, r = .returned (.int .i64 v) ∧ (0 ≤ v ↔ l.any p = true) ∧ Below w.heap.size w w' := by
 have hh := Hp.start w;have hln := hS.bz PX.len Se;refine aj (N := 19) (l := [.slice A n c, .func (.func g) #[] cap.toArray]) Tryz.func204 rfl rfl (by simp) ?_;refine zk ?_;refine aN [4, 5, 8, 9, 10, 11, 12, 13, 14, 15, 16, 17, 18] 8
  (fun v w' => ∃ i : Nat, i ≤ n ∧ v = .int .i64 i ∧ (l.take i).any p = false ∧ Hp w [] w')
  (fun v _ => n - (intOf v).toNat) ?_ ?_
 ·exact ⟨0, Sn _, rfl, rfl, hh⟩
 ·clear hh;rintro ρ' v w' ⟨i, hi, rfl, hall, hh⟩;by_cases hlt : i < n
  ·obtain ⟨z, hz⟩ := av (l := l) (k := i) Sd;obtain ⟨ad, rfl, hr⟩ := hS.at_ Sd;have hc := fun w1 => hg z w1 (Sp hz)
   cases gz : p z with
   | true =>
    rw [gz] at hc;refine sr ?_;refine qT ?_;refine ix ?_;refine mL (mI ?_);refine bX ?_;refine ct (vs := [_, _]) aP.out rfl ((hr.ext hh.below).recAt PX.len hz) rfl Se ?_;exact Np
   | false =>
    rw [gz] at hc;refine sr ?_;refine qT ?_;refine ix ?_;refine mL (mI ?_);refine bX ?_;refine ct (vs := [_, _]) aP.out rfl ((hr.ext hh.below).recAt PX.len hz) rfl Se ?_;exact B9
  ·exact Mb
theorem rZ (A : Option Addr) (n c : Nat) (l : List PX) (g : FuncId) (cap : List Value) (p : PX → Bool) (w : World) (hS : Sl w A n 2 (aw PX.cells l)) (hn : n ≤ 1000000) [ak Tryz.prog g]
  (hg : ∀ (z : PX) (w1 : World), z ∈ l → Below w.heap.size w w1 → Calls Tryz.prog g (.agg #[.int .i64 z.v, .slice z.A z.n z.c] :: cap).toArray w1 fun r w' => r = .returned (.bool (p z)) ∧ Below w1.heap.size w1 w') :
  Calls Tryz.prog 154 #[.slice A n c, .func (.func g) #[] cap.toArray] w fun r w' => r = .returned (.bool (l.any p)) ∧ Below w.heap.size w w' := by
 have hh := Hp.start w;refine aj (N := 9) (l := [.slice A n c, .func (.func g) #[] cap.toArray]) Tryz.func154 rfl rfl (by simp) ?_;refine sr (aB (aa (sr (mL ?_))));refine ix ?_;refine aC (AE A n c l g cap p _ (hS.ext hh.below) hn hg) ak.out rfl Se ?_;exact Mo
theorem qz (L : Option Addr) (n c : Nat) (ps : List PX) (k : Nat) (w : World) (hT : dD w) (hL : Sl w L n 2 (aw PX.cells ps)) (hn : n ≤ 1000000) (hf : ∀ g ∈ ps, g.at_ w) (hl : ∀ g ∈ ps, g.kq k) :
  Calls Tryz.prog 74 #[.slice L n c] w fun r w' => r = .returned (.int .i64 (fi ps)) ∧ Below w.heap.size w w' := by
 have hh := Hp.start w;have hln := hL.bz PX.len Se;refine aj (N := 26) (l := [.slice L n c]) Tryz.func74 rfl rfl (by simp) ?_;refine sr ?_;refine cq hh [_] ?_;intro b1 w1 hh;refine aI (aa (ah (sr ?_)));refine bE hh 0 ?_;refine aK (mI (aa (ao ?_)));refine aN [2, 4, 5, 8, 9, 10, 11, 12, 13, 14, 15, 16, 17] 8
  (fun v w' => ∃ i : Nat, i ≤ n ∧ v = .int .i64 i ∧ (ps.take i).any (fun g => decide (g.e ≠ 0)) = false ∧ Hp w [.blk b1 104 [.slice L n c] (0, 0)] w')
  (fun v _ => n - (intOf v).toNat) ?_ ?_
 ·exact ⟨0, Sn _, rfl, rfl, hh⟩
 ·clear hh;rintro ρ' v w' ⟨i, hi, rfl, hall, hh⟩;by_cases hlt : i < n
  ·obtain ⟨g, hx⟩ := av (l := ps) (k := i) Sd;have hmem := Sp hx;have hc := fun w1 hT1 hb => mZ g k w1 hT1 ((hf g hmem).ext hb) (hl g hmem);obtain ⟨ad, rfl, hr⟩ := hL.at_ Sd;by_cases he : g.e = 0
   ·refine sr ?_;refine dq ?_;refine bX ?_;refine F6 ?_;refine bJ hh ?_;intro b4 w4 hh;refine bK hh 0 [_,_] ?_;intro ws hh;replace hh : Hp _ (.blk _ _ [_, _] _ :: _) _ := hh;refine aa (sr ?_);refine cu hh 0 [_,_] ?_;refine br hh (hc _ (hT.hp hh) hh.below) rfl ?_;intro w13 hh;refine aI (aa (sr (mI ?_)));refine cX (aa (cF (aq (bg (ai (al ?_))))));refine a9 (mI (az (ai ?_)));replace hh := hh.sub (Sm _ (Sk _ SD));refine ⟨⟨i + 1, Sd, rfl, by rw [ay hx, Ve, hall, UQ, Va, SQ Sd]; rfl, hh⟩, by show n - (i + 1) < n - i; omega, ?_⟩;exact eB
   ·refine sr ?_;refine dq ?_;refine bX ?_;refine F6 ?_;refine bJ hh ?_;intro b4 w4 hh;refine bK hh 0 [_,_] ?_;intro ws hh;replace hh : Hp _ (.blk _ _ [_, _] _ :: _) _ := hh;refine aa (sr ?_);refine cu hh 0 [_,_] ?_;refine br hh (hc _ (hT.hp hh) hh.below) rfl ?_;intro w13 hh;refine aI (aa (sr (mI ?_)));refine cX (aa (cT (sr (mI (aI (aa (au (bQ (aG (aG (bQ (aG ?_))))))))))));refine da ?_;refine ⟨?_, hh.below⟩;unfold fi;rw [uS hall hx (SF he)]
  ·rw [Su Sd] at hall;have hlk : fi ps = if ps.length = 0 ∨ tZ ps = true then 1 else 0 := by unfold fi; rw [iQ hall]
   rw [hlk];by_cases h0 : n = 0
   ·refine sr ?_;refine Gb ?_;refine bE hh 0 ?_;refine aK ?_;refine cH (mB ?_);refine gS (gS ?_);refine kP ?_;refine fV ?_;refine xS ?_;refine da ?_;exact ⟨by rw [Sj (.inl Sd)], hh.below⟩
   ·have hcell : w'.cell? ⟨b1, 0, none⟩ = some (.slice L n c) := hh.dW (i := 0) rfl rfl;have ho := fun w1 hb => rZ L n c ps 160 [.pointer (some ⟨b1, 0, none⟩)] (fun g => decide (g.v ≠ (ps.map PX.v).headD 0)) w1 (hL.ext (hh.below.trans (hb.mono hh.below.size))) hn (fun z w2 hz hb2 => Bg L n c ps z ⟨b1, 0, none⟩ w2 ((hL.ext (hh.below.trans (hb.mono hh.below.size))).ext hb2) (cj hb2 (cj hb hcell)) Sd)
    cases hod : tZ ps with
    | true =>
     have hod2 : ps.any (fun g => decide (g.v ≠ (ps.map PX.v).headD 0)) = true := hod;rw [hod2] at ho;refine sr ?_;refine Gb ?_;refine bE hh 0 ?_;refine aK ?_;refine cH (mB (gT ?_));refine bE hh 0 ?_;refine gT ?_;refine qS ?_;refine aH rfl rfl ?_;refine br hh (ho _ (Below.refl _ _)) rfl ?_;intro w24 hh;refine fa ?_;refine xS ?_;refine da ?_;exact ⟨by rw [Sj (.inr rfl)], hh.below⟩
    | false =>
     have hod2 : ps.any (fun g => decide (g.v ≠ (ps.map PX.v).headD 0)) = false := hod;rw [hod2] at ho;refine sr ?_;refine Gb ?_;refine bE hh 0 ?_;refine aK ?_;refine cH (mB (gT ?_));refine bE hh 0 ?_;refine gT ?_;refine qS ?_;refine aH rfl rfl ?_;refine br hh (ho _ (Below.refl _ _)) rfl ?_;intro w24 hh;refine fa ?_;refine aa (cF (aq (ai (sr (aI (aa (au ?_)))))));refine da ?_;refine ⟨?_, hh.below⟩;rw [Si];rintro (h | h)
     ·omega
     ·cases h
set_option maxRecDepth 100000 in
theorem AK {H : Type} {enc : TypeId × Value → H} {sp : Nat → Bool} {x : DataW H × List MemPlace} (h : DataW.trod enc Tryz.prog W base sp held fuel 96 cs = some x) :
  ∃ t : TR, cs = t.cells ∧ True := by
 have c0 : Tryz.prog.cellsOf 96 = 4 := by kernel_rfl
 have c1 : Tryz.prog.cellsOf 9 = 1 := by kernel_rfl
 have c2 : Tryz.prog.cellsOf 65 = 3 := by kernel_rfl
 obtain ⟨y0, y1, n, _, hl, h0, h1⟩ := trod_struct2 Tryz.underlying96 h;obtain ⟨s, e0, _, _⟩ := DataW.trod_string Tryz.underlying9 h0;obtain ⟨a, e1, _⟩ := pU h1;rw [c0] at hl
 match cs, hl with
 | [x0, x1, x2, x3], _ =>
  simp only [c1, c2] at e0 e1;unfold NR.cells at e1;simp at e0 e1;obtain ⟨e1, e2, e3⟩ := e1;subst e0 e1 e2 e3;exact ⟨⟨s, a⟩, rfl, trivial⟩
set_option maxRecDepth 100000 in
theorem Aw {H : Type} {enc : TypeId × Value → H} {sp : Nat → Bool} {x : DataW H × List MemPlace} (h : DataW.trod enc Tryz.prog W base sp held fuel 24 cs = some x) :
  ∃ g : PX, cs = g.cells ∧ (g.at_ W ∧ g.n ≤ g.c) := by
 have c0 : Tryz.prog.cellsOf 24 = 2 := by kernel_rfl
 have c1 : Tryz.prog.cellsOf 3 = 1 := by kernel_rfl
 have c2 : Tryz.prog.cellsOf 22 = 1 := by kernel_rfl
 obtain ⟨y0, y1, n, _, hl, h0, h1⟩ := trod_struct2 Tryz.underlying24 h;obtain ⟨z, e0, _, _⟩ := DataW.trod_int Tryz.underlying3 h0;obtain ⟨B, m, b, k, e1, s1, _⟩ := An TR.len Se Tryz.underlying22 Sf (fun _ _ _ h => AK h) h1;rw [e1] at h1;have hroom := Ex Tryz.underlying22 h1;rw [c0] at hl
 match cs, hl with
 | [x0, x1], _ =>
  simp only [c1, c2] at e0 e1;simp at e0 e1;subst e0 e1;exact ⟨⟨z, B, m, b, k⟩, rfl, s1, hroom⟩
set_option maxRecDepth 100000 in
theorem EM {H : Type} {enc : TypeId × Value → H} {r : Reach} {sp : Nat → Bool} {v : Value} {d : DataW H} {ps : List MemPlace}
  (hval : Value.okWide Tryz.prog W r b0 24 v) (hd : DataW.Trod enc Tryz.prog W base sp held 24 v d ps) : ∃ g : PX, v = .agg #[.int .i64 g.v, .slice g.A g.n g.c] ∧ g.at_ W ∧ g.n ≤ g.c := by
 obtain ⟨cs, rfl, _⟩ := okWide_struct Tryz.underlying24 hval;obtain ⟨fuel, hf⟩ := hd;obtain ⟨f, h1, h2⟩ := Aw hf;refine ⟨f, ?_, h2⟩;have h3 : cs.toList = f.cells := h1;rw [← Array.toList_inj.1 (show cs.toList = (#[.int .i64 f.v, .slice f.A f.n f.c] : Array Value).toList from h3)]
structure SR where
 lo : NR
 hi : NR
def SR.cells (s : SR) : List Value := [.bool s.lo.neg, .string s.lo.bf, .int .i64 s.lo.e, .bool s.hi.neg, .string s.hi.bf, .int .i64 s.hi.e]
theorem SR.len (s : SR) : (SR.cells s).length = 6 := rfl
theorem SR.one (s : SR) : (SR.cells s).all Value.oneCell' = true := rfl
def HO (x y : Dyadic) : Dyadic := if y < x then y else x
def Hk (x y : Dyadic) : Dyadic := if x < y then y else x
theorem IA (x y : Dyadic) : iu (fun x y => decide (x < y)) [x, y] = HO x y := by simp [iu, HO]
theorem Gm (x y : Dyadic) : iu (fun x y => decide (y < x)) [x, y] = Hk x y := by simp [iu, Hk]
def SR.L (s : SR) : Dyadic := HO s.lo.d s.hi.d
def SR.H (s : SR) : Dyadic := Hk s.lo.d s.hi.d
def SR.f (s : SR) : SR := ⟨nR s.L, nR s.H⟩
def SR.ok (s : SR) : Prop := s.lo.ok ∧ s.hi.ok
def SR.has (s : SR) (x : Dyadic) : Bool := decide (¬ x < s.L ∧ ¬ s.H < x)
def SR.wid (s : SR) : Dyadic := s.H - s.L
def SR.lP (s : SR) : Dyadic := (s.lo.d + s.hi.d) * cf (-1)
theorem Mx (x y : Dyadic) : HO x y = x ∨ HO x y = y := by unfold HO; split <;> simp
theorem Md (x y : Dyadic) : Hk x y = x ∨ Hk x y = y := by unfold Hk; split <;> simp
theorem Hh (x y : Dyadic) : ¬ Hk x y < HO x y := by unfold Hk HO; split <;> split <;> grind
structure rQ (k : Nat) (a : NR) : Prop where
 ok : a.ok
 sz : Sz k a.d
def SR.fin (k : Nat) (s : SR) : Prop := rQ k s.lo ∧ rQ k s.hi
theorem rQ.of {x : Dyadic} (h : Sz k x) (hk : k ≤ 3000000) : rQ k (nR x) := ⟨h.ok Sd, by rw [cn]; exact h⟩
theorem SR.PY {s : SR} (h : s.fin k) : Sz k s.L := by
 unfold SR.L
 rcases Mx s.lo.d s.hi.d with e | e <;> rw [e]
 ·exact h.1.sz
 ·exact h.2.sz
theorem SR.P6 {s : SR} (h : s.fin k) : Sz k s.H := by
 unfold SR.H
 rcases Md s.lo.d s.hi.d with e | e <;> rw [e]
 ·exact h.1.sz
 ·exact h.2.sz
theorem SR.ym {s : SR} (h : s.fin k) (hk : k ≤ 3000000) : s.f.fin k := ⟨rQ.of (SR.PY h) hk, rQ.of (SR.P6 h) hk⟩
theorem Bk (L : Option Addr) (n c : Nat) (l : List NR) (w : World) (hT : dD w) (hS : Sl w L n 3 (aw NR.cells l)) (hl : ∀ a ∈ l, a.ok) (hn : n ≤ 1000000) :
  Calls Tryz.prog 236 #[.slice L n c] w fun r w' => r = .returned (.agg (SR.cells ⟨nR (iu (fun x y => decide (x < y)) (l.map NR.d)), nR (iu (fun x y => decide (y < x)) (l.map NR.d))⟩).toArray) ∧ Below w.heap.size w w' := by
 have hh := Hp.start w;refine aj (N := 8) (l := [.slice L n c]) Tryz.func236 rfl rfl (by simp) ?_;refine sr ?_;refine bJ hh ?_;intro b2 w2 hh;refine aa (sr (mL ?_));refine br hh (AJ L n c l _ (hT.hp hh) (hS.ext hh.below) hl hn) rfl ?_;intro w4 hh;refine mL ?_;refine br hh (Ad L n c l _ (hT.hp hh) (hS.ext hh.below) hl hn) rfl ?_;intro w6 hh;refine gg [_,_,_,_,_,_] ?_;exact Nj
theorem AQ (s : SR) (w : World) (hT : dD w) (hs : s.ok) :
  Calls Tryz.prog 203 #[.agg s.cells.toArray] w fun r w' => r = .returned (.agg s.f.cells.toArray) ∧ Below w.heap.size w w' := by
 have hh := Hp.start w;have hc := fun L c w1 hT1 hS1 => Bk L 2 c [s.lo, s.hi] w1 hT1 hS1 (by simpa using show s.lo.ok ∧ s.hi.ok from hs) Sd;simp only [SW, Tx, IA, Gm] at hc;refine aj (N := 10) (l := [.agg s.cells.toArray]) Tryz.func203 rfl rfl (by simp) ?_;refine sr ?_;refine cq hh [_,_,_,_,_,_] ?_;intro b1 w1 hh;refine bJ hh ?_;intro b2 w2 hh;refine aa (sr (bF ?_));refine cu hh 1 [_,_,_] (bF ?_);refine cu hh 1 [_,_,_] ?_;refine u2 ?_;intro b7 w7 hh;refine br hh (hc _ _ _ (hT.hp hh) (hh.aD (i := 0) rfl)) rfl ?_;intro w8 hh;refine gg [_,_,_,_,_,_] ?_;refine bK hh 1 [_,_,_,_,_,_] ?_;intro ws hh;replace hh : Hp _ (_ :: .blk _ _ [_, _, _, _, _, _] _ :: _) _ := hh;refine aa (au ?_);refine II (dy rfl (dz (vs := [_, _, _, _, _, _]) aP.out (hh.bH (i := 1) (n := 6) rfl rfl) rfl) fq) ?_;exact ⟨rfl, hh.below⟩
theorem vK (s : SR) (w : World) (hT : dD w) (hs : s.ok) :
  Calls Tryz.prog 171 #[.agg s.cells.toArray] w fun r w' => r = .returned (.agg s.f.cells.toArray) ∧ Below w.heap.size w w' := by
 have hh := Hp.start w;refine aj (N := 6) (l := [.agg s.cells.toArray]) Tryz.func171 rfl rfl (by simp) ?_;refine sr ?_;refine cq hh [_,_,_,_,_,_] ?_;intro b1 w1 hh;refine bJ hh ?_;intro b2 w2 hh;refine aa (sr ?_);refine cu hh 1 [_,_,_,_,_,_] ?_;refine br hh (AQ s _ (hT.hp hh) hs) rfl ?_;intro w4 hh;refine Kv eO.out aP.out rfl rfl Se ?_;exact Nj
theorem yY (s : SR) (k : Nat) (w : World) (hT : dD w) (hs : s.fin k) (hk : k ≤ 3000000) :
  Calls Tryz.prog 97 #[.agg s.cells.toArray] w fun r w' => r = .returned (.agg #[.bool (nR s.lP).neg, .string (nR s.lP).bf, .int .i64 (nR s.lP).e]) ∧ Below w.heap.size w w' := by
 have hh := Hp.start w;have hc := fun L c w1 hT1 hS1 => iG L 2 c [s.lo, s.hi] w1 hT1 hS1 (by simpa using And.intro hs.1.ok hs.2.ok) k (by simpa using And.intro hs.1.sz hs.2.sz) Sd;simp only [SW, Tx, kx] at hc;have ho := (hs.1.sz.add hs.2.sz).ok Sd;have hsh := fun w1 hT1 => lz (nR (s.lo.d + s.hi.d)) (-1) w1 hT1 (by have := ho.1; omega) (by have := ho.2; omega) (by have := ho.2; omega) Sd Sd;rw [cn] at hsh;refine aj (N := 10) (l := [.agg s.cells.toArray]) Tryz.func97 rfl rfl (by simp) ?_;refine sr ?_;refine cq hh [_,_,_,_,_,_] ?_;intro b1 w1 hh;refine bJ hh ?_;intro b2 w2 hh;refine aa (sr (bF ?_));refine cu hh 1 [_,_,_] (bF ?_);refine cu hh 1 [_,_,_] ?_;refine u2 ?_;intro b7 w7 hh;refine br hh (hc _ _ _ (hT.hp hh) (hh.aD (i := 0) rfl)) rfl ?_;intro w8 hh;refine br hh (hsh _ (hT.hp hh)) rfl ?_;intro w9 hh;exact Nf
set_option maxRecDepth 100000 in
theorem Bc {H : Type} {enc : TypeId × Value → H} {sp : Nat → Bool} {x : DataW H × List MemPlace} (h : DataW.trod enc Tryz.prog W base sp held fuel 81 cs = some x) :
  ∃ a : SR, cs = a.cells ∧ True := by
 have c0 : Tryz.prog.cellsOf 81 = 6 := by kernel_rfl
 have c1 : Tryz.prog.cellsOf 65 = 3 := by kernel_rfl
 obtain ⟨y0, y1, n, _, hl, h0, h1⟩ := trod_struct2 Tryz.underlying81 h;obtain ⟨a, e0, _⟩ := pU h0;obtain ⟨b, e1, _⟩ := pU h1;rw [c0] at hl
 match cs, hl with
 | [x0, x1, x2, x3, x4, x5], _ =>
  simp only [c1] at e0 e1;simp [NR.cells] at e0 e1;obtain ⟨rfl, rfl, rfl⟩ := e0;obtain ⟨rfl, rfl, rfl⟩ := e1;exact ⟨⟨a, b⟩, rfl, trivial⟩
set_option maxRecDepth 100000 in
theorem H5 {H : Type} {enc : TypeId × Value → H} {r : Reach} {sp : Nat → Bool} {v : Value} {d : DataW H} {ps : List MemPlace}
  (hval : Value.okWide Tryz.prog W r b0 34 v) (hd : DataW.Trod enc Tryz.prog W base sp held 34 v d ps) : ∃ (A : Option Addr) (n c : Nat) (l : List SR), v = .slice A n c ∧ Sl W A n 6 (aw SR.cells l) ∧ ∀ a ∈ l, True :=
 vx SR.len Se Tryz.underlying34 Sf (fun _ _ _ h => Bc h) hval hd
def sm {α : Type} : List α → (α → Dyadic) → Dyadic
 | [], _ => 0
 | a :: l, f => f a + sm l f
section
variable {α β : Type}
theorem mP (l m : List α) (f : α → Dyadic) : sm (l ++ m) f = sm l f + sm m f := by
 induction l with
 | nil => simp [sm, Ur]
 | cons a l ih => simp only [Sv, sm, ih]; grind
theorem jt (l : List α) (a : α) (f : α → Dyadic) : sm (l ++ [a]) f = sm l f + f a := by
 rw [mP]; simp only [sm]; grind
theorem aY {l : List α} {f g : α → Dyadic} (h : ∀ a ∈ l, f a = g a) : sm l f = sm l g := by
 induction l with
 | nil => rfl
 | cons a l ih => rw [sm, sm, h a Sq, ih fun b hb => h b (SA _ hb)]
theorem nY {l : List α} {f : α → Dyadic} (h : ∀ a ∈ l, f a = 0) : sm l f = 0 := by
 induction l with
 | nil => rfl
 | cons a l ih => rw [sm, h a Sq, ih fun b hb => h b (SA _ hb)]; grind
theorem wL (l : List α) (f g : α → Dyadic) : sm l (fun a => f a + g a) = sm l f + sm l g := by
 induction l with
 | nil => simp [sm]
 | cons a l ih => simp only [sm, ih]; grind
theorem jO (l : List α) (f : α → Dyadic) (c : Dyadic) : sm l (fun a => f a * c) = sm l f * c := by
 induction l with
 | nil => simp only [sm]; grind
 | cons a l ih => simp only [sm, ih]; grind
theorem gy (l : List α) (f : α → Dyadic) (c : Dyadic) : sm l (fun a => c * f a) = c * sm l f := by
 induction l with
 | nil => simp only [sm]; grind
 | cons a l ih => simp only [sm, ih]; grind
theorem pP (l : List α) (g : α → β) (f : β → Dyadic) : sm (l.map g) f = sm l fun a => f (g a) := by
 induction l with
 | nil => rfl
 | cons a l ih => rw [SW, sm, sm, ih]
theorem lI (l : List α) (m : List β) (f : α → β → Dyadic) : sm l (fun a => sm m (f a)) = sm m fun b => sm l fun a => f a b := by
 induction l with
 | nil => exact (nY fun b _ => rfl).symm
 | cons a l ih => simp only [sm]; rw [ih, ← wL]
theorem E3 (l : List α) (p : α → Bool) (f : α → Dyadic) (h : ∀ a ∈ l, p a = false → f a = 0) : sm (l.filter p) f = sm l f := by
 induction l with
 | nil => rfl
 | cons a l ih =>
  rw [sm, ← ih fun b hb => h b (SA _ hb)]
  cases hp : p a with
  | true => rw [List.filter_cons_of_pos hp, sm]
  | false => rw [List.filter_cons_of_neg (by rw [hp]; exact Bool.false_ne_true), h a Sq hp]; grind
theorem pk (n p : Nat) (c : Dyadic) : sm (List.range n) (fun q => if q = p then c else 0) = if p < n then c else 0 := by
 induction n with
 | zero => rw [Si Sd]; rfl
 | succ n ih =>
  rw [Uv, jt, ih]
  rcases Nat.lt_trichotomy p n with h | h | h
  ·rw [Sj h, Si (show ¬ n = p by omega), Sj (show p < n + 1 by omega)]; grind
  ·rw [Si (show ¬ p < n by omega), Sj h.symm, Sj (show p < n + 1 by omega)]; grind
  ·rw [Si (show ¬ p < n by omega), Si (show ¬ n = p by omega), Si (show ¬ p < n + 1 by omega)]; grind
end
def m6 (N : Nat) (L : List (Nat × Dyadic)) : List Dyadic := (List.range N).map fun p => sm L fun q => if q.1 = p then q.2 else 0
theorem kG (N : Nat) (L : List (Nat × Dyadic)) : (m6 N L).length = N := by simp [m6]
theorem sV (N : Nat) : m6 N [] = List.replicate N 0 := by
 refine List.ext_getElem (by simp [m6]) fun i h1 h2 => ?_;simp [m6, sm]
theorem mY {p : Nat} (L : List (Nat × Dyadic)) (h : p < N) : (m6 N L)[p]? = some (sm L fun q => if q.1 = p then q.2 else 0) := by
 unfold m6;rw [St, S8 h]
 rfl
theorem Fw {p : Nat} {L : List (Nat × Dyadic)} {x v : Dyadic} (h : (m6 N L)[p]? = some x) : (m6 N L).set p (x + v) = m6 N (L ++ [(p, v)]) := by
 have hp : p < N := by have := (SC.1 h).1; rwa [kG] at this
 rw [mY L hp] at h;refine S0 fun i => ?_;rw [Tz];by_cases hi : p = i
 ·subst hi;rw [Sj rfl, kG, Sj hp, mY _ hp, jt, ← Tc h, Sj rfl]
 ·rw [Si hi];by_cases hin : i < N
  ·rw [mY _ hin, mY _ hin, jt, Si hi];congr 1;grind
  ·rw [Sw (by rw [kG]; omega), Sw (by rw [kG]; omega)]
theorem HF {l : List α} {f : α → Dyadic} (h : ∀ a ∈ l, Sz k (f a)) : Sz (k + l.length) (sm l f) := by
 induction l with
 | nil => exact Sz.zero _
 | cons a l ih =>
  have h1 := ih fun b hb => h b (SA _ hb);have h2 := ((h a Sq).mono (show k ≤ k + l.length by omega)).add h1;rw [sm, SG];exact h2.mono Sd
theorem Jm {L : List (Nat × Dyadic)} (h : ∀ a ∈ L, Sz k a.2) : ∀ x ∈ m6 N L, Sz (k + L.length) x := fun x hx => by
 obtain ⟨p, _, rfl⟩ := SB.1 hx;refine HF fun a ha => ?_;split
 ·exact h a ha
 ·exact Sz.zero _
def ar : List Nat → Nat
 | [] => 1
 | d :: ds => (d + 1) * ar ds
def cV : List Nat → Nat → List Nat
 | [], _ => []
 | d :: ds, p => p % (d + 1) :: cV ds (p / (d + 1))
def g6 : List Nat → List Nat → Nat
 | d :: ds, r :: rs => r + (d + 1) * g6 ds rs
 | _, _ => 0
def lN : List Nat → List Nat → Prop
 | [], [] => True
 | d :: ds, r :: rs => r ≤ d ∧ lN ds rs
 | _, _ => False
theorem dm (ds : List Nat) : 0 < ar ds := by
 induction ds with
 | nil => exact Nat.one_pos
 | cons d ds ih => exact Nat.mul_pos Sd ih
theorem yq : ∀ (ds : List Nat) (p : Nat), (cV ds p).length = ds.length
 | [], _ => rfl
 | d :: ds, p => by rw [cV, SG, yq ds, SG]
theorem rz : ∀ (ds : List Nat) (p : Nat), lN ds (cV ds p)
 | [], _ => trivial
 | d :: ds, p => ⟨by have := SO p (show 0 < d + 1 by omega); omega, rz ds _⟩
theorem zl : ∀ {ds : List Nat} {p : Nat}, p < ar ds → g6 ds (cV ds p) = p
 | [], p, h => by
  have : p < 1 := h;show 0 = p;omega
 | d :: ds, p, h => by
  have h1 : p / (d + 1) < ar ds := by rw [TO Sd, SS]; exact h
  rw [cV, g6, zl h1, UD]
theorem m4 : ∀ {ds rs : List Nat}, lN ds rs → g6 ds rs < ar ds
 | [], [], _ => Nat.one_pos
 | d :: ds, r :: rs, h => by
  have h1 := m4 h.2;have h2 := h.1;rw [g6, ar];have h3 : (d + 1) * g6 ds rs + (d + 1) ≤ (d + 1) * ar ds := by
   have := SX (d + 1) (show g6 ds rs + 1 ≤ ar ds by omega);rw [Te, SI] at this;exact this
  omega
theorem hU : ∀ {ds rs : List Nat}, lN ds rs → cV ds (g6 ds rs) = rs
 | [], [], _ => rfl
 | d :: ds, r :: rs, h => by
  have h2 := h.1;rw [g6, cV, T9, SY Sd, TE _ _ Sd, Tj Sd, SM, hU h.2]
theorem xb (d : Nat) (ds : List Nat) (f : Nat → Dyadic) : sm (List.range (ar (d :: ds))) f = sm (List.range (ar ds)) fun q => sm (List.range (d + 1)) fun r => f (r + (d + 1) * q) := by
 have key : ∀ n, sm (List.range ((d + 1) * n)) f = sm (List.range n) fun q => sm (List.range (d + 1)) fun r => f (r + (d + 1) * q) := fun n => by
  induction n with
  | zero => rfl
  | succ n ih =>
   rw [Uv, jt, ← ih, TZ, List.range_add, mP, pP];congr 1;exact aY fun a _ => by rw [Uj]
 exact key _
def LI (d : Int) : List Int := (List.range (d.toNat + 1)).map fun (k : Nat) => (k : Int)
def M4 : List Int → List (List Int)
 | [] => [[]]
 | d :: ds => (LI d).flatMap fun k => (M4 ds).map (k :: ·)
def uC (n : Nat) : List Int := List.replicate n 0
def RQ : List Int → List Int → Option (List Int)
 | d :: ds, k :: l => match RQ ds l with
  | some l' => some (k :: l')
  | none => if k < d then some ((k + 1) :: uC l.length) else none
 | _, _ => none
def QK {α : Type} (f : α → Option α) : α → List α → Prop
 | a, [b] => b = a ∧ f a = none
 | a, b :: L => b = a ∧ ∃ c, f a = some c ∧ QK f c L
 | _, [] => False
def Q3 : Int → List Int → Bool
 | _, [] => true
 | n, d :: ds => decide (0 ≤ d) && (decide (d ≤ 127) && (decide (n * (d + 1) ≤ 65536) && Q3 (n * (d + 1)) ds))
def fX (l : List Int) : ByteArray := str (l.map z4)
def Rq (ds : List Int) : List ByteArray := if Q3 1 ds then (M4 ds).map fX else []
def gX (d : Int) (s : ByteArray) : List ByteArray := (LI d).map fun q => s ++ str [z4 q]
def Rv (ls : List Int) (k n : Nat) : List Int := ls.take k ++ uC (n - k)
variable {ds : List Nat}
def bin : Nat → Nat → Nat
 | _, 0 => 1
 | 0, _ + 1 => 0
 | n + 1, k + 1 => bin n k + bin n (k + 1)
theorem mm (n : Nat) : bin n 0 = 1 := by cases n <;> rfl
theorem ri : ∀ {n k : Nat}, n < k → bin n k = 0
 | 0, k + 1, _ => rfl
 | n + 1, k + 1, h => by rw [bin, ri (show n < k by omega), ri (show n < k + 1 by omega)]
theorem yZ : ∀ n, bin n n = 1
 | 0 => rfl
 | n + 1 => by rw [bin, yZ n, ri (show n < n + 1 by omega)]
theorem vT : ∀ n k : Nat, bin n k ≤ 2 ^ n
 | n, 0 => by rw [mm]; exact SV Se
 | 0, k + 1 => Sn _
 | n + 1, k + 1 => by
  have h1 := vT n k;have h2 := vT n (k + 1);rw [bin, Ta];omega
def lU (n : Nat) : List Nat := (List.range (n + 1)).map (bin n)
theorem sF (n : Nat) : (lU n).length = n + 1 := by simp [lU]
theorem rB (h : k ≤ n) : (lU n)[k]? = some (bin n k) := by
 unfold lU;exact F0
def nD (n : Nat) : Dyadic := ((n : Int) : Dyadic)
theorem BU : nD 0 = 0 := rfl
theorem wq : nD 1 = 1 := rfl
theorem vM (a b : Nat) : nD (a + b) = nD a + nD b := by
 show Dyadic.ofIntWithPrec ((a + b : Nat) : Int) 0 = Dyadic.ofIntWithPrec (a : Int) 0 + Dyadic.ofIntWithPrec (b : Int) 0;rw [wz, TX]
theorem MT (a b : Nat) : nD (a * b) = nD a * nD b := by
 induction a with
 | zero => rw [UE, BU]; grind
 | succ a ih => rw [Tl, vM, vM, ih, wq]; grind
theorem Lp (h : n < 2 ^ k) : Sz k (nD n) := by
 refine ⟨(n : Int) * 2 ^ k, ?_, ?_⟩
 ·have := pG (n : Int) 0 k;rw [show (0 : Int) + (k : Int) = k by omega] at this;rw [this]
  rfl
 ·rw [Ud, UJ, Int.natAbs_natCast, show 2 * k = k + k by omega, SL];exact UT h (SV Se)
theorem rG {α β : Type} {m : Nat} (hm : 0 < m) (g : α → List β) : ∀ (l : List α) (p : Nat), (∀ a ∈ l, (g a).length = m) → (l.flatMap g)[p]? = (l[p / m]?).bind fun a => (g a)[p % m]?
 | [], p, _ => by simp
 | a :: l, p, h => by
  have ha := h a Sq;rw [List.flatMap_cons];by_cases hp : p < m
  ·rw [UM Sd, Tj hp, SY hp]
   rfl
  ·obtain ⟨q, rfl⟩ : ∃ q, p = q + m := ⟨p - m, Sd⟩;rw [Tu Sd, ha, Nat.add_sub_cancel, rG hm g l q fun b hb => h b (SA _ hb), Nat.add_div_right _ hm, Nat.add_mod_right, UR]
def bL (l : List Nat) : List Int := l.map fun (n : Nat) => (n : Int)
theorem ig (l : List Nat) : (bL l).length = l.length := by simp [bL]
theorem lf {l : List Nat} {i : Nat} (h : l[i]? = some n) : (bL l)[i]? = some (n : Int) := by simp [bL, h]
theorem Ch : ∀ {ds rs : List Nat}, lN ds rs → rs.length = ds.length
 | [], [], _ => rfl
 | _ :: _, _ :: _, h => by rw [SG, SG, Ch h.2]
theorem G6 {rs : List Nat} {i d r : Nat} (hd : ds[i]? = some d) (hr : rs[i]? = some r) : g6 (ds.take (i + 1)).reverse (rs.take (i + 1)).reverse = r + (d + 1) * g6 (ds.take i).reverse (rs.take i).reverse := by
 rw [ay hd, ay hr];simp [g6]
theorem IF {i d : Nat} (hd : ds[i]? = some d) : ar (ds.take (i + 1)).reverse = (d + 1) * ar (ds.take i).reverse := by
 rw [ay hd];simp [ar]
theorem dP (a b : List Nat) : ar (a ++ b) = ar a * ar b := by
 induction a with
 | nil => simp [ar]
 | cons d a ih => rw [Sv, ar, ar, ih, Ti]
theorem dn (ds : List Nat) : ar ds.reverse = ar ds := by
 induction ds with
 | nil => rfl
 | cons d ds ih => rw [Ue, dP, ih, ar, ar, ar, SI, SS]
theorem jb (ds : List Nat) (i : Nat) : ar (ds.take i) ≤ ar ds := by
 have : ds = ds.take i ++ ds.drop i := (To i ds).symm
 calc ar (ds.take i) = ar (ds.take i) * 1 := (SI _).symm
  _ ≤ ar (ds.take i) * ar (ds.drop i) := SX _ (dm _)
  _ = ar ds := by rw [← dP, To]
theorem k4 (A : Option Addr) (n c : Nat) (ds : List Int) (w : World) (hS : Sl w A n 1 (bm ds)) (hn : n ≤ 1000000) :
  Calls Tryz.prog 89 #[.slice A n c] w fun r w' => ∃ B c', r = .returned (.slice B n c') ∧ w'.ownsRow w.heap.size 3 1 (.slice B n c') n (bm ds) ∧ Below w.heap.size w w' := by
 have hh := Hp.start w
 rcases A with _ | ad
 ·have hn0 : n = 0 := by
   exact NB
  subst hn0;have hl : ds = [] := TW (by simpa [bm] using hS.1);subst hl;refine aj (N := 8) (l := [.slice none 0 c]) Tryz.func89 rfl rfl (by simp) ?_;exact NI
 ·refine aj (N := 8) (l := [.slice (some ad) n c]) Tryz.func89 rfl rfl (by simp) ?_;refine sr (aL (aa (ah (sr (mL ?_)))));refine rA bq.out rfl rfl Se ?_;refine qX ?_;refine jV hh bq.out aP.out Se ?_;intro b5 w5 hh;refine mL ?_;refine cR hh (i := 0) rfl rfl rfl (hS.ext hh.below) bq.out aP.out rfl Se ?one1 Sd Sd Se ?kk1
  case one1 => first | rfl | assumption | exact bU _ | exact oneCells_u8s _
  exact Gq
theorem jw (A : Option Addr) (n c : Nat) (xs : List NR) (w : World) (hS : Sl w A n 3 (aw NR.cells xs)) (hn : n ≤ 1000000) :
  Calls Tryz.prog 102 #[.slice A n c] w fun r w' => ∃ B c', r = .returned (.slice B n c') ∧ w'.ownsRow w.heap.size 65 3 (.slice B n c') n (aw NR.cells xs) ∧ Below w.heap.size w w' := by
 have hh := Hp.start w
 rcases A with _ | ad
 ·have hn0 : n = 0 := by
   exact NB
  subst hn0;have hl : xs = [] := TW (by have := hS.bz NR.len Se; omega);subst hl;refine aj (N := 8) (l := [.slice none 0 c]) Tryz.func102 rfl rfl (by simp) ?_;exact NI
 ·have hone : ((aw NR.cells xs).all Value.oneCell') = true := cw NR.one _;refine aj (N := 8) (l := [.slice (some ad) n c]) Tryz.func102 rfl rfl (by simp) ?_;refine sr (aL (aa (ah (sr (mL ?_)))));refine rA bq.out rfl rfl Se ?_;refine qX ?_;refine jV hh bq.out aP.out Se ?_;intro b5 w5 hh;refine mL ?_;refine cR hh (i := 0) rfl rfl rfl (hS.ext hh.below) bq.out aP.out rfl Se ?one2 Sd Sd Se ?kk2
  case one2 => first | rfl | assumption | exact bU _ | exact oneCells_u8s _
  exact Gq
theorem Bd (A : Option Addr) (n c : Nat) (l : List Int) (g : FuncId) (cap : List Value) (p : Int → Bool) (w : World) (hS : Sl w A n 1 (bm l)) (hn : n ≤ 1000000) [ak Tryz.prog g]
  (hg : ∀ (z : Int) (w1 : World), z ∈ l → Below w.heap.size w w1 → Calls Tryz.prog g (.int .i64 z :: cap).toArray w1 fun r w' => r = .returned (.bool (p z)) ∧ Below w1.heap.size w1 w') :
  Calls Tryz.prog 172 #[.slice A n c, .func (.func g) #[] cap.toArray] w fun r w' => ∃ v, r = .returned (.int .i64 v) ∧ (0 ≤ v ↔ l.any p = true) ∧ Below w.heap.size w w' := by
 have hh := Hp.start w;have hln : l.length = n := by have := hS.1; simpa [bm] using this
 refine aj (N := 19) (l := [.slice A n c, .func (.func g) #[] cap.toArray]) Tryz.func172 rfl rfl (by simp) ?_;refine zk ?_;refine aN [4, 5, 8, 9, 10, 11, 12, 13, 14, 15, 16, 17, 18] 8
  (fun v w' => ∃ i : Nat, i ≤ n ∧ v = .int .i64 i ∧ (l.take i).any p = false ∧ Hp w [] w')
  (fun v _ => n - (intOf v).toNat) ?_ ?_
 ·exact ⟨0, Sn _, rfl, rfl, hh⟩
 ·clear hh;rintro ρ' v w' ⟨i, hi, rfl, hall, hh⟩;by_cases hlt : i < n
  ·obtain ⟨z, hz⟩ := av (l := l) (k := i) Sd;have hgi := cO hz;obtain ⟨ad, rfl, hr⟩ := hS.at_ Sd;have hc := fun w1 => hg z w1 (Sp hz)
   cases gz : p z with
   | true =>
    rw [gz] at hc;refine sr ?_;refine qT ?_;refine ix ?_;refine mL (mI ?_);refine bX ?_;refine nh ?_;exact Np
   | false =>
    rw [gz] at hc;refine sr ?_;refine qT ?_;refine ix ?_;refine mL (mI ?_);refine bX ?_;refine nh ?_;exact B9
  ·exact Mb
theorem tu (A : Option Addr) (n c : Nat) (l : List Int) (g : FuncId) (cap : List Value) (p : Int → Bool) (w : World) (hS : Sl w A n 1 (bm l)) (hn : n ≤ 1000000) [ak Tryz.prog g]
  (hg : ∀ (z : Int) (w1 : World), z ∈ l → Below w.heap.size w w1 → Calls Tryz.prog g (.int .i64 z :: cap).toArray w1 fun r w' => r = .returned (.bool (p z)) ∧ Below w1.heap.size w1 w') :
  Calls Tryz.prog 100 #[.slice A n c, .func (.func g) #[] cap.toArray] w fun r w' => r = .returned (.bool (l.any p)) ∧ Below w.heap.size w w' := by
 have hh := Hp.start w;refine aj (N := 9) (l := [.slice A n c, .func (.func g) #[] cap.toArray]) Tryz.func100 rfl rfl (by simp) ?_;refine sr (aB (aa (sr (mL ?_))));refine ix ?_;refine aC (Bd A n c l g cap p _ (hS.ext hh.below) hn hg) ak.out rfl Se ?_;exact Mo
theorem Af (A : Option Addr) (n c : Nat) (l : List NR) (g : FuncId) (cap : List Value) (p : NR → Bool) (w : World) (hS : Sl w A n 3 (aw NR.cells l)) (hn : n ≤ 1000000) [ak Tryz.prog g]
  (hg : ∀ (z : NR) (w1 : World), z ∈ l → Below w.heap.size w w1 → Calls Tryz.prog g (.agg #[.bool z.neg, .string z.bf, .int .i64 z.e] :: cap).toArray w1 fun r w' => r = .returned (.bool (p z)) ∧ Below w1.heap.size w1 w') :
  Calls Tryz.prog 193 #[.slice A n c, .func (.func g) #[] cap.toArray] w fun r w' => ∃ v, r = .returned (.int .i64 v) ∧ (0 ≤ v ↔ l.any p = true) ∧ Below w.heap.size w w' := by
 have hh := Hp.start w;have hln := hS.bz NR.len Se;refine aj (N := 19) (l := [.slice A n c, .func (.func g) #[] cap.toArray]) Tryz.func193 rfl rfl (by simp) ?_;refine zk ?_;refine aN [4, 5, 8, 9, 10, 11, 12, 13, 14, 15, 16, 17, 18] 8
  (fun v w' => ∃ i : Nat, i ≤ n ∧ v = .int .i64 i ∧ (l.take i).any p = false ∧ Hp w [] w')
  (fun v _ => n - (intOf v).toNat) ?_ ?_
 ·exact ⟨0, Sn _, rfl, rfl, hh⟩
 ·clear hh;rintro ρ' v w' ⟨i, hi, rfl, hall, hh⟩;by_cases hlt : i < n
  ·obtain ⟨z, hz⟩ := av (l := l) (k := i) Sd;obtain ⟨ad, rfl, hr⟩ := hS.at_ Sd;have hc := fun w1 => hg z w1 (Sp hz)
   cases gz : p z with
   | true =>
    rw [gz] at hc;refine sr ?_;refine qT ?_;refine ix ?_;refine mL (mI ?_);refine bX ?_;refine ct (vs := [_, _, _]) aP.out rfl ((hr.ext hh.below).recAt NR.len hz) rfl Se ?_;exact Np
   | false =>
    rw [gz] at hc;refine sr ?_;refine qT ?_;refine ix ?_;refine mL (mI ?_);refine bX ?_;refine ct (vs := [_, _, _]) aP.out rfl ((hr.ext hh.below).recAt NR.len hz) rfl Se ?_;exact B9
  ·exact Mb
theorem Ae (A : Option Addr) (n c : Nat) (l : List NR) (g : FuncId) (cap : List Value) (p : NR → Bool) (w : World) (hS : Sl w A n 3 (aw NR.cells l)) (hn : n ≤ 1000000) [ak Tryz.prog g]
  (hg : ∀ (z : NR) (w1 : World), z ∈ l → Below w.heap.size w w1 → Calls Tryz.prog g (.agg #[.bool z.neg, .string z.bf, .int .i64 z.e] :: cap).toArray w1 fun r w' => r = .returned (.bool (p z)) ∧ Below w1.heap.size w1 w') :
  Calls Tryz.prog 130 #[.slice A n c, .func (.func g) #[] cap.toArray] w fun r w' => r = .returned (.bool (l.any p)) ∧ Below w.heap.size w w' := by
 have hh := Hp.start w;refine aj (N := 9) (l := [.slice A n c, .func (.func g) #[] cap.toArray]) Tryz.func130 rfl rfl (by simp) ?_;refine sr (aB (aa (sr (mL ?_))));refine ix ?_;refine aC (Af A n c l g cap p _ (hS.ext hh.below) hn hg) ak.out rfl Se ?_;exact Mo
variable {xs : List Dyadic}
def gi : Int → List Int → Int
 | n, [] => n
 | n, d :: ds => if d < 0 ∨ 127 < d ∨ 4096 < n * (d + 1) then 0 else gi (n * (d + 1)) ds
def wO : Int → List Int → Int
 | n, [] => n
 | n, d :: ds => wO (min (n * (d + 1)) 4097) ds
def El (ds : List Int) : Int := if ds.any (fun d => !cM d) then -1 else wO 1 ds
def ug (a : NR) : Bool := !(((nR a.d).neg == a.neg && (nR a.d).bf == a.bf) && (nR a.d).e == a.e)
theorem oR {a : NR} : ug a = false ↔ nR a.d = a := by
 unfold ug;rw [Bool.not_eq_false', oW]
def fE (ds : List Int) (cs : List NR) : Int :=
 if 12 < ds.length ∨ ds.any (fun d => !cM d) = true then 1 else if gi 1 ds = 0 then 3 else if (cs.length : Int) ≠ gi 1 ds then 1 else if cs.any ug = true then 1 else 0
theorem uD {ds : List Int} (h : ds.any (fun d => !cM d) = false) : ∃ ns : List Nat, ds = bL ns ∧ ∀ n ∈ ns, n ≤ 127 := by
 refine ⟨ds.map Int.toNat, ?_, fun n hn => ?_⟩
 ·unfold bL;rw [Ty];refine (UY ds).symm.trans (Um fun d hd => ?_);have := TA.1 h d hd;simp [cM] at this;show d = ((d.toNat : Nat) : Int);omega
 ·obtain ⟨d, hd, rfl⟩ := SB.1 hn;have := TA.1 h d hd;simp [cM] at this;omega
theorem tr {ns : List Nat} (h : ∀ n ∈ ns, n ≤ 127) : (bL ns).any (fun d => !cM d) = false := by
 rw [TA];intro d hd;obtain ⟨n, hn, rfl⟩ := SB.1 hd;have := h n hn;simp [cM];omega
theorem iY : ∀ (ns : List Nat) (n : Nat), 1 ≤ n → n ≤ 4096 → (∀ d ∈ ns, d ≤ 127) → gi n (bL ns) = if n * ar ns ≤ 4096 then ((n * ar ns : Nat) : Int) else 0
 | [], n, _, h, _ => by show (n : Int) = _; rw [ar, SI, Sj h]
 | d :: ns, n, h1, h2, h3 => by
  show (if (d : Int) < 0 ∨ 127 < (d : Int) ∨ 4096 < (n : Int) * ((d : Int) + 1) then 0 else gi ((n : Int) * ((d : Int) + 1)) (bL ns)) = _;have hd := h3 d Sq;have e1 : (n : Int) * ((d : Int) + 1) = ((n * (d + 1) : Nat) : Int) := by rw [Tv, TX]; rfl
  rw [e1];by_cases hg : n * (d + 1) ≤ 4096
  ·rw [Si Sd, iY ns (n * (d + 1)) (Nat.mul_pos h1 Sd) hg fun x hx => h3 x (SA _ hx), ar, Ti]
  ·have h4 : n * (d + 1) * 1 ≤ n * (d + 1) * ar ns := SX _ (dm ns);rw [Sj Sd, Si];rw [ar, ← Ti];omega
theorem za : ∀ (ns : List Nat) (n : Nat), 1 ≤ n → n ≤ 4097 → wO n (bL ns) = ((min (n * ar ns) 4097 : Nat) : Int)
 | [], n, _, h => by show (n : Int) = _; rw [ar, SI, Tp h]
 | d :: ns, n, h1, h2 => by
  show wO (min ((n : Int) * ((d : Int) + 1)) 4097) (bL ns) = _;have e1 : min ((n : Int) * ((d : Int) + 1)) 4097 = ((min (n * (d + 1)) 4097 : Nat) : Int) := by
   have : (n : Int) * ((d : Int) + 1) = ((n * (d + 1) : Nat) : Int) := by rw [Tv, TX]; rfl
   rw [this]; omega
  have hp := Nat.mul_pos h1 (show 0 < d + 1 by omega);rw [e1, za ns _ Sd Sd, ar, ← Ti];by_cases hg : n * (d + 1) ≤ 4097
  ·rw [Tp hg]
  ·have h4 : n * (d + 1) * 1 ≤ n * (d + 1) * ar ns := SX _ (dm ns);have h5 : 4097 * 1 ≤ 4097 * ar ns := SX _ (dm ns);rw [Nat.min_eq_right (by omega : 4097 ≤ n * (d + 1)), Nat.min_eq_right Sd, Nat.min_eq_right Sd]
theorem CV : ∀ (ds : List Int) (n : Int), 1 ≤ n → n ≤ 4096 → 0 ≤ gi n ds ∧ gi n ds ≤ 4096
 | [], n, _, h => by show 0 ≤ n ∧ n ≤ 4096; omega
 | d :: ds, n, h1, h2 => by
  rw [gi];split
  ·omega
  ·rename_i hg;have : 1 * 1 ≤ n * (d + 1) := Int.mul_le_mul h1 Sd Se Sd;exact CV ds _ Sd Sd
structure FV (ds : List Int) (cs : List NR) (ns : List Nat) (xs : List Dyadic) : Prop where
 R0 : ds = bL ns
 num : cs = xs.map nR
 KS : ns.length ≤ 12
 low : ∀ n ∈ ns, n ≤ 127
 len : xs.length = ar ns
 max : ar ns ≤ 4096
theorem Oh {ds : List Int} {cs : List NR} (h : fE ds cs = 0) : ∃ ns xs, FV ds cs ns xs ∧ xs = cs.map NR.d := by
 unfold fE at h;split at h
 ·cases h
 rename_i h1;split at h
 ·cases h
 rename_i h2;split at h
 ·cases h
 rename_i h3;split at h
 ·cases h
 rename_i h4;have hb : ds.any (fun d => !cM d) = false := by
  cases hx : ds.any (fun d => !cM d) with
  | false => rfl
  | true => exact absurd (.inr hx) h1
 obtain ⟨ns, rfl, hl⟩ := uD hb;have hc := iY ns 1 Se Se hl;rw [T6] at hc;have hc1 : gi ((1 : Nat) : Int) (bL ns) = gi 1 (bL ns) := rfl;rw [hc1] at hc;have hmax : ar ns ≤ 4096 := by
  apply T1;intro hg;rw [Si hg] at hc;exact h2 hc
 rw [Sj hmax] at hc;have hlen : cs.length = ar ns := by
  have : (cs.length : Int) = gi 1 (bL ns) := Uy.1 h3;rw [hc] at this;omega
 refine ⟨ns, cs.map NR.d, ⟨rfl, ?_, (by have h2 : ¬ 12 < (bL ns).length := fun h => h1 (.inl h); rw [ig] at h2; omega), hl, by rw [Sx, hlen], hmax⟩, rfl⟩;rw [Ty];refine (UY cs).symm.trans (Um fun a ha => ?_);have h5 : ug a = false := by
  cases hx : ug a with
  | false => rfl
  | true => exact absurd (Ub.2 ⟨a, ha, hx⟩) h4
 exact (oR.1 h5).symm
theorem FV.ok {ds : List Int} {cs : List NR} {ns : List Nat} (h : FV ds cs ns xs) : fE ds cs = 0 := by
 obtain ⟨rfl, rfl, h1, h2, h3, h4⟩ := h;have hc := iY ns 1 Se Se h2;rw [T6, Sj h4] at hc;have hc1 : gi ((1 : Nat) : Int) (bL ns) = gi 1 (bL ns) := rfl;rw [hc1] at hc;have hp := dm ns;unfold fE;rw [Si, Si Sd, Si (by rw [Sx]; omega), Si]
 ·rw [Ub];rintro ⟨a, ha, hx⟩;obtain ⟨x, _, rfl⟩ := SB.1 ha;have : ug (nR x) = false := oR.2 (by rw [cn]);rw [this] at hx
  cases hx
 ·rw [ig, tr h2];rintro (h | h)
  ·omega
  ·cases h
theorem eA (A : Option Addr) (n c : Nat) (ds : List Int) (w : World) (hS : Sl w A n 1 (bm ds)) (hn : n ≤ 1000000) :
  Calls Tryz.prog 90 #[.slice A n c] w fun r w' => r = .returned (.int .i64 (gi 1 ds)) ∧ Below w.heap.size w w' := by
 have hh := Hp.start w;have hln : ds.length = n := by have := hS.1; simpa [bm] using this
 refine aj (N := 31) (l := [.slice A n c]) Tryz.func90 rfl rfl (by simp) ?_;refine sr (aI (aa (sr (aI (aa (ah (sr (mL (aK (mI (aa (ao ?_))))))))))));refine bP [2, 3, 5, 8, 9, 10, 11, 12, 13, 14, 15, 16, 17, 18, 19, 20, 21, 22, 23, 24, 25, 26, 27, 28, 29] 3 8
  (fun v3 v w' => ∃ (i : Nat) (q : Int), i ≤ n ∧ v = .int .i64 i ∧ v3 = .int .i64 q ∧ 1 ≤ q ∧ q ≤ 4096 ∧ gi 1 ds = gi q (ds.drop i) ∧ Hp w [] w')
  (fun _ v _ => n - (intOf v).toNat) ?_ ?_
 ·exact ⟨0, 1, Sn _, rfl, rfl, Sd, Sd, rfl, hh⟩
 ·clear hh;rintro ρ' v3 v w' ⟨i, q, hi, rfl, rfl, hq1, hq2, hc, hh⟩;by_cases hlt : i < n
  ·obtain ⟨d, hd⟩ := av (l := ds) (k := i) Sd;have hgi := cO hd;obtain ⟨ad, rfl, hr⟩ := hS.at_ Sd;rw [gE hd, gi] at hc;by_cases h1 : d < 0
   ·rw [Sj (.inl h1)] at hc;refine sr ?_;refine dq ?_;refine bX ?_;refine nh ?_;refine aI (aa (ah (sr (mI ?_))));refine a6 (mB ?_);refine gS (gS ?_);refine fV ?_;refine mB ?_;refine gS (gS (gS (gS (gS ?_))));refine fV ?_;exact MN
   ·by_cases h2 : 127 < d
    ·rw [Sj (.inr (.inl h2))] at hc;refine sr ?_;refine dq ?_;refine bX ?_;refine nh ?_;refine aI (aa (ah (sr (mI ?_))));refine a6 (mB (gT (mI (gT ?_))));refine cg ?_;refine fa ?_;refine mB ?_;refine gS (gS (gS (gS (gS ?_))));refine fV ?_;exact MN
    ·have hm1 : 1 * 1 ≤ q * (d + 1) := Int.mul_le_mul hq1 Sd Se Sd;have hm2 : q * (d + 1) ≤ 4096 * 128 := Int.mul_le_mul hq2 Sd Sd Se;by_cases h3 : 4096 < q * (d + 1)
     ·rw [Sj (.inr (.inr h3))] at hc;refine sr ?_;refine dq ?_;refine bX ?_;refine nh ?_;refine aI (aa (ah (sr (mI ?_))));refine a6 (mB (gT (mI (gT ?_))));refine cg ?_;refine fa ?_;refine mB (gT (mI (gT (mI (gT ?_)))));refine a9 (gT ?_);refine mulC (gT ?_);refine cg ?_;refine fa ?_;exact MN
     ·rw [Si Sd] at hc;refine sr ?_;refine dq ?_;refine bX ?_;refine nh ?_;refine aI (aa (ah (sr (mI ?_))));refine a6 (mB (gT (mI (gT ?_))));refine cg ?_;refine fa ?_;refine mB (gT (mI (gT (mI (gT ?_)))));refine a9 (gT ?_);refine mulC (gT ?_);refine cg ?_;refine fa ?_;refine aa (cF (aq (ai (al (mI (mI ?_))))));refine a9 ?_;refine mulC (aI (az (bg (ai (al ?_)))));refine a9 (mI (az (ai ?_)));refine ⟨⟨i + 1, _, Sd, rfl, rfl, Sd, Sd, hc, hh⟩, by show n - (i + 1) < n - i; omega, ?_⟩;exact eB
  ·rw [Uf Sd] at hc;refine sr ?_;refine a6 (aa (ah (cF (aV (aE (aE (bo (ai (sr (mI (aI (aa (au ?_)))))))))))));refine da ?_;exact ⟨by rw [hc]; rfl, hh.below⟩
theorem BD (d : Int) (w : World) :
  Calls Tryz.prog 129 #[.int .i64 d] w fun r w' => r = .returned (.bool (!cM d)) ∧ Below w.heap.size w w' := by
 have hh := Hp.start w;by_cases h1 : d < 0
 ·refine aj (N := 9) (l := [.int .i64 d]) Tryz.func129 rfl rfl (by simp) ?_;refine sr (aB (aa (sr (mI ?_))));refine a6 (mB ?_);refine gS (gS ?_);refine fV ?_;refine aB (aa (au ?_));refine da ?_;refine ⟨?_, hh.below⟩;unfold cM;rw [SQ (show ¬ 0 ≤ d by omega)]
  rfl
 ·by_cases h2 : 127 < d
  ·refine aj (N := 9) (l := [.int .i64 d]) Tryz.func129 rfl rfl (by simp) ?_;refine sr (aB (aa (sr (mI ?_))));refine a6 (mB (gT (mI (gT ?_))));refine cg ?_;refine fa ?_;refine aB (aa (au ?_));refine da ?_;refine ⟨?_, hh.below⟩;unfold cM;rw [SQ (show ¬ d ≤ 127 by omega), Bool.and_false]
   rfl
  ·refine aj (N := 9) (l := [.int .i64 d]) Tryz.func129 rfl rfl (by simp) ?_;refine sr (aB (aa (sr (mI ?_))));refine a6 (mB (gT (mI (gT ?_))));refine cg ?_;refine fa ?_;refine aB (aa (au ?_));refine da ?_;refine ⟨?_, hh.below⟩;unfold cM;rw [SF (show 0 ≤ d by omega), SF (show d ≤ 127 by omega)]
   rfl
theorem AF (a : NR) (w : World) (hT : dD w) (ha : a.ok) :
  Calls Tryz.prog 131 #[.agg #[.bool a.neg, .string a.bf, .int .i64 a.e]] w fun r w' => r = .returned (.bool (ug a)) ∧ Below w.heap.size w w' := by
 have hh := Hp.start w;have hf := fun w1 hT1 => ew a w1 hT1 (by have := ha.1; omega) (by have := ha.2; omega) (by have := ha.2; omega)
 cases hx : ug a with
 | false =>
  have he := oR.1 hx;refine aj (N := 7) (l := [.agg #[.bool a.neg, .string a.bf, .int .i64 a.e]]) Tryz.func131 rfl rfl (by simp) ?_;refine sr ?_;refine cq hh [_,_,_] ?_;intro b1 w1 hh;refine aB (aa (ah ?_));refine aU 3 [[(1, none)], [(3, some 0)], [(1, none)]] [(2, 5), (1, 4), (0, 3)] hh mixed Sf ?_;refine eX 0 [_,_,_] ?_;refine dC (fun _ hj => hf _ (hT.hp hj.hp)) ?_;refine eX 0 [_,_,_] ?_;refine aR ?_;intro f W hJ hV;have hb_1 := hJ.bl;obtain ⟨v5, v4, v3, _⟩ := hV;replace hh := hJ.hp;refine aX (bp (ae v5 (ae v4 (ae v3 aW)))) ?_;dsimp only [ck];clear hJ;refine CM rfl rfl (by first | assumption | rfl) Se ?_;exact vV
 | true =>
  have he : ¬ nR a.d = a := fun h => by rw [oR.2 h] at hx; cases hx
  refine aj (N := 7) (l := [.agg #[.bool a.neg, .string a.bf, .int .i64 a.e]]) Tryz.func131 rfl rfl (by simp) ?_;refine sr ?_;refine cq hh [_,_,_] ?_;intro b1 w1 hh;refine aB (aa (ah ?_));refine aU 3 [[(1, none)], [(3, some 0)], [(1, none)]] [(2, 5), (1, 4), (0, 3)] hh mixed Sf ?_;refine eX 0 [_,_,_] ?_;refine dC (fun _ hj => hf _ (hT.hp hj.hp)) ?_;refine eX 0 [_,_,_] ?_;refine aR ?_;intro f W hJ hV;have hb_1 := hJ.bl;obtain ⟨v5, v4, v3, _⟩ := hV;replace hh := hJ.hp;refine aX (bp (ae v5 (ae v4 (ae v3 aW)))) ?_;dsimp only [ck];clear hJ;refine I5 rfl rfl (by assumption) Se ?_;exact vV
theorem tY (A B : Option Addr) (n c m c2 : Nat) (ds : List Int) (cs : List NR) (w : World) (hT : dD w) (hS : Sl w A n 1 (bm ds)) (hS2 : Sl w B m 3 (aw NR.cells cs)) (hn : n ≤ 1000000) (hm : m ≤ 1000000) (hc : ∀ a ∈ cs, a.ok) :
  Calls Tryz.prog 41 #[.agg #[.slice A n c, .slice B m c2]] w fun r w' => r = .returned (.int .i64 (fE ds cs)) ∧ Below w.heap.size w w' := by
 have hh := Hp.start w;have hln : ds.length = n := by have := hS.1; simpa [bm] using this
 have hlm := hS2.bz NR.len Se;have h1 := fun w1 hS1 => tu A n c ds 129 [] (fun d => !cM d) w1 hS1 hn (fun z w2 _ hb => BD z w2);have h2 := fun w1 (hT1 : dD w1) hS1 => Ae B m c2 cs 131 [] ug w1 hS1 hm (fun z w2 hz hb => AF z w2 (hT1.ext hb) (hc z hz));have h3 := CV ds 1 Sd Sd;unfold fE;by_cases g1 : 12 < n
 ·refine vH ?_;refine sr ?_;refine cq hh [_,_] ?_;intro b1 w1 hh;refine sH ?_;refine bE hh 0 ?_;refine aK ?_;refine cg (mB ?_);refine gS (gS ?_);refine kP ?_;refine fV ?_;refine Cr ?_;refine da ?_;exact ⟨by rw [Sj (.inl Sd)], hh.below⟩
 ·cases g2 : ds.any (fun d => !cM d) with
  | true =>
   refine vH ?_;refine sr ?_;refine cq hh [_,_] ?_;intro b1 w1 hh;refine sH ?_;refine bE hh 0 ?_;refine aK ?_;refine cg (mB (gT (bF (gT ?_))));refine bE hh 0 ?_;refine aH rfl rfl ?_;refine br hh (h1 _ (hS.ext hh.below)) rfl ?_;intro w11 hh;rw [g2];refine fa ?_;refine Cr ?_;refine da ?_;exact ⟨by rw [Sj (.inr rfl)], hh.below⟩
  | false =>
   rw [Si (fun h => h.elim (fun h => by omega) (fun h => by cases h))];by_cases g3 : gi 1 ds = 0
   ·refine vH ?_;refine sr ?_;refine cq hh [_,_] ?_;intro b1 w1 hh;refine sH ?_;refine bE hh 0 ?_;refine aK ?_;refine cg (mB (gT (bF (gT ?_))));refine bE hh 0 ?_;refine aH rfl rfl ?_;refine br hh (h1 _ (hS.ext hh.below)) rfl ?_;intro w11 hh;rw [g2];refine fa ?_;refine aB (aa (cF (sr (bF ?_))));refine bE hh 0 ?_;refine CS ?_;intro w16 hh;refine cH (aB (aa (cT (sr (aI (aa (au (bQ (aG ?_)))))))));refine da ?_;exact ⟨by rw [Sj g3], hh.below⟩
   ·rw [Si g3];by_cases g4 : (m : Int) = gi 1 ds
    ·rw [Si (show ¬ (cs.length : Int) ≠ gi 1 ds by omega)]
     cases g5 : cs.any ug with
     | true =>
      refine vH ?_;refine sr ?_;refine cq hh [_,_] ?_;intro b1 w1 hh;refine sH ?_;refine bE hh 0 ?_;refine aK ?_;refine cg (mB (gT (bF (gT ?_))));refine bE hh 0 ?_;refine aH rfl rfl ?_;refine br hh (h1 _ (hS.ext hh.below)) rfl ?_;intro w11 hh;rw [g2];refine fa ?_;refine aB (aa (cF (sr (bF ?_))));refine bE hh 0 ?_;refine CS ?_;intro w16 hh;refine cH (aB (aa (cF (ah ?_))));refine F2 ?_;refine ek ?_;refine gH 0 ?_;refine GN ?_;refine ek ?_;refine gH 0 ?_;refine dC (fun _ hj => eA A n c ds _ (hS.ext hj.hp.below) hn) ?_;refine aR ?_;intro f W hJ hV;have hb_5 := hJ.bl;obtain ⟨v24, v23, v22, v21, v20, v19, _⟩ := hV;replace hh := hJ.hp;refine Gd ?_;dsimp only [ck];clear hJ;refine cX (aB (aa (cF (aq (bg (ai (ah (sr (bF ?_)))))))));refine bE hh 0 ?_;refine br hh (h2 _ (hT.hp hh) (hS2.ext hh.below)) rfl ?_;intro w28 hh;rw [g5];refine xS ?_;refine da ?_;exact ⟨by rw [Sj rfl], hh.below⟩
     | false =>
      refine vH ?_;refine sr ?_;refine cq hh [_,_] ?_;intro b1 w1 hh;refine sH ?_;refine bE hh 0 ?_;refine aK ?_;refine cg (mB (gT (bF (gT ?_))));refine bE hh 0 ?_;refine aH rfl rfl ?_;refine br hh (h1 _ (hS.ext hh.below)) rfl ?_;intro w11 hh;rw [g2];refine fa ?_;refine aB (aa (cF (sr (bF ?_))));refine bE hh 0 ?_;refine CS ?_;intro w16 hh;refine cH (aB (aa (cF (ah ?_))));refine F2 ?_;refine ek ?_;refine gH 0 ?_;refine GN ?_;refine ek ?_;refine gH 0 ?_;refine dC (fun _ hj => eA A n c ds _ (hS.ext hj.hp.below) hn) ?_;refine aR ?_;intro f W hJ hV;have hb_5 := hJ.bl;obtain ⟨v24, v23, v22, v21, v20, v19, _⟩ := hV;replace hh := hJ.hp;refine Gd ?_;dsimp only [ck];clear hJ;refine cX (aB (aa (cF (aq (bg (ai (ah (sr (bF ?_)))))))));refine bE hh 0 ?_;refine br hh (h2 _ (hT.hp hh) (hS2.ext hh.below)) rfl ?_;intro w28 hh;rw [g5];refine aa (cF (aq (ai (sr (aI (aa (au ?_)))))));refine da ?_;exact ⟨by rw [Si Se], hh.below⟩
    ·rw [Sj (show (cs.length : Int) ≠ gi 1 ds by omega)];refine vH ?_;refine sr ?_;refine cq hh [_,_] ?_;intro b1 w1 hh;refine sH ?_;refine bE hh 0 ?_;refine aK ?_;refine cg (mB (gT (bF (gT ?_))));refine bE hh 0 ?_;refine aH rfl rfl ?_;refine br hh (h1 _ (hS.ext hh.below)) rfl ?_;intro w11 hh;rw [g2];refine fa ?_;refine aB (aa (cF (sr (bF ?_))));refine bE hh 0 ?_;refine CS ?_;intro w16 hh;refine cH (aB (aa (cF (ah ?_))));refine F2 ?_;refine ek ?_;refine gH 0 ?_;refine GN ?_;refine ek ?_;refine gH 0 ?_;refine dC (fun _ hj => eA A n c ds _ (hS.ext hj.hp.below) hn) ?_;refine aR ?_;intro f W hJ hV;have hb_5 := hJ.bl;obtain ⟨v24, v23, v22, v21, v20, v19, _⟩ := hV;replace hh := hJ.hp;refine Gd ?_;dsimp only [ck];clear hJ;refine cX (aB (aa (cT (sr (aI (aa (au (bQ (aG ?_)))))))));refine da ?_;exact ⟨rfl, hh.below⟩
variable {ys : List Dyadic}
def Mr : List Nat → List Nat → Bool
 | [], [] => true
 | d :: ds, r :: rs => decide (r ≤ d) && Mr ds rs
 | _, _ => false
theorem Dj : ∀ (ds rs : List Nat), Mr ds rs = true ↔ lN ds rs
 | [], [] => by simp [Mr, lN]
 | [], _ :: _ => by simp [Mr, lN]
 | _ :: _, [] => by simp [Mr, lN]
 | d :: ds, r :: rs => by rw [Mr, lN, SE, SJ, Dj ds rs]
def co (ds : List Nat) (xs : List Dyadic) (row : List Nat) : Dyadic := if Mr ds row then (xs[g6 ds row]?).getD 0 else 0
theorem Cy {row : List Nat} (h : lN ds row) : co ds xs row = (xs[g6 ds row]?).getD 0 := by
 unfold co; rw [Sj ((Dj _ _).2 h)]
theorem vQ {p : Nat} (h : p < ar ds) : co ds xs (cV ds p) = (xs[p]?).getD 0 := by
 rw [Cy (rz ds p), zl h]
theorem MR (hx : xs.length = ar ds) (hy : ys.length = ar ds) (h : ∀ row, lN ds row → co ds xs row = co ds ys row) : xs = ys := by
 refine List.ext_getElem (by rw [hx, hy]) fun p h1 h2 => ?_;have h3 := h (cV ds p) (rz ds p);rw [vQ Sd, vQ Sd, Ts h1, Ts h2] at h3;exact h3
def AO : List Nat → List Nat → List Nat
 | a :: l, b :: m => (a + b) :: AO l m
 | _, _ => []
def QA : (List Nat → Dyadic) → List Nat → List Nat → Dyadic
 | F, r :: rs, j :: js => if j ≤ r then QA (fun t => F ((r - j) :: t)) rs js else 0
 | F, [], [] => F []
 | _, _, _ => 0
def On : List Nat → List Nat → Nat
 | m :: ms, j :: js => bin m j * On ms js
 | _, _ => 1
def Q1 : List Nat → (List Nat → Dyadic) → List Nat → Dyadic
 | m :: ms, F, r :: rs => sm (List.range (m + 1)) fun j => if j ≤ r then nD (bin m j) * Q1 ms (fun t => F ((r - j) :: t)) rs else 0
 | _, F, row => F row
def QY (ds es : List Nat) (xs ys : List Dyadic) : List (Nat × Dyadic) :=
 (List.range (ar es)).flatMap fun k => (List.range (ar ds)).map fun i => (g6 (AO ds es) (AO (cV ds i) (cV es k)), (xs[i]?).getD 0 * (ys[k]?).getD 0)
theorem r9 (n : Nat) (f : Nat → Dyadic) : sm (List.range (n + 1)) f = f 0 + sm (List.range n) fun j => f (j + 1) := by
 induction n with
 | zero => simp only [Uv, List.range_zero, Ss, sm]
 | succ n ih => rw [Uv, jt, ih, Uv (n := n), jt]; grind
def QB (row : List Nat) (a : Nat) : List Nat := row.set a (row.getD a 0 - 1)
def lV (n : Nat) : List NR := (lU n).map fun k => nR (nD k)
theorem FH (n : Nat) : (lV n).length = n + 1 := by simp [lV, sF]
theorem lv (h : k ≤ n) : (lV n)[k]? = some (nR (nD (bin n k))) := by
 unfold lV;rw [St, rB h]
 rfl
theorem pJ (n k : Nat) (h : n ≤ 127) : Sz 128 (nD (bin n k)) := Lp (Tk (vT n k) (Nat.pow_lt_pow_right Se Sd))
theorem nj (n : Nat) (w : World) (hT : dD w) (hn : n ≤ 127) :
  Calls Tryz.prog 135 #[.int .i64 n] w fun r w' => ∃ A c', r = .returned (.slice A (n + 1) c') ∧ w'.ownsRow w.heap.size 65 3 (.slice A (n + 1) c') (n + 1) (aw NR.cells (lV n)) ∧ Below w.heap.size w w' := by
 have hh := Hp.start w;refine aj (N := 39) (l := [.int .i64 n]) Tryz.func135 rfl rfl (by simp) ?_;refine sr (aL (aa (sr ?_)));refine zz ?_;intro w6 hh;refine qu ?_;intro b7 w7 hh;refine aL (aa (ah (sr (mI (mI (aa (ao ?_)))))));refine bP [3, 4, 5, 9, 10, 11, 12, 13, 14, 15, 16, 17, 18, 19, 20, 21, 22, 23, 24, 25, 26, 27, 28, 29, 30, 31, 32, 33, 34, 35, 36, 37] 3 9
  (fun v3 v w' => ∃ (i c3 : Nat) (A : Option Addr), i ≤ n ∧ v = .int .i64 i ∧ v3 = .slice A (i + 1) c3 ∧ Hp w [.row A (i + 1) c3 65 3 (aw NR.cells (lV i))] w')
  (fun _ v _ => n - (intOf v).toNat) ?_ ?_
 ·exact ⟨0, _, _, Sn _, rfl, rfl, hh⟩
 ·clear hh;rintro ρ' v3 v w' ⟨i, c3, A, hi, rfl, rfl, hh⟩;by_cases hlt : i < n
  ·refine sr ?_;refine dq ?_;refine zz ?_;intro w11 hh;refine qu ?_;intro b12 w12 hh;refine aL (aa (ah (sr (aI (aa (ao ?_))))));refine bP [4, 5, 13, 14, 15, 16, 17, 18, 19, 20, 21, 22, 23, 24, 25, 26, 27, 28, 29, 30, 31, 32] 4 5
    (fun v4 v w' => ∃ (k c4 : Nat) (B : Option Addr), k ≤ i ∧ v = .int .i64 ((k + 1 : Nat) : Int) ∧ v4 = .slice B (k + 1) c4 ∧ Hp w [.row B (k + 1) c4 65 3 (aw NR.cells ((lV (i + 1)).take (k + 1))), .row A (i + 1) c3 65 3 (aw NR.cells (lV i))] w')
    (fun _ v _ => i + 1 - (intOf v).toNat) ?_ ?_
   ·refine ⟨0, _, _, Sn _, rfl, rfl, ?_⟩;rw [show (lV (i + 1)).take (0 + 1) = [nR (nD 1)] by rw [ay (lv (Sn _)), mm]; rfl];exact hh
   ·clear hh;rintro ρ2 v4 v w2 ⟨k, c4, B, hk, rfl, rfl, hh⟩;by_cases hlk : k < i
    ·have e1 := lv (n := i) (k := k) Sd;have e2 := lv (n := i) (k := k + 1) Sd;have e3 := lv (n := i + 1) (k := k + 1) Sd;have z1 := pJ i k Sd;have z2 := pJ i (k + 1) Sd;have hadd := fun A cc w1 hT1 hS1 => iG A 2 cc [nR (nD (bin i k)), nR (nD (bin i (k + 1)))] w1 hT1 hS1 (by simpa using ⟨z1.ok Sd, z2.ok Sd⟩) 128 (by simpa [cn] using ⟨z1, z2⟩) Sd;rw [show m9 ([nR (nD (bin i k)), nR (nD (bin i (k + 1)))].map NR.d) = nD (bin (i + 1) (k + 1)) by simp only [SW, Tx, cn, kx, bin, vM]] at hadd;obtain ⟨go, rfl⟩ := hh.cD (i := 1) rfl Sd;refine ah (sr (mI (mL (aK ?_))));refine B7 ?_;refine aU 13 [[(4, none)], [(3, none)], [(5, none)], [(21, some 2)], [(20, some 1), (22, some 3)], [(23, some 4)], [(3, none)], [(5, none)], [(25, some 6), (26, some 7)], [(27, some 8)], [(24, some 5), (28, some 9)], [(29, some 10)], [(30, some 11)]] [(12, 31), (11, 30), (10, 29), (9, 28), (8, 27), (7, 26), (6, 25), (5, 24), (4, 23), (3, 22), (2, 21), (1, 20), (0, 19)] hh mixed Sf ?_;refine iw ?_;refine iw ?_;refine eH ?_;refine Be ?_;refine Df (k) ?_;refine xx [_,_,_] (fun _ hj => hj.hp.eL (f := NR.cells) (x := nR (nD (bin i k))) (l := lV i) (i := 1) rfl NR.len Se e1) ?_;refine iw ?_
     refine eH ?_;refine Df ((k + 1)) ?_;refine xx [_,_,_] (fun _ hj => hj.hp.eL (f := NR.cells) (x := nR (nD (bin i (k + 1)))) (l := lV i) (i := 1) rfl NR.len Se e2) ?_;refine z7 [_,_,_,_,_,_] ?_;refine a8 (i := 11) (Is (.agg #[.bool (nR (nD (bin (i + 1) (k + 1)))).neg, .string (nR (nD (bin (i + 1) (k + 1)))).bf, .int .i64 (nR (nD (bin (i + 1) (k + 1)))).e])) Is.ext ?_ ?_
     ·intro ρ1 w1 hj hR;obtain ⟨A29, c29, h29, s29⟩ := hR.1;exact bA rfl (aZ ak.out (aA h29 a7)) (hadd A29 c29 _ (hT.hp hj.hp) s29) (fun _ _ hq => ⟨_, hq.1, hq.2, rfl⟩)
     refine z7 [_,_,_] ?_;refine aR ?_;intro f W hJ hV;have hb_8 := hJ.bl;obtain ⟨v31, v30, v29, v28, v27, v26, v25, v24, v23, v22, v21, v20, v19, _⟩ := hV;obtain ⟨A29, c29, e29, f29⟩ : Rows _ _ _ (f 10) W := v29;obtain ⟨A31, c31, e31, f31⟩ : Rows _ _ _ (f 12) W := v31;replace hh := hJ.hp;refine aX (bp (ae e31 (ae v30 (ae e29 (ae v28 (ae v27 (ae v26 (ae v25 (ae v24 (ae v23 (ae v22 (ae v21 (ae v20 (ae v19 aW)))))))))))))) ?_;dsimp only [ck];clear e29 e31 hJ;refine cR hh (i := 0) rfl rfl rfl (f31) bq.out aP.out rfl Se (by first | rfl | exact ez _ | exact du _ | exact bU _ | exact cw NR.one _) Sd Sd Se ?_;intro A32 c32 w32 hh;simp only [Sy] at hh;refine aL (az (bg (ai (al (mI ?_)))));refine a9 (aI (az (ai ?_)));replace hh := hh.sub (Sk _ (Sk _ SD));refine ⟨⟨k + 1, c32, A32, Sd, rfl, rfl, ?_⟩, by show i + 1 - (k + 1 + 1) < i + 1 - (k + 1); omega, ?_⟩
     ·rw [ay e3, cA];exact hh
     ·exact eB
    ·obtain rfl : k = i := Sd;have e3 := lv (n := k + 1) (k := k + 1) (So _);refine ah (sr (mI (mL (aK ?_))));refine a6 (aa (cF (aV (aE (aE (bo (ai (al (mL ?_)))))))));refine zz ?_;intro w34 hh;refine qu ?_;intro b35 w35 hh;refine qp ?_;intro A36 c36 w36 hh;simp only [Sy, Tb] at hh;replace hh := hh.sub (Th _ _);refine na ?_;refine a9 (mI (az (ai ?_)));replace hh := hh.sub (Sk _ (Sm _ SD));refine ⟨⟨k + 1, c36, A36, Sd, rfl, rfl, ?_⟩, by show n - (k + 1) < n - k; omega, ?_⟩
     ·have e4 : lV (k + 1) = (lV (k + 1)).take (k + 1) ++ [nR (nD (bin (k + 1) (k + 1)))] := by
       rw [← ay e3, Su (by rw [FH]; omega)]
      rw [e4, cA, yZ];exact hh
     ·exact eB
  ·obtain rfl : i = n := Sd;exact I1
def z6 (ds : List Nat) : List Nat := (List.range (ar ds.reverse)).map fun p => On ds.reverse (cV ds.reverse p)
theorem zI (ds : List Nat) (d : Nat) : z6 (ds ++ [d]) = (z6 ds).flatMap fun x => (lU d).map (x * ·) := by
 have hl : ∀ a ∈ z6 ds, ((lU d).map (a * ·)).length = d + 1 := fun a _ => by rw [Sx, sF]
 refine S0 fun p => ?_;rw [rG Sd _ _ _ hl];unfold z6;rw [Vk, List.reverse_singleton, List.singleton_append];by_cases hp : p < ar (d :: ds.reverse)
 ·have hq : p / (d + 1) < ar ds.reverse := by rw [TO Sd, SS]; exact hp
  have hr : p % (d + 1) ≤ d := by have := SO p (show 0 < d + 1 by omega); omega
  rw [St, S8 hp, St, S8 hq];simp only [T5, Us, St, rB hr, cV, On, SS]
 ·have hq : ¬ p / (d + 1) < ar ds.reverse := by rw [TO Sd, SS]; exact hp
  rw [Sw (by simp; omega), Sw (l := List.map _ _) (by simp; omega)]
  rfl
theorem Ct (ds : List Nat) : (z6 ds).length = ar ds := by simp [z6, dn]
def HJ (ds : List Nat) : List NR := (z6 ds).map fun k => nR (nD k)
theorem HV : ∀ (ds row : List Nat), (∀ d ∈ ds, d ≤ 127) → On ds row ≤ 2 ^ (127 * ds.length)
 | [], _, _ => by show 1 ≤ 1; exact So _
 | d :: ds, [], _ => by show 1 ≤ _; exact SV Se
 | d :: ds, r :: rs, h => by
  have h1 : bin d r ≤ 2 ^ 127 := SK (vT d r) (S4 Se (h d Sq));have h2 := HV ds rs fun x hx => h x (SA _ hx);rw [On, SG, TZ, Uj, SL];exact Tw h1 h2
theorem ML (h : n ≤ 2 ^ m) (hk : m < k) : Sz k (nD n) := Lp (Tk h (Nat.pow_lt_pow_right Se hk))
theorem OB {x : Nat} (h : x ∈ z6 ds) (h1 : ds.length ≤ 12) (h2 : ∀ d ∈ ds, d ≤ 127) : Sz 1600 (nD x) := by
 obtain ⟨p, _, rfl⟩ := SB.1 h;have h3 := HV ds.reverse (cV ds.reverse p) fun d hd => h2 d (Ui.1 hd);exact ML h3 (by rw [SZ]; omega)
def JH (ds : List Nat) (d j : Nat) : List Nat := ((z6 ds).take j).flatMap fun x => (lU d).map (x * ·)
theorem FI {d x : Nat} (h : (z6 ds)[j]? = some x) : JH ds d (j + 1) = JH ds d j ++ (lU d).map (x * ·) := by
 unfold JH;rw [ay h, Vf, List.flatMap_singleton]
theorem tB (A : Option Addr) (n c : Nat) (ns : List Nat) (w : World) (hT : dD w) (hS : Sl w A n 1 (bm (bL ns))) (h12 : ns.length ≤ 12) (hlow : ∀ d ∈ ns, d ≤ 127) (hmax : ar ns ≤ 4096) :
  Calls Tryz.prog 46 #[.slice A n c] w fun r w' => ∃ B c', r = .returned (.slice B (ar ns) c') ∧ w'.ownsRow w.heap.size 65 3 (.slice B (ar ns) c') (ar ns) (aw NR.cells (HJ ns)) ∧ Below w.heap.size w w' := by
 have hh := Hp.start w;have hln : ns.length = n := by have := hS.1; simpa [bm, bL] using this
 have hc := iY ns 1 Se Se hlow;rw [T6, Sj hmax] at hc;have hc1 : gi ((1 : Nat) : Int) (bL ns) = gi 1 (bL ns) := rfl;rw [hc1] at hc;have hpos := dm ns;have hcnt := fun w1 hS1 => eA A n c (bL ns) w1 hS1 Sd;rw [hc] at hcnt;refine aj (N := 52) (l := [.slice A n c]) Tryz.func46 rfl rfl (by simp) ?_;refine sr (aL (aa (ah (sr (mL (aK ?_))))));refine cg (mB (gT (mL ?_)));refine aH rfl rfl ?_;refine br hh (hcnt _ (hS.ext hh.below)) rfl ?_;intro w16 hh;refine gT ?_;refine cH ?_;refine fa ?_;refine qX ?_;refine zz ?_;intro w19 hh;refine qu ?_;intro b20 w20 hh;refine pj ?_;refine bP [3, 5, 6, 8, 10, 23, 24, 25, 26, 27, 28, 29, 30, 31, 32, 33, 34, 35, 36, 37, 38, 39, 40, 41, 42, 43, 44, 45, 46, 47, 48, 49, 50] 3 23
  (fun v3 v w' => ∃ (i c3 : Nat) (B : Option Addr), i ≤ n ∧ v = .int .i64 i ∧ v3 = .slice B (ar (ns.take i)) c3 ∧ Hp w [.row B (ar (ns.take i)) c3 65 3 (aw NR.cells (HJ (ns.take i)))] w')
  (fun _ v _ => n - (intOf v).toNat) ?_ ?_
 ·exact ⟨0, _, _, Sn _, rfl, rfl, hh⟩
 ·clear hh;rintro ρ' v3 v w' ⟨i, c3, B, hi, rfl, rfl, hh⟩;by_cases hlt : i < n
  ·obtain ⟨d, hd⟩ := av (l := ns) (k := i) Sd;have hgi := cO (lf hd);have hd127 := hlow d (Sp hd);have htl : (ns.take i).length ≤ 12 := by rw [SP]; omega
   have htw : ∀ d ∈ ns.take i, d ≤ 127 := fun d hd => hlow d (Uc hd);have hct := jb ns (i + 1);have hct2 := jb ns i;have hstep : ar (ns.take (i + 1)) = ar (ns.take i) * (d + 1) := by rw [ay hd, dP]; simp [ar]
   have hsnoc : HJ (ns.take (i + 1)) = (JH (ns.take i) d (ar (ns.take i))).map fun k => nR (nD k) := by
    unfold HJ JH;rw [ay hd, zI, Su (l := z6 (ns.take i)) (by rw [Ct]; exact So _)]
   generalize hds : ns.take i = ds at *;generalize hN : ar ds = N at *;obtain ⟨ad, rfl, hr⟩ := hS.at_ Sd;refine sr ?_;refine dq ?_;refine bX ?_;refine nh ?_;refine aI (aa (sr (aL (aa (ah (sr (mL (aK (mI (aa (ao ?_)))))))))));replace hh := hh.dL 65 3;refine bP [6, 8, 10, 29, 30, 31, 32, 33, 34, 35, 36, 37, 38, 39, 40, 41, 42, 43, 44, 45, 46, 47, 48] 6 29
    (fun v6 v w' => ∃ (j c6 : Nat) (C : Option Addr), j ≤ N ∧ v = .int .i64 j ∧ v6 = .slice C (j * (d + 1)) c6 ∧ Hp w [.row C (j * (d + 1)) c6 65 3 (aw NR.cells ((JH ds d j).map fun k => nR (nD k))), .row B N c3 65 3 (aw NR.cells (HJ ds))] w')
    (fun _ v _ => N - (intOf v).toNat) ?_ ?_
   ·refine ⟨0, 0, none, Sn _, rfl, ?_, ?_⟩
    ·rw [UE]; rfl
    ·rw [UE]; exact hh
   ·clear hh;rintro ρ2 v6 v w2 ⟨j, c6, C, hj, rfl, rfl, hh⟩;by_cases hjN : j < N
    ·obtain ⟨x, hx⟩ := av (l := z6 ds) (k := j) (by rw [Ct]; omega);have hx2 : (HJ ds)[j]? = some (nR (nD x)) := by unfold HJ; rw [St, hx]; rfl
     have zx := OB (Sp hx) htl htw;have hj1 : (j + 1) * (d + 1) ≤ N * (d + 1) := S9 _ hjN;rw [Tl] at hj1;obtain ⟨go, rfl⟩ := hh.cD (i := 1) rfl Sd;refine sr ?_;refine dq ?_;refine qN ?_;refine ct (vs := [_, _, _]) aP.out rfl (hh.eL (f := NR.cells) (x := nR (nD x)) (l := HJ ds) (i := 1) rfl NR.len Se hx2) rfl Se ?_;refine bJ hh ?_;intro b8 w8 hh;refine bK hh 0 [_,_,_] ?_;intro ws hh;replace hh : Hp _ (.blk _ _ [_, _, _] _ :: _) _ := hh;refine aa (sr (mI ?_));refine aC (nj d _ (hT.hp hh) hd127) ak.out rfl Se ?_;rintro e_ w34 ⟨A34, c34, rfl, hown_, hb_⟩;refine ⟨_, rfl, ?_⟩;replace hh := hh.aO (x := .row _ _ _ _ _ _) hb_ hown_;refine aK (mI (aa (ao ?_)));refine bP [6, 10, 36, 37, 38, 39, 40, 41, 42, 43, 44, 45, 46, 47] 6 36
      (fun v6 v w' => ∃ (k c6 : Nat) (C : Option Addr), k ≤ d + 1 ∧ v = .int .i64 k ∧ v6 = .slice C (j * (d + 1) + k) c6 ∧ Hp w [.row A34 (d + 1) c34 65 3 (aw NR.cells (lV d)), .blk b8 65 [.bool (nR (nD x)).neg, .string (nR (nD x)).bf, .int .i64 (nR (nD x)).e] (0, 0), .row C (j * (d + 1) + k) c6 65 3 (aw NR.cells ((JH ds d j ++ ((lU d).take k).map (x * ·)).map fun k => nR (nD k))), .row (some ⟨go, 0, none⟩) N c3 65 3 (aw NR.cells (HJ ds))] w')
      (fun _ v _ => d + 1 - (intOf v).toNat) ?_ ?_
     ·refine ⟨0, c6, C, Sn _, rfl, rfl, ?_⟩;rw [UF, Tx, S3];exact hh
     ·clear hh;rintro ρ3 v6 v w3 ⟨k, c6, C, hk, rfl, rfl, hh⟩;by_cases hkd : k < d + 1
      ·have hb1 := rB (n := d) (k := k) Sd;have hb2 := lv (n := d) (k := k) Sd;have zb := pJ d k hd127;have hmul := fun A cc w1 hT1 hS1 => iD A 2 cc [nR (nD x), nR (nD (bin d k))] w1 hT1 hS1 (by simpa using ⟨zx.ok Sd, zb.ok Sd⟩) 1600 (by simpa [cn] using ⟨zx, zb.mono Sd⟩) Sd Sd;rw [show iX ([nR (nD x), nR (nD (bin d k))].map NR.d) = nD (x * bin d k) by rw [MT]; show 1 * (nR (nD x)).d * (nR (nD (bin d k))).d = _; rw [cn, cn, Uz]] at hmul;obtain ⟨ga, rfl⟩ := hh.cD (i := 0) rfl Sd;refine sr ?_;refine dq ?_;refine cG (k := k) bq.out aP.size rfl rfl Sd Sd Se ?_;refine ct (vs := [_, _, _]) aP.out rfl (hh.eL (f := NR.cells) (x := nR (nD (bin d k))) (l := lV d) (i := 0) rfl NR.len Se hb2) rfl Se ?_;refine bJ hh ?_;intro b10 w10 hh;refine bK hh 0 [_,_,_] ?_;intro ws hh;replace hh : Hp _ (.blk _ _ [_, _, _] _ :: _) _ := hh;refine aa (al (mL ?_));refine cu hh 2 [_,_,_] ?_;refine cu hh 0 [_,_,_] ?_;refine u2 ?_;intro b43 w43 hh;refine br hh (hmul _ _ _ (hT.hp hh) (hh.aD (i := 0) rfl)) rfl ?_;intro w44 hh;refine qu ?_;intro b45 w45 hh
       refine cR hh (i := 5) rfl rfl rfl (hh.aD (i := 0) rfl) bq.out aP.out rfl Se (by first | rfl | exact ez _ | exact du _ | exact bU _ | exact cw NR.one _) Sd Sd Se ?_;intro A46 c46 w46 hh;simp only [Sy, Tb] at hh;replace hh := hh.sub (Th _ _);refine na ?_;refine a9 (mI (az (ai ?_)));replace hh := hh.sub (Sm _ (Sm _ (Sk _ (Sk _ (Sk _ (Sk _ SD))))));refine ⟨⟨k + 1, c46, A46, Sd, rfl, rfl, ?_⟩, by show d + 1 - (k + 1) < d + 1 - k; omega, ?_⟩
       ·have e : (JH ds d j ++ ((lU d).take (k + 1)).map (x * ·)).map (fun k => nR (nD k)) = (JH ds d j ++ ((lU d).take k).map (x * ·)).map (fun k => nR (nD k)) ++ [nR (nD (x * bin d k))] := by rw [ay hb1]; simp
        rw [e, cA];exact hh
       ·exact eB
      ·obtain rfl : k = d + 1 := Sd;rw [Su (by rw [sF]; omega), ← FI hx] at hh;refine sr ?_;refine te ?_;refine a9 (mI (az (ai ?_)));replace hh := hh.sub (Sm _ (Sm _ (Sk _ (Sk _ SD))));refine ⟨⟨j + 1, c6, C, Sd, rfl, ?_, ?_⟩, by show N - (j + 1) < N - j; omega, ?_⟩
       ·rw [Tl]; rfl
       ·rw [Tl]; exact hh
       ·exact eB
    ·obtain rfl : j = N := Sd;rw [← hsnoc, ← hstep] at hh;rw [← hstep];refine sr ?_;refine a6 (aa (ah (cF (aV (aE (aE (bo (ai (al (mL (aL (az (bg (ai (al ?_)))))))))))))));refine a9 (mI (az (ai ?_)));replace hh := hh.sub (Sk _ (Sm _ SD));refine ⟨⟨i + 1, c6, C, Sd, rfl, rfl, hh⟩, by show n - (i + 1) < n - i; omega, ?_⟩;exact eB
  ·obtain rfl : i = n := Sd;rw [Su Sd] at hh ⊢;exact I1
end Go.Proofs.YteeckcbbnegmcaaGreatDoor
